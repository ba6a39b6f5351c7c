/-
  DERIVED. GIVEN WITH THE SEED: THE CARDS: each row of YthlmobmaehdmfaaDoorRows.lean that lists a variable, with what it lists TIED to the program's text (the seventh form; the later family's looks); each row that meets fmt, with fmt's text TOLD by the authors' own Lean function (tested against real Go, not proved from fmt's source: count such statements apart). THE CARD IS WHAT COUNTS. Prove the row's statement (the work); the ties are given (YthlmobmaehdmfaaDoorTie.lean); close each card by the builder's one call (the guide's Derived/Test/ToyasCard.lean, 'card_holds'). Laid BY PROGRAM, IN A SANDBOX (cutbox-door.mjs). By AI agents, Wed Nov 11 2026. No macro, syntax, notation, axiom, sorry.
-/
import Derived.Test.YthlmobmaehdmfaaDoorRows
import GoSem.ClaimSeven
namespace Go.Proofs.YthlmobmaehdmfaaDoor
namespace Rows

/-- THE TIED CARD OF 'porterlaw09.NameTells'. -/
def nameTellsCard : Claim7 := { stood := { row := nameTellsRow, standIns := [], harness := (true, "d5ea67e57ced6a3c7577e3361ee76476b2972120e5fd2d723367923e68559d98"), looks := false }, kinds := [], alts := [], laidByText := true, laidKinds := [.data, .pinned], laidTests := true, laidLooks := .later }
def NameTellsCardSaid : Prop := Claim7.holds Tryd.pinned (.plain (OpenSpec.ofChange nameTellsSpec)) nameTellsCard

/-- THE TIED CARD OF 'porterlaw09.NameWords'. -/
def nameWordsCard : Claim7 := { stood := { row := nameWordsRow, standIns := [], harness := (true, "d5ea67e57ced6a3c7577e3361ee76476b2972120e5fd2d723367923e68559d98"), looks := false }, kinds := [], alts := [], laidByText := true, laidKinds := [.data, .pinned], laidTests := true, laidLooks := .later }
def NameWordsCardSaid : Prop := Claim7.holds Tryd.pinned (.plain (OpenSpec.ofChange nameWordsSpec)) nameWordsCard

/-- THE TIED CARD OF 'porterlaw09.NameWhole'. -/
def nameWholeCard : Claim7 := { stood := { row := nameWholeRow, standIns := [], harness := (true, "d5ea67e57ced6a3c7577e3361ee76476b2972120e5fd2d723367923e68559d98"), looks := false }, kinds := [], alts := [], laidByText := true, laidKinds := [.data, .pinned], laidTests := true, laidLooks := .later }
def NameWholeCardSaid : Prop := Claim7.holds Tryd.pinned (.plain (OpenSpec.ofChange nameWholeSpec)) nameWholeCard

/-- THE SECOND FORM's CARD OF 'porterlaw09.NameTells'. -/
def nameTellsUptoCard : Claim7 := { stood := { row := nameTellsUptoRow, standIns := [], harness := (true, "d5ea67e57ced6a3c7577e3361ee76476b2972120e5fd2d723367923e68559d98"), looks := false }, kinds := [], alts := [], laidByText := true, laidKinds := [.data, .pinned], laidTests := true, laidLooks := .later }
def NameTellsUptoCardSaid : Prop := Claim7.holds Tryd.pinned (.plain (OpenSpec.upto nameTellsSpec)) nameTellsUptoCard

/-- THE SECOND FORM's CARD OF 'porterlaw09.NameWords'. -/
def nameWordsUptoCard : Claim7 := { stood := { row := nameWordsUptoRow, standIns := [], harness := (true, "d5ea67e57ced6a3c7577e3361ee76476b2972120e5fd2d723367923e68559d98"), looks := false }, kinds := [], alts := [], laidByText := true, laidKinds := [.data, .pinned], laidTests := true, laidLooks := .later }
def NameWordsUptoCardSaid : Prop := Claim7.holds Tryd.pinned (.plain (OpenSpec.upto nameWordsSpec)) nameWordsUptoCard

/-- THE SECOND FORM's CARD OF 'porterlaw09.NameWhole'. -/
def nameWholeUptoCard : Claim7 := { stood := { row := nameWholeUptoRow, standIns := [], harness := (true, "d5ea67e57ced6a3c7577e3361ee76476b2972120e5fd2d723367923e68559d98"), looks := false }, kinds := [], alts := [], laidByText := true, laidKinds := [.data, .pinned], laidTests := true, laidLooks := .later }
def NameWholeUptoCardSaid : Prop := Claim7.holds Tryd.pinned (.plain (OpenSpec.upto nameWholeSpec)) nameWholeUptoCard
end Rows
end Go.Proofs.YthlmobmaehdmfaaDoor
