/-
  DERIVED. GIVEN WITH THE SEED: THE CARDS: each row of YtbpihhelojjedaaDoorRows.lean that lists a variable, with what it lists TIED to the program's text (the seventh form; the later family's looks); each row that meets fmt, with fmt's text TOLD by the authors' own Lean function (tested against real Go, not proved from fmt's source: count such statements apart). THE CARD IS WHAT COUNTS. Prove the row's statement (the work); the ties are given (YtbpihhelojjedaaDoorTie.lean); close each card by the builder's one call (the guide's Derived/Test/ToyasCard.lean, 'card_holds'). Laid BY PROGRAM, IN A SANDBOX (cutbox-door.mjs). By AI agents, Wed Nov 11 2026. No macro, syntax, notation, axiom, sorry.
-/
import Derived.Test.YtbpihhelojjedaaDoorRows
import GoSem.ClaimSeven
namespace Go.Proofs.YtbpihhelojjedaaDoor
namespace Rows

/-- THE TIED CARD OF 'porterlaw16.SpotsMatch'. -/
def spotsMatchCard : Claim7 := { stood := { row := spotsMatchRow, standIns := [], harness := (true, "01e9944868ba614b026a6e7b552b154f4ce4230f3435eda961177dff3d799949"), looks := true }, kinds := [], alts := [], laidByText := true, laidKinds := [.data], laidTests := true, laidLooks := .later }
def SpotsMatchCardSaid : Prop := Claim7.holds Tryd.pinned (.plain (OpenSpec.ofChange spotsMatchSpec)) spotsMatchCard

/-- THE TIED CARD OF 'porterlaw16.SpotsOf'. -/
def spotsOfCard : Claim7 := { stood := { row := spotsOfRow, standIns := [], harness := (true, "01e9944868ba614b026a6e7b552b154f4ce4230f3435eda961177dff3d799949"), looks := true }, kinds := [], alts := [], laidByText := true, laidKinds := [.data], laidTests := true, laidLooks := .later }
def SpotsOfCardSaid : Prop := Claim7.holds Tryd.pinned (.plain (OpenSpec.ofChange spotsOfSpec)) spotsOfCard

/-- THE TIED CARD OF 'porterlaw16.SpotsTexts'. -/
def spotsTextsCard : Claim7 := { stood := { row := spotsTextsRow, standIns := [], harness := (true, "01e9944868ba614b026a6e7b552b154f4ce4230f3435eda961177dff3d799949"), looks := true }, kinds := [], alts := [], laidByText := true, laidKinds := [.data], laidTests := true, laidLooks := .later }
def SpotsTextsCardSaid : Prop := Claim7.holds Tryd.pinned (.plain (OpenSpec.ofChange spotsTextsSpec)) spotsTextsCard

/-- THE SECOND FORM's CARD OF 'porterlaw16.SpotsMatch'. -/
def spotsMatchUptoCard : Claim7 := { stood := { row := spotsMatchUptoRow, standIns := [], harness := (true, "01e9944868ba614b026a6e7b552b154f4ce4230f3435eda961177dff3d799949"), looks := true }, kinds := [], alts := [], laidByText := true, laidKinds := [.data], laidTests := true, laidLooks := .later }
def SpotsMatchUptoCardSaid : Prop := Claim7.holds Tryd.pinned (.plain (OpenSpec.upto spotsMatchSpec)) spotsMatchUptoCard

/-- THE SECOND FORM's CARD OF 'porterlaw16.SpotsOf'. -/
def spotsOfUptoCard : Claim7 := { stood := { row := spotsOfUptoRow, standIns := [], harness := (true, "01e9944868ba614b026a6e7b552b154f4ce4230f3435eda961177dff3d799949"), looks := true }, kinds := [], alts := [], laidByText := true, laidKinds := [.data], laidTests := true, laidLooks := .later }
def SpotsOfUptoCardSaid : Prop := Claim7.holds Tryd.pinned (.plain (OpenSpec.upto spotsOfSpec)) spotsOfUptoCard

/-- THE SECOND FORM's CARD OF 'porterlaw16.SpotsTexts'. -/
def spotsTextsUptoCard : Claim7 := { stood := { row := spotsTextsUptoRow, standIns := [], harness := (true, "01e9944868ba614b026a6e7b552b154f4ce4230f3435eda961177dff3d799949"), looks := true }, kinds := [], alts := [], laidByText := true, laidKinds := [.data], laidTests := true, laidLooks := .later }
def SpotsTextsUptoCardSaid : Prop := Claim7.holds Tryd.pinned (.plain (OpenSpec.upto spotsTextsSpec)) spotsTextsUptoCard
end Rows
end Go.Proofs.YtbpihhelojjedaaDoor
