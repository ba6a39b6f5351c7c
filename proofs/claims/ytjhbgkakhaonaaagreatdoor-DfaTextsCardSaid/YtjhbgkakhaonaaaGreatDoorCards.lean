/-
  DERIVED. GIVEN WITH THE SEED: THE CARDS: each row of YtjhbgkakhaonaaaGreatDoorRows.lean that lists a variable, with what it lists TIED to the program's text (the seventh form; the later family's looks); each row that meets fmt, with fmt's text TOLD by the authors' own Lean function (tested against real Go, not proved from fmt's source: count such statements apart). THE CARD IS WHAT COUNTS. Prove the row's statement (the work); the ties are given (YtjhbgkakhaonaaaGreatDoorTie.lean); close each card by the builder's one call (the guide's Derived/Test/ToyasCard.lean, 'card_holds'). Laid BY PROGRAM, IN A SANDBOX (cutbox-door.mjs). By AI agents, Wed Nov 11 2026. No macro, syntax, notation, axiom, sorry.
-/
import Derived.Test.YtjhbgkakhaonaaaGreatDoorRows
import GoSem.ClaimSeven
namespace Go.Proofs.YtjhbgkakhaonaaaGreatDoor
namespace Rows

/-- THE TIED CARD OF 'porterlaw18.DfaRuns'. -/
def dfaRunsCard : Claim7 := { stood := { row := dfaRunsRow, standIns := [], harness := (true, "fa64e67e1cf498d39f4da71e0b037944f8e92097f9a4b747c240ba8ead8ddc16"), looks := true }, kinds := [], alts := [], laidByText := true, laidKinds := [.data], laidTests := true, laidLooks := .later }
def DfaRunsCardSaid : Prop := Claim7.holds Tryz.pinned (.plain (OpenSpec.ofChange dfaRunsSpec)) dfaRunsCard

/-- THE TIED CARD OF 'porterlaw18.DfaOf'. -/
def dfaOfCard : Claim7 := { stood := { row := dfaOfRow, standIns := [], harness := (true, "fa64e67e1cf498d39f4da71e0b037944f8e92097f9a4b747c240ba8ead8ddc16"), looks := true }, kinds := [], alts := [], laidByText := true, laidKinds := [.data], laidTests := true, laidLooks := .later }
def DfaOfCardSaid : Prop := Claim7.holds Tryz.pinned (.plain (OpenSpec.ofChange dfaOfSpec)) dfaOfCard

/-- THE TIED CARD OF 'porterlaw18.DfaWords'. -/
def dfaWordsCard : Claim7 := { stood := { row := dfaWordsRow, standIns := [], harness := (true, "fa64e67e1cf498d39f4da71e0b037944f8e92097f9a4b747c240ba8ead8ddc16"), looks := true }, kinds := [], alts := [], laidByText := true, laidKinds := [.data], laidTests := true, laidLooks := .later }
def DfaWordsCardSaid : Prop := Claim7.holds Tryz.pinned (.plain (OpenSpec.ofChange dfaWordsSpec)) dfaWordsCard

/-- THE TIED CARD OF 'porterlaw18.DfaTexts'. -/
def dfaTextsCard : Claim7 := { stood := { row := dfaTextsRow, standIns := [], harness := (true, "fa64e67e1cf498d39f4da71e0b037944f8e92097f9a4b747c240ba8ead8ddc16"), looks := true }, kinds := [], alts := [], laidByText := true, laidKinds := [.data], laidTests := true, laidLooks := .later }
def DfaTextsCardSaid : Prop := Claim7.holds Tryz.pinned (.plain (OpenSpec.ofChange dfaTextsSpec)) dfaTextsCard

/-- THE SECOND FORM's CARD OF 'porterlaw18.DfaRuns'. -/
def dfaRunsUptoCard : Claim7 := { stood := { row := dfaRunsUptoRow, standIns := [], harness := (true, "fa64e67e1cf498d39f4da71e0b037944f8e92097f9a4b747c240ba8ead8ddc16"), looks := true }, kinds := [], alts := [], laidByText := true, laidKinds := [.data], laidTests := true, laidLooks := .later }
def DfaRunsUptoCardSaid : Prop := Claim7.holds Tryz.pinned (.plain (OpenSpec.upto dfaRunsSpec)) dfaRunsUptoCard

/-- THE SECOND FORM's CARD OF 'porterlaw18.DfaOf'. -/
def dfaOfUptoCard : Claim7 := { stood := { row := dfaOfUptoRow, standIns := [], harness := (true, "fa64e67e1cf498d39f4da71e0b037944f8e92097f9a4b747c240ba8ead8ddc16"), looks := true }, kinds := [], alts := [], laidByText := true, laidKinds := [.data], laidTests := true, laidLooks := .later }
def DfaOfUptoCardSaid : Prop := Claim7.holds Tryz.pinned (.plain (OpenSpec.upto dfaOfSpec)) dfaOfUptoCard

/-- THE SECOND FORM's CARD OF 'porterlaw18.DfaWords'. -/
def dfaWordsUptoCard : Claim7 := { stood := { row := dfaWordsUptoRow, standIns := [], harness := (true, "fa64e67e1cf498d39f4da71e0b037944f8e92097f9a4b747c240ba8ead8ddc16"), looks := true }, kinds := [], alts := [], laidByText := true, laidKinds := [.data], laidTests := true, laidLooks := .later }
def DfaWordsUptoCardSaid : Prop := Claim7.holds Tryz.pinned (.plain (OpenSpec.upto dfaWordsSpec)) dfaWordsUptoCard

/-- THE SECOND FORM's CARD OF 'porterlaw18.DfaTexts'. -/
def dfaTextsUptoCard : Claim7 := { stood := { row := dfaTextsUptoRow, standIns := [], harness := (true, "fa64e67e1cf498d39f4da71e0b037944f8e92097f9a4b747c240ba8ead8ddc16"), looks := true }, kinds := [], alts := [], laidByText := true, laidKinds := [.data], laidTests := true, laidLooks := .later }
def DfaTextsUptoCardSaid : Prop := Claim7.holds Tryz.pinned (.plain (OpenSpec.upto dfaTextsSpec)) dfaTextsUptoCard
end Rows
end Go.Proofs.YtjhbgkakhaonaaaGreatDoor
