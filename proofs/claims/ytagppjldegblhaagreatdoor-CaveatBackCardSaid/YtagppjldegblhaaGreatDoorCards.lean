/-
  DERIVED. GIVEN WITH THE SEED: THE CARDS: each row of YtagppjldegblhaaGreatDoorRows.lean that lists a variable, with what it lists TIED to the program's text (the seventh form; the later family's looks); each row that meets fmt, with fmt's text TOLD by the authors' own Lean function (tested against real Go, not proved from fmt's source: count such statements apart). THE CARD IS WHAT COUNTS. Prove the row's statement (the work); the ties are given (YtagppjldegblhaaGreatDoorTie.lean); close each card by the builder's one call (the guide's Derived/Test/ToyasCard.lean, 'card_holds'). Laid BY PROGRAM, IN A SANDBOX (cutbox-door.mjs). By AI agents, Wed Nov 11 2026. No macro, syntax, notation, axiom, sorry.
-/
import Derived.Test.YtagppjldegblhaaGreatDoorRows
import GoSem.ClaimSeven
namespace Go.Proofs.YtagppjldegblhaaGreatDoor
namespace Rows

/-- THE TIED CARD OF 'porterlaw27.CaveatTells'. -/
def caveatTellsCard : Claim7 := { stood := { row := caveatTellsRow, standIns := [], harness := (true, "e0bba7e2dd8e78950da64e3b38731cc95c2ce52bd341c35879fa157583f88ee1"), looks := true }, kinds := [], alts := [], laidByText := true, laidKinds := [.data, .data, .data, .data, .sentinel, .sentinel, .widerDeep, .data, .pinned], laidTests := true, laidLooks := .later }
def CaveatTellsCardSaid : Prop := Claim7.holds Tryz.pinned (.plain (OpenSpec.ofChange caveatTellsSpec)) caveatTellsCard

/-- THE TIED CARD OF 'porterlaw27.CaveatReads'. -/
def caveatReadsCard : Claim7 := { stood := { row := caveatReadsRow, standIns := [], harness := (true, "e0bba7e2dd8e78950da64e3b38731cc95c2ce52bd341c35879fa157583f88ee1"), looks := true }, kinds := [], alts := [], laidByText := true, laidKinds := [.data, .data, .data, .data, .sentinel, .sentinel, .widerDeep, .data, .pinned], laidTests := true, laidLooks := .later }
def CaveatReadsCardSaid : Prop := Claim7.holds Tryz.pinned (.plain (OpenSpec.ofChange caveatReadsSpec)) caveatReadsCard

/-- THE TIED CARD OF 'porterlaw27.CaveatBack'. -/
def caveatBackCard : Claim7 := { stood := { row := caveatBackRow, standIns := [], harness := (true, "e0bba7e2dd8e78950da64e3b38731cc95c2ce52bd341c35879fa157583f88ee1"), looks := true }, kinds := [], alts := [], laidByText := true, laidKinds := [.data, .data, .data, .data, .sentinel, .sentinel, .widerDeep, .data, .pinned], laidTests := true, laidLooks := .later }
def CaveatBackCardSaid : Prop := Claim7.holds Tryz.pinned (.plain (OpenSpec.ofChange caveatBackSpec)) caveatBackCard

/-- THE SECOND FORM's CARD OF 'porterlaw27.CaveatTells'. -/
def caveatTellsUptoCard : Claim7 := { stood := { row := caveatTellsUptoRow, standIns := [], harness := (true, "e0bba7e2dd8e78950da64e3b38731cc95c2ce52bd341c35879fa157583f88ee1"), looks := true }, kinds := [], alts := [], laidByText := true, laidKinds := [.data, .data, .data, .data, .sentinel, .sentinel, .widerDeep, .data, .pinned], laidTests := true, laidLooks := .later }
def CaveatTellsUptoCardSaid : Prop := Claim7.holds Tryz.pinned (.plain (OpenSpec.upto caveatTellsSpec)) caveatTellsUptoCard

/-- THE SECOND FORM's CARD OF 'porterlaw27.CaveatReads'. -/
def caveatReadsUptoCard : Claim7 := { stood := { row := caveatReadsUptoRow, standIns := [], harness := (true, "e0bba7e2dd8e78950da64e3b38731cc95c2ce52bd341c35879fa157583f88ee1"), looks := true }, kinds := [], alts := [], laidByText := true, laidKinds := [.data, .data, .data, .data, .sentinel, .sentinel, .widerDeep, .data, .pinned], laidTests := true, laidLooks := .later }
def CaveatReadsUptoCardSaid : Prop := Claim7.holds Tryz.pinned (.plain (OpenSpec.upto caveatReadsSpec)) caveatReadsUptoCard

/-- THE SECOND FORM's CARD OF 'porterlaw27.CaveatBack'. -/
def caveatBackUptoCard : Claim7 := { stood := { row := caveatBackUptoRow, standIns := [], harness := (true, "e0bba7e2dd8e78950da64e3b38731cc95c2ce52bd341c35879fa157583f88ee1"), looks := true }, kinds := [], alts := [], laidByText := true, laidKinds := [.data, .data, .data, .data, .sentinel, .sentinel, .widerDeep, .data, .pinned], laidTests := true, laidLooks := .later }
def CaveatBackUptoCardSaid : Prop := Claim7.holds Tryz.pinned (.plain (OpenSpec.upto caveatBackSpec)) caveatBackUptoCard
end Rows
end Go.Proofs.YtagppjldegblhaaGreatDoor
