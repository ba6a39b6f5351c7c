/-
  DERIVED. GIVEN WITH THE SEED: THE CARDS: each row of YtpplemjjeefpdaaGreatDoorRows.lean that lists a variable, with what it lists TIED to the program's text (the seventh form; the later family's looks); each row that meets fmt, with fmt's text TOLD by the authors' own Lean function (tested against real Go, not proved from fmt's source: count such statements apart). THE CARD IS WHAT COUNTS. Prove the row's statement (the work); the ties are given (YtpplemjjeefpdaaGreatDoorTie.lean); close each card by the builder's one call (the guide's Derived/Test/ToyasCard.lean, 'card_holds'). Laid BY PROGRAM, IN A SANDBOX (cutbox-door.mjs). By AI agents, Wed Nov 11 2026. No macro, syntax, notation, axiom, sorry.
-/
import Derived.Test.YtpplemjjeefpdaaGreatDoorRows
import GoSem.ClaimSeven
namespace Go.Proofs.YtpplemjjeefpdaaGreatDoor
namespace Rows

/-- THE TIED CARD OF 'porterlaw23.SelectorReads'. -/
def selectorReadsCard : Claim7 := { stood := { row := selectorReadsRow, standIns := [], harness := (true, "d748dc01f1057196defacbb09e8c743b1677f21f48396c5907dab5ed97c627ff"), looks := true }, kinds := [], alts := [], laidByText := true, laidKinds := [.data, .data, .pinned], laidTests := true, laidLooks := .later }
def SelectorReadsCardSaid : Prop := Claim7.holds Tryz.pinned (.plain (OpenSpec.ofChange selectorReadsSpec)) selectorReadsCard

/-- THE TIED CARD OF 'porterlaw23.SelectorHolds'. -/
def selectorHoldsCard : Claim7 := { stood := { row := selectorHoldsRow, standIns := [], harness := (true, "d748dc01f1057196defacbb09e8c743b1677f21f48396c5907dab5ed97c627ff"), looks := true }, kinds := [], alts := [], laidByText := true, laidKinds := [.data, .data, .pinned], laidTests := true, laidLooks := .later }
def SelectorHoldsCardSaid : Prop := Claim7.holds Tryz.pinned (.plain (OpenSpec.ofChange selectorHoldsSpec)) selectorHoldsCard

/-- THE TIED CARD OF 'porterlaw23.SelectorOrders'. -/
def selectorOrdersCard : Claim7 := { stood := { row := selectorOrdersRow, standIns := [], harness := (true, "d748dc01f1057196defacbb09e8c743b1677f21f48396c5907dab5ed97c627ff"), looks := true }, kinds := [], alts := [], laidByText := true, laidKinds := [.data, .data, .pinned], laidTests := true, laidLooks := .later }
def SelectorOrdersCardSaid : Prop := Claim7.holds Tryz.pinned (.plain (OpenSpec.ofChange selectorOrdersSpec)) selectorOrdersCard

/-- THE TIED CARD OF 'porterlaw23.SelectorKeeps'. -/
def selectorKeepsCard : Claim7 := { stood := { row := selectorKeepsRow, standIns := [], harness := (true, "d748dc01f1057196defacbb09e8c743b1677f21f48396c5907dab5ed97c627ff"), looks := true }, kinds := [], alts := [], laidByText := true, laidKinds := [.data, .data, .pinned], laidTests := true, laidLooks := .later }
def SelectorKeepsCardSaid : Prop := Claim7.holds Tryz.pinned (.plain (OpenSpec.ofChange selectorKeepsSpec)) selectorKeepsCard

/-- THE SECOND FORM's CARD OF 'porterlaw23.SelectorReads'. -/
def selectorReadsUptoCard : Claim7 := { stood := { row := selectorReadsUptoRow, standIns := [], harness := (true, "d748dc01f1057196defacbb09e8c743b1677f21f48396c5907dab5ed97c627ff"), looks := true }, kinds := [], alts := [], laidByText := true, laidKinds := [.data, .data, .pinned], laidTests := true, laidLooks := .later }
def SelectorReadsUptoCardSaid : Prop := Claim7.holds Tryz.pinned (.plain (OpenSpec.upto selectorReadsSpec)) selectorReadsUptoCard

/-- THE SECOND FORM's CARD OF 'porterlaw23.SelectorHolds'. -/
def selectorHoldsUptoCard : Claim7 := { stood := { row := selectorHoldsUptoRow, standIns := [], harness := (true, "d748dc01f1057196defacbb09e8c743b1677f21f48396c5907dab5ed97c627ff"), looks := true }, kinds := [], alts := [], laidByText := true, laidKinds := [.data, .data, .pinned], laidTests := true, laidLooks := .later }
def SelectorHoldsUptoCardSaid : Prop := Claim7.holds Tryz.pinned (.plain (OpenSpec.upto selectorHoldsSpec)) selectorHoldsUptoCard

/-- THE SECOND FORM's CARD OF 'porterlaw23.SelectorOrders'. -/
def selectorOrdersUptoCard : Claim7 := { stood := { row := selectorOrdersUptoRow, standIns := [], harness := (true, "d748dc01f1057196defacbb09e8c743b1677f21f48396c5907dab5ed97c627ff"), looks := true }, kinds := [], alts := [], laidByText := true, laidKinds := [.data, .data, .pinned], laidTests := true, laidLooks := .later }
def SelectorOrdersUptoCardSaid : Prop := Claim7.holds Tryz.pinned (.plain (OpenSpec.upto selectorOrdersSpec)) selectorOrdersUptoCard

/-- THE SECOND FORM's CARD OF 'porterlaw23.SelectorKeeps'. -/
def selectorKeepsUptoCard : Claim7 := { stood := { row := selectorKeepsUptoRow, standIns := [], harness := (true, "d748dc01f1057196defacbb09e8c743b1677f21f48396c5907dab5ed97c627ff"), looks := true }, kinds := [], alts := [], laidByText := true, laidKinds := [.data, .data, .pinned], laidTests := true, laidLooks := .later }
def SelectorKeepsUptoCardSaid : Prop := Claim7.holds Tryz.pinned (.plain (OpenSpec.upto selectorKeepsSpec)) selectorKeepsUptoCard
end Rows
end Go.Proofs.YtpplemjjeefpdaaGreatDoor
