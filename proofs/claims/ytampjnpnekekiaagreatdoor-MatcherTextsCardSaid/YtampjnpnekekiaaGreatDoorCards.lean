/-
  DERIVED. GIVEN WITH THE SEED: THE CARDS: each row of YtampjnpnekekiaaGreatDoorRows.lean that lists a variable, with what it lists TIED to the program's text (the seventh form; the later family's looks); each row that meets fmt, with fmt's text TOLD by the authors' own Lean function (tested against real Go, not proved from fmt's source: count such statements apart). THE CARD IS WHAT COUNTS. Prove the row's statement (the work); the ties are given (YtampjnpnekekiaaGreatDoorTie.lean); close each card by the builder's one call (the guide's Derived/Test/ToyasCard.lean, 'card_holds'). Laid BY PROGRAM, IN A SANDBOX (cutbox-door.mjs). By AI agents, Wed Nov 11 2026. No macro, syntax, notation, axiom, sorry.
-/
import Derived.Test.YtampjnpnekekiaaGreatDoorRows
import GoSem.ClaimSeven
namespace Go.Proofs.YtampjnpnekekiaaGreatDoor
namespace Rows

/-- THE TIED CARD OF 'porterlaw22.MatcherAsks'. -/
def matcherAsksCard : Claim7 := { stood := { row := matcherAsksRow, standIns := [], harness := (true, "2e2b05824e2931941cadea64e4576a650bc00fee8ee48044176b4b76f72fcea2"), looks := true }, kinds := [], alts := [], laidByText := true, laidKinds := [.data, .data, .pinned], laidTests := true, laidLooks := .later }
def MatcherAsksCardSaid : Prop := Claim7.holds Tryz.pinned (.plain (OpenSpec.ofChange matcherAsksSpec)) matcherAsksCard

/-- THE TIED CARD OF 'porterlaw22.MatcherReads'. -/
def matcherReadsCard : Claim7 := { stood := { row := matcherReadsRow, standIns := [], harness := (true, "2e2b05824e2931941cadea64e4576a650bc00fee8ee48044176b4b76f72fcea2"), looks := true }, kinds := [], alts := [], laidByText := true, laidKinds := [.data, .data, .pinned], laidTests := true, laidLooks := .later }
def MatcherReadsCardSaid : Prop := Claim7.holds Tryz.pinned (.plain (OpenSpec.ofChange matcherReadsSpec)) matcherReadsCard

/-- THE TIED CARD OF 'porterlaw22.MatcherTexts'. -/
def matcherTextsCard : Claim7 := { stood := { row := matcherTextsRow, standIns := [], harness := (true, "2e2b05824e2931941cadea64e4576a650bc00fee8ee48044176b4b76f72fcea2"), looks := true }, kinds := [], alts := [], laidByText := true, laidKinds := [.data, .data, .pinned], laidTests := true, laidLooks := .later }
def MatcherTextsCardSaid : Prop := Claim7.holds Tryz.pinned (.plain (OpenSpec.ofChange matcherTextsSpec)) matcherTextsCard

/-- THE SECOND FORM's CARD OF 'porterlaw22.MatcherAsks'. -/
def matcherAsksUptoCard : Claim7 := { stood := { row := matcherAsksUptoRow, standIns := [], harness := (true, "2e2b05824e2931941cadea64e4576a650bc00fee8ee48044176b4b76f72fcea2"), looks := true }, kinds := [], alts := [], laidByText := true, laidKinds := [.data, .data, .pinned], laidTests := true, laidLooks := .later }
def MatcherAsksUptoCardSaid : Prop := Claim7.holds Tryz.pinned (.plain (OpenSpec.upto matcherAsksSpec)) matcherAsksUptoCard

/-- THE SECOND FORM's CARD OF 'porterlaw22.MatcherReads'. -/
def matcherReadsUptoCard : Claim7 := { stood := { row := matcherReadsUptoRow, standIns := [], harness := (true, "2e2b05824e2931941cadea64e4576a650bc00fee8ee48044176b4b76f72fcea2"), looks := true }, kinds := [], alts := [], laidByText := true, laidKinds := [.data, .data, .pinned], laidTests := true, laidLooks := .later }
def MatcherReadsUptoCardSaid : Prop := Claim7.holds Tryz.pinned (.plain (OpenSpec.upto matcherReadsSpec)) matcherReadsUptoCard

/-- THE SECOND FORM's CARD OF 'porterlaw22.MatcherTexts'. -/
def matcherTextsUptoCard : Claim7 := { stood := { row := matcherTextsUptoRow, standIns := [], harness := (true, "2e2b05824e2931941cadea64e4576a650bc00fee8ee48044176b4b76f72fcea2"), looks := true }, kinds := [], alts := [], laidByText := true, laidKinds := [.data, .data, .pinned], laidTests := true, laidLooks := .later }
def MatcherTextsUptoCardSaid : Prop := Claim7.holds Tryz.pinned (.plain (OpenSpec.upto matcherTextsSpec)) matcherTextsUptoCard
end Rows
end Go.Proofs.YtampjnpnekekiaaGreatDoor
