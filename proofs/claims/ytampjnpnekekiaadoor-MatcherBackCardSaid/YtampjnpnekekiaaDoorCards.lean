/-
  DERIVED. GIVEN WITH THE SEED: THE CARDS: each row of YtampjnpnekekiaaDoorRows.lean that lists a variable, with what it lists TIED to the program's text (the seventh form; the later family's looks); each row that meets fmt, with fmt's text TOLD by the authors' own Lean function (tested against real Go, not proved from fmt's source: count such statements apart). THE CARD IS WHAT COUNTS. Prove the row's statement (the work); the ties are given (YtampjnpnekekiaaDoorTie.lean); close each card by the builder's one call (the guide's Derived/Test/ToyasCard.lean, 'card_holds'). Laid BY PROGRAM, IN A SANDBOX (cutbox-door.mjs). By AI agents, Wed Nov 11 2026. No macro, syntax, notation, axiom, sorry.
-/
import Derived.Test.YtampjnpnekekiaaDoorRows
import GoSem.ClaimSeven
namespace Go.Proofs.YtampjnpnekekiaaDoor
namespace Rows

/-- THE TIED CARD OF 'porterlaw22.MatcherBack'. -/
def matcherBackCard : Claim7 := { stood := { row := matcherBackRow, standIns := [], harness := (true, "05be9903f31fba3ec8f93de34edc3f217cb55a16f26d1bde5615c3463efdcc6a"), looks := true }, kinds := [], alts := [], laidByText := true, laidKinds := [.data, .data, .pinned], laidTests := true, laidLooks := .later }
def MatcherBackCardSaid : Prop := Claim7.holds Tryd.pinned (.plain (OpenSpec.ofChange matcherBackSpec)) matcherBackCard

/-- THE SECOND FORM's CARD OF 'porterlaw22.MatcherBack'. -/
def matcherBackUptoCard : Claim7 := { stood := { row := matcherBackUptoRow, standIns := [], harness := (true, "05be9903f31fba3ec8f93de34edc3f217cb55a16f26d1bde5615c3463efdcc6a"), looks := true }, kinds := [], alts := [], laidByText := true, laidKinds := [.data, .data, .pinned], laidTests := true, laidLooks := .later }
def MatcherBackUptoCardSaid : Prop := Claim7.holds Tryd.pinned (.plain (OpenSpec.upto matcherBackSpec)) matcherBackUptoCard
end Rows
end Go.Proofs.YtampjnpnekekiaaDoor
