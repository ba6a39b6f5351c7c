/-
  DERIVED. GIVEN WITH THE SEED: THE CARDS: each row of YthgcefppeaopkaaDoorRows.lean that lists a variable, with what it lists TIED to the program's text (the seventh form; the later family's looks); each row that meets fmt, with fmt's text TOLD by the authors' own Lean function (tested against real Go, not proved from fmt's source: count such statements apart). THE CARD IS WHAT COUNTS. Prove the row's statement (the work); the ties are given (YthgcefppeaopkaaDoorTie.lean); close each card by the builder's one call (the guide's Derived/Test/ToyasCard.lean, 'card_holds'). Laid BY PROGRAM, IN A SANDBOX (cutbox-door.mjs). By AI agents, Wed Nov 11 2026. No macro, syntax, notation, axiom, sorry.
-/
import Derived.Test.YthgcefppeaopkaaDoorRows
import GoSem.ClaimSeven
namespace Go.Proofs.YthgcefppeaopkaaDoor
namespace Rows

/-- THE TIED CARD OF 'porterlaw13.RegexReads'. -/
def regexReadsCard : Claim7 := { stood := { row := regexReadsRow, standIns := [], harness := (true, "8739ce25549849a604b2f0528ce37fdf37031111cdf8a07e42d04f459bd19464"), looks := true }, kinds := [], alts := [], laidByText := true, laidKinds := [.data], laidTests := true, laidLooks := .later }
def RegexReadsCardSaid : Prop := Claim7.holds Tryd.pinned (.plain (OpenSpec.ofChange regexReadsSpec)) regexReadsCard

/-- THE TIED CARD OF 'porterlaw13.RegexStands'. -/
def regexStandsCard : Claim7 := { stood := { row := regexStandsRow, standIns := [], harness := (true, "8739ce25549849a604b2f0528ce37fdf37031111cdf8a07e42d04f459bd19464"), looks := true }, kinds := [], alts := [], laidByText := true, laidKinds := [.data], laidTests := true, laidLooks := .later }
def RegexStandsCardSaid : Prop := Claim7.holds Tryd.pinned (.plain (OpenSpec.ofChange regexStandsSpec)) regexStandsCard

/-- THE TIED CARD OF 'porterlaw13.RegexTells'. -/
def regexTellsCard : Claim7 := { stood := { row := regexTellsRow, standIns := [], harness := (true, "8739ce25549849a604b2f0528ce37fdf37031111cdf8a07e42d04f459bd19464"), looks := true }, kinds := [], alts := [], laidByText := true, laidKinds := [.data], laidTests := true, laidLooks := .later }
def RegexTellsCardSaid : Prop := Claim7.holds Tryd.pinned (.plain (OpenSpec.ofChange regexTellsSpec)) regexTellsCard

/-- THE TIED CARD OF 'porterlaw15.MatchEnds'. -/
def matchEndsCard : Claim7 := { stood := { row := matchEndsRow, standIns := [], harness := (true, "8739ce25549849a604b2f0528ce37fdf37031111cdf8a07e42d04f459bd19464"), looks := true }, kinds := [], alts := [], laidByText := true, laidKinds := [.data], laidTests := true, laidLooks := .later }
def MatchEndsCardSaid : Prop := Claim7.holds Tryd.pinned (.plain (OpenSpec.ofChange matchEndsSpec)) matchEndsCard

/-- THE TIED CARD OF 'porterlaw15.MatchParts'. -/
def matchPartsCard : Claim7 := { stood := { row := matchPartsRow, standIns := [], harness := (true, "8739ce25549849a604b2f0528ce37fdf37031111cdf8a07e42d04f459bd19464"), looks := true }, kinds := [], alts := [], laidByText := true, laidKinds := [.data], laidTests := true, laidLooks := .later }
def MatchPartsCardSaid : Prop := Claim7.holds Tryd.pinned (.plain (OpenSpec.ofChange matchPartsSpec)) matchPartsCard

/-- THE TIED CARD OF 'porterlaw15.MatchTimes'. -/
def matchTimesCard : Claim7 := { stood := { row := matchTimesRow, standIns := [], harness := (true, "8739ce25549849a604b2f0528ce37fdf37031111cdf8a07e42d04f459bd19464"), looks := true }, kinds := [], alts := [], laidByText := true, laidKinds := [.data], laidTests := true, laidLooks := .later }
def MatchTimesCardSaid : Prop := Claim7.holds Tryd.pinned (.plain (OpenSpec.ofChange matchTimesSpec)) matchTimesCard

/-- THE SECOND FORM's CARD OF 'porterlaw13.RegexReads'. -/
def regexReadsUptoCard : Claim7 := { stood := { row := regexReadsUptoRow, standIns := [], harness := (true, "8739ce25549849a604b2f0528ce37fdf37031111cdf8a07e42d04f459bd19464"), looks := true }, kinds := [], alts := [], laidByText := true, laidKinds := [.data], laidTests := true, laidLooks := .later }
def RegexReadsUptoCardSaid : Prop := Claim7.holds Tryd.pinned (.plain (OpenSpec.upto regexReadsSpec)) regexReadsUptoCard

/-- THE SECOND FORM's CARD OF 'porterlaw13.RegexStands'. -/
def regexStandsUptoCard : Claim7 := { stood := { row := regexStandsUptoRow, standIns := [], harness := (true, "8739ce25549849a604b2f0528ce37fdf37031111cdf8a07e42d04f459bd19464"), looks := true }, kinds := [], alts := [], laidByText := true, laidKinds := [.data], laidTests := true, laidLooks := .later }
def RegexStandsUptoCardSaid : Prop := Claim7.holds Tryd.pinned (.plain (OpenSpec.upto regexStandsSpec)) regexStandsUptoCard

/-- THE SECOND FORM's CARD OF 'porterlaw13.RegexTells'. -/
def regexTellsUptoCard : Claim7 := { stood := { row := regexTellsUptoRow, standIns := [], harness := (true, "8739ce25549849a604b2f0528ce37fdf37031111cdf8a07e42d04f459bd19464"), looks := true }, kinds := [], alts := [], laidByText := true, laidKinds := [.data], laidTests := true, laidLooks := .later }
def RegexTellsUptoCardSaid : Prop := Claim7.holds Tryd.pinned (.plain (OpenSpec.upto regexTellsSpec)) regexTellsUptoCard

/-- THE SECOND FORM's CARD OF 'porterlaw15.MatchEnds'. -/
def matchEndsUptoCard : Claim7 := { stood := { row := matchEndsUptoRow, standIns := [], harness := (true, "8739ce25549849a604b2f0528ce37fdf37031111cdf8a07e42d04f459bd19464"), looks := true }, kinds := [], alts := [], laidByText := true, laidKinds := [.data], laidTests := true, laidLooks := .later }
def MatchEndsUptoCardSaid : Prop := Claim7.holds Tryd.pinned (.plain (OpenSpec.upto matchEndsSpec)) matchEndsUptoCard

/-- THE SECOND FORM's CARD OF 'porterlaw15.MatchParts'. -/
def matchPartsUptoCard : Claim7 := { stood := { row := matchPartsUptoRow, standIns := [], harness := (true, "8739ce25549849a604b2f0528ce37fdf37031111cdf8a07e42d04f459bd19464"), looks := true }, kinds := [], alts := [], laidByText := true, laidKinds := [.data], laidTests := true, laidLooks := .later }
def MatchPartsUptoCardSaid : Prop := Claim7.holds Tryd.pinned (.plain (OpenSpec.upto matchPartsSpec)) matchPartsUptoCard

/-- THE SECOND FORM's CARD OF 'porterlaw15.MatchTimes'. -/
def matchTimesUptoCard : Claim7 := { stood := { row := matchTimesUptoRow, standIns := [], harness := (true, "8739ce25549849a604b2f0528ce37fdf37031111cdf8a07e42d04f459bd19464"), looks := true }, kinds := [], alts := [], laidByText := true, laidKinds := [.data], laidTests := true, laidLooks := .later }
def MatchTimesUptoCardSaid : Prop := Claim7.holds Tryd.pinned (.plain (OpenSpec.upto matchTimesSpec)) matchTimesUptoCard
end Rows
end Go.Proofs.YthgcefppeaopkaaDoor
