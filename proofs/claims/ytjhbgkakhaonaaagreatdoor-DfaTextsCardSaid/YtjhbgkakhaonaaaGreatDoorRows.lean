/-
  NARROWER THAN 'FOR EVERY INPUT', by the rows' own cells (each row's printed sentence says how): DfaRuns: laid · DfaOf: laid · DfaWords: laid · DfaTexts: loops, laid.
  DERIVED. THE GIVEN ROWS OF THIS SEAT. 4 by the template 'for every input the law returns true; each argument reads behind the call as it read before'; 0 by the template 'total and deterministic' (their statements: YtjhbgkakhaonaaaGreatDoorTotals.lean).
  GIVEN WITH THE SEED: the statements are not yours to turn. If you find one false, say at which input.
  Laid BY PROGRAM, IN A SANDBOX (cutbox-rows.mjs): the forced cells as the released guide's own fill.sh prints them over the translation afa5c5d6b1e3647a… (all of the seat's roots in one cut). By AI agents, Wed Nov 11 2026. No macro, syntax, notation, axiom, sorry.
-/
import Derived.Test.YtjhbgkakhaonaaaGreatDoorChecked
import GoSem.Claim
import GoSem.ClaimJoined
import GoSem.ClaimMapViews
import Derived.JoinedTies
import Derived.KernelRfl
namespace Go.Proofs.YtjhbgkakhaonaaaGreatDoor
/- THE CELL 'sum', in the pinned program and in every row, IS THE sha256 OF THE DUMP (.gsa) THAT YtjhbgkakhaonaaaGreatDoorProg.lean LOADS. Nothing in Lean hashes anything: it is a label: what it is worth is what the hold of that sum in a sandbox is worth. -/
noncomputable def Tryz.pinned : Pinned := { name := "ytjhbgkakhaonaaagreatdoor", sum := "afa5c5d6b1e3647a638dd13a824a33943a8afe2bb2a9f83157bb020b65e425a1", checked := Tryz.checked }
namespace Rows
def none {H : Type} : Left H := { results := [], args := [] }

/- WHAT THE LISTED PACKAGE-LEVEL VARIABLES READ AS WHEN THE CALL BEGINS. Each datum BY PROGRAM (the guide's laid-datum.mjs) off the statement by which the dump's own 'gosem.cut.vars' lays the variable. In a bare row this is a premise. The card (YtjhbgkakhaonaaaGreatDoorCards.lean) ties it to the program's text. -/
def laid_math_bits_deBruijn64tab {H : Type} : DataW H := .agg [.lit (.int .u8 0), .lit (.int .u8 1), .lit (.int .u8 56), .lit (.int .u8 2), .lit (.int .u8 57), .lit (.int .u8 49), .lit (.int .u8 28), .lit (.int .u8 3), .lit (.int .u8 61), .lit (.int .u8 58), .lit (.int .u8 42), .lit (.int .u8 50), .lit (.int .u8 38), .lit (.int .u8 29), .lit (.int .u8 17), .lit (.int .u8 4), .lit (.int .u8 62), .lit (.int .u8 47), .lit (.int .u8 59), .lit (.int .u8 36), .lit (.int .u8 45), .lit (.int .u8 43), .lit (.int .u8 51), .lit (.int .u8 22), .lit (.int .u8 53), .lit (.int .u8 39), .lit (.int .u8 33), .lit (.int .u8 30), .lit (.int .u8 24), .lit (.int .u8 18), .lit (.int .u8 12), .lit (.int .u8 5), .lit (.int .u8 63), .lit (.int .u8 55), .lit (.int .u8 48), .lit (.int .u8 27), .lit (.int .u8 60), .lit (.int .u8 41), .lit (.int .u8 37), .lit (.int .u8 16), .lit (.int .u8 46), .lit (.int .u8 35), .lit (.int .u8 44), .lit (.int .u8 21), .lit (.int .u8 52), .lit (.int .u8 32), .lit (.int .u8 23), .lit (.int .u8 11), .lit (.int .u8 54), .lit (.int .u8 26), .lit (.int .u8 40), .lit (.int .u8 15), .lit (.int .u8 34), .lit (.int .u8 20), .lit (.int .u8 31), .lit (.int .u8 10), .lit (.int .u8 25), .lit (.int .u8 14), .lit (.int .u8 19), .lit (.int .u8 9), .lit (.int .u8 13), .lit (.int .u8 8), .lit (.int .u8 7), .lit (.int .u8 6)]

/-- 'porterlaw18.DfaRuns': WHATEVER THE INPUT: true; the input reads as it did. -/
def dfaRunsSpec : ChangeSpec := { name := "dfaRuns", fn := fun _ => fun
  | [d1, d2] => { results := [.lit (.bool true)], args := [d1, d2] }
  | _ => none }
def dfaRunsRow : OpenClaim := { program := "ytjhbgkakhaonaaagreatdoor", sum := "afa5c5d6b1e3647a638dd13a824a33943a8afe2bb2a9f83157bb020b65e425a1", func := "porter/porterlaw18.DfaRuns", spec := "dfaRuns", inPlace := ["internal/abi.NoEscape", "internal/bytealg.IndexByteString"], unfollowed := true, recurses := true, named := ["math/bits.deBruijn64tab"], plainKeys := false, apart := false, laid := [("math/bits.deBruijn64tab", laid_math_bits_deBruijn64tab)] }
def DfaRunsSaid : Prop := dfaRunsRow.holds Tryz.pinned (OpenSpec.ofChange dfaRunsSpec)

/-- ITS FALSE NEIGHBOUR: 'it returns false'. Refute it at one input. -/
def dfaRunsWrong : ChangeSpec := { name := "dfaRuns", fn := fun _ => fun
  | [d1, d2] => { results := [.lit (.bool false)], args := [d1, d2] }
  | _ => none }
def DfaRunsWrongFalsely : Prop := dfaRunsRow.holds Tryz.pinned (OpenSpec.ofChange dfaRunsWrong)

/-- 'porterlaw18.DfaOf': WHATEVER THE INPUT: true; the input reads as it did. -/
def dfaOfSpec : ChangeSpec := { name := "dfaOf", fn := fun _ => fun
  | [d] => { results := [.lit (.bool true)], args := [d] }
  | _ => none }
def dfaOfRow : OpenClaim := { program := "ytjhbgkakhaonaaagreatdoor", sum := "afa5c5d6b1e3647a638dd13a824a33943a8afe2bb2a9f83157bb020b65e425a1", func := "porter/porterlaw18.DfaOf", spec := "dfaOf", inPlace := ["internal/abi.NoEscape", "internal/bytealg.IndexByteString"], unfollowed := true, recurses := true, named := ["math/bits.deBruijn64tab"], plainKeys := false, apart := false, laid := [("math/bits.deBruijn64tab", laid_math_bits_deBruijn64tab)] }
def DfaOfSaid : Prop := dfaOfRow.holds Tryz.pinned (OpenSpec.ofChange dfaOfSpec)

/-- ITS FALSE NEIGHBOUR: 'it returns false'. Refute it at one input. -/
def dfaOfWrong : ChangeSpec := { name := "dfaOf", fn := fun _ => fun
  | [d] => { results := [.lit (.bool false)], args := [d] }
  | _ => none }
def DfaOfWrongFalsely : Prop := dfaOfRow.holds Tryz.pinned (OpenSpec.ofChange dfaOfWrong)

/-- 'porterlaw18.DfaWords': WHATEVER THE INPUT: true; the input reads as it did. -/
def dfaWordsSpec : ChangeSpec := { name := "dfaWords", fn := fun _ => fun
  | [d1, d2] => { results := [.lit (.bool true)], args := [d1, d2] }
  | _ => none }
def dfaWordsRow : OpenClaim := { program := "ytjhbgkakhaonaaagreatdoor", sum := "afa5c5d6b1e3647a638dd13a824a33943a8afe2bb2a9f83157bb020b65e425a1", func := "porter/porterlaw18.DfaWords", spec := "dfaWords", inPlace := ["internal/abi.NoEscape", "internal/bytealg.IndexByteString"], unfollowed := true, recurses := true, named := ["math/bits.deBruijn64tab"], plainKeys := false, apart := false, laid := [("math/bits.deBruijn64tab", laid_math_bits_deBruijn64tab)] }
def DfaWordsSaid : Prop := dfaWordsRow.holds Tryz.pinned (OpenSpec.ofChange dfaWordsSpec)

/-- ITS FALSE NEIGHBOUR: 'it returns false'. Refute it at one input. -/
def dfaWordsWrong : ChangeSpec := { name := "dfaWords", fn := fun _ => fun
  | [d1, d2] => { results := [.lit (.bool false)], args := [d1, d2] }
  | _ => none }
def DfaWordsWrongFalsely : Prop := dfaWordsRow.holds Tryz.pinned (OpenSpec.ofChange dfaWordsWrong)

/-- 'porterlaw18.DfaTexts': WHATEVER THE INPUT: true; the input reads as it did. -/
def dfaTextsSpec : ChangeSpec := { name := "dfaTexts", fn := fun _ => fun
  | [d1, d2] => { results := [.lit (.bool true)], args := [d1, d2] }
  | _ => none }
def dfaTextsRow : OpenClaim := { program := "ytjhbgkakhaonaaagreatdoor", sum := "afa5c5d6b1e3647a638dd13a824a33943a8afe2bb2a9f83157bb020b65e425a1", func := "porter/porterlaw18.DfaTexts", spec := "dfaTexts", inPlace := ["internal/abi.NoEscape", "internal/bytealg.IndexByteString"], unfollowed := true, recurses := true, named := ["math/bits.deBruijn64tab"], loops := true, plainKeys := false, apart := false, laid := [("math/bits.deBruijn64tab", laid_math_bits_deBruijn64tab)] }
def DfaTextsSaid : Prop := dfaTextsRow.holds Tryz.pinned (OpenSpec.ofChange dfaTextsSpec)

/-- ITS FALSE NEIGHBOUR: 'it returns false'. Refute it at one input. -/
def dfaTextsWrong : ChangeSpec := { name := "dfaTexts", fn := fun _ => fun
  | [d1, d2] => { results := [.lit (.bool false)], args := [d1, d2] }
  | _ => none }
def DfaTextsWrongFalsely : Prop := dfaTextsRow.holds Tryz.pinned (OpenSpec.ofChange dfaTextsWrong)

/- THE SECOND FORM. 'bulk': how many values and letters a reading holds, each counted each time it is reached (what is shared counts as often as it is met; a slice's spare places count too). A statement '..UptoSaid' is the law's where the arguments, and the package variables that the reading takes, are together of bulk at most 1048576: NARROWER than '..Said'. Prove '..Said' where nothing that the law and all that it calls make is longer than what came in: it says more and counts as full. Else prove '..UptoSaid'. A law counts once. -/
mutual
def uptoBulk {H : Type} : DataW H → Nat
  | .lit (.string bytes) => bytes.length + 1
  | .lit _ => 1
  | .nil => 1
  | .ptr d => uptoBulk d + 1
  | .slice elems spare => uptoBulkAll elems + uptoBulkAll spare + 1
  | .agg parts => uptoBulkAll parts + 1
  | .iface _ d => uptoBulk d + 1
  | .map entries => uptoBulkEntries entries + 1
  | .held _ => 1
def uptoBulkAll {H : Type} : List (DataW H) → Nat
  | [] => 0
  | d :: r => uptoBulk d + uptoBulkAll r
def uptoBulkEntries {H : Type} : List (Lit × DataW H) → Nat
  | [] => 0
  | x :: r => uptoBulkEntry x + uptoBulkEntries r
def uptoBulkEntry {H : Type} : Lit × DataW H → Nat
  | (.string bytes, d) => bytes.length + uptoBulk d + 1
  | (_, d) => uptoBulk d + 1
 end
def uptoSmall : (H : Type) → List (DataW H) → Bool := fun _ ds => decide (uptoBulkAll ds ≤ 1048576)
def OpenSpec.upto (s : _root_.Go.ChangeSpec) : _root_.Go.OpenSpec := { _root_.Go.OpenSpec.ofChange s with cond := some uptoSmall }

/-- 'porterlaw18.DfaRuns', WHERE WHAT IT READS IS OF BULK AT MOST 1048576: true; the input reads as it did. -/
def dfaRunsUptoRow : OpenClaim := { program := "ytjhbgkakhaonaaagreatdoor", sum := "afa5c5d6b1e3647a638dd13a824a33943a8afe2bb2a9f83157bb020b65e425a1", func := "porter/porterlaw18.DfaRuns", spec := "dfaRuns", inPlace := ["internal/abi.NoEscape", "internal/bytealg.IndexByteString"], unfollowed := true, recurses := true, named := ["math/bits.deBruijn64tab"], plainKeys := false, apart := false, laid := [("math/bits.deBruijn64tab", laid_math_bits_deBruijn64tab)], narrowed := true }
def DfaRunsUptoSaid : Prop := dfaRunsUptoRow.holds Tryz.pinned (OpenSpec.upto dfaRunsSpec)

/-- 'porterlaw18.DfaOf', WHERE WHAT IT READS IS OF BULK AT MOST 1048576: true; the input reads as it did. -/
def dfaOfUptoRow : OpenClaim := { program := "ytjhbgkakhaonaaagreatdoor", sum := "afa5c5d6b1e3647a638dd13a824a33943a8afe2bb2a9f83157bb020b65e425a1", func := "porter/porterlaw18.DfaOf", spec := "dfaOf", inPlace := ["internal/abi.NoEscape", "internal/bytealg.IndexByteString"], unfollowed := true, recurses := true, named := ["math/bits.deBruijn64tab"], plainKeys := false, apart := false, laid := [("math/bits.deBruijn64tab", laid_math_bits_deBruijn64tab)], narrowed := true }
def DfaOfUptoSaid : Prop := dfaOfUptoRow.holds Tryz.pinned (OpenSpec.upto dfaOfSpec)

/-- 'porterlaw18.DfaWords', WHERE WHAT IT READS IS OF BULK AT MOST 1048576: true; the input reads as it did. -/
def dfaWordsUptoRow : OpenClaim := { program := "ytjhbgkakhaonaaagreatdoor", sum := "afa5c5d6b1e3647a638dd13a824a33943a8afe2bb2a9f83157bb020b65e425a1", func := "porter/porterlaw18.DfaWords", spec := "dfaWords", inPlace := ["internal/abi.NoEscape", "internal/bytealg.IndexByteString"], unfollowed := true, recurses := true, named := ["math/bits.deBruijn64tab"], plainKeys := false, apart := false, laid := [("math/bits.deBruijn64tab", laid_math_bits_deBruijn64tab)], narrowed := true }
def DfaWordsUptoSaid : Prop := dfaWordsUptoRow.holds Tryz.pinned (OpenSpec.upto dfaWordsSpec)

/-- 'porterlaw18.DfaTexts', WHERE WHAT IT READS IS OF BULK AT MOST 1048576: true; the input reads as it did. -/
def dfaTextsUptoRow : OpenClaim := { program := "ytjhbgkakhaonaaagreatdoor", sum := "afa5c5d6b1e3647a638dd13a824a33943a8afe2bb2a9f83157bb020b65e425a1", func := "porter/porterlaw18.DfaTexts", spec := "dfaTexts", inPlace := ["internal/abi.NoEscape", "internal/bytealg.IndexByteString"], unfollowed := true, recurses := true, named := ["math/bits.deBruijn64tab"], loops := true, plainKeys := false, apart := false, laid := [("math/bits.deBruijn64tab", laid_math_bits_deBruijn64tab)], narrowed := true }
def DfaTextsUptoSaid : Prop := dfaTextsUptoRow.holds Tryz.pinned (OpenSpec.upto dfaTextsSpec)

end Rows
end Go.Proofs.YtjhbgkakhaonaaaGreatDoor
