/- The table off the row's condition; sizes of what is read. -/
import Derived.Test.YthgcefppeaopkaaDoorWorks
import Derived.Test.YthgcefppeaopkaaDoorRows
import Derived.Lib.LaidTab
import Derived.Lib.LaidU8
namespace Go.Proofs.YthgcefppeaopkaaDoor
open Go Go.RowKit Go.Sort
set_option maxRecDepth 100000
set_option linter.unusedSimpArgs false
set_option linter.unusedVariables false
set_option maxHeartbeats 1000000
theorem laid_tab : (Rows.laid_math_bits_deBruijn64tab : DataW Unit) = Lib.tabData .u8 (Lib.deBruijn64tab.map Int.ofNat) := by kernel_rfl
theorem tab_of_laid {W : World} {rest : List (String × DataW Unit)} (h : laidMet Tryd.prog (("math/bits.deBruijn64tab", Rows.laid_math_bits_deBruijn64tab) :: rest) W) : TabW W := by
  rw [laid_tab] at h
  have hg : Tryd.prog.globalNamed "math/bits.deBruijn64tab" = some 0 := by kernel_rfl
  have h1 := Lib.tabIs_of_head (t := 97) (e := 5) (n := 64) hg (by kernel_rfl) Tryd.underlying97 Tryd.underlying5 (by kernel_rfl) (by kernel_rfl) h
  have h2 : TabAt 0 Lib.deBruijn64tab W := fun j hj => by
    rw [h1.cell hg j (by simpa using hj)]
    simp [List.getD, List.getElem?_map]
    cases Lib.deBruijn64tab[j]? <;> rfl
  refine ⟨h2, ?_⟩
  have h3 := h2 0 (by decide)
  rcases Nat.lt_or_ge 0 W.heap.size with h4 | h4
  · exact h4
  · simp [World.cell?, Array.getElem?_eq_none h4] at h3
theorem size_parse (l : List UInt8) : (Rx.parse l).1.size ≤ 10000 := by
  have hz : Rx.zero.size ≤ 10000 := by simp [Rx.zero, Node.size_eq, Node.kids, Node.sizes_nil]
  unfold Rx.parse
  split
  · exact hz
  · cases hr : Rx.alt l (Rx.atom l 16) 0 with
    | bad e p => exact hz
    | out => exact hz
    | ok n p =>
      have h1 := Rx.size_alt (Rx.size_atom l 16) (fine_atom l 16) (Nat.zero_le _) hr
      have hfi := fine_alt l (Rx.atom l 16) (fine_atom l 16) 0 (Nat.zero_le _)
      rw [hr] at hfi
      have h2 : p ≤ l.length := hfi.2
      dsimp only
      split
      · split <;> exact hz
      · show n.size ≤ 10000; omega
end Go.Proofs.YthgcefppeaopkaaDoor
