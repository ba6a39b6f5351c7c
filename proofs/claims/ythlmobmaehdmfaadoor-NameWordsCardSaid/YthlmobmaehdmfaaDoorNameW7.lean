/- The laws of chapter 9 out of the memory's shape: the library's variable holds some number. -/
import Derived.Test.YthlmobmaehdmfaaDoorNameW6
namespace Go.Proofs.YthlmobmaehdmfaaDoor.Nm
open Go Go.RowKit Go.WideShapes
set_option maxRecDepth 100000
set_option linter.unusedSimpArgs false
set_option linter.unusedVariables false
theorem maxlen_cell (W : World) (hsh : W.ShapedOpen Tryd.prog) : ∃ m, W.cell? ⟨0, 0, none⟩ = some (.int .i64 m) := Tryd.laysM146.s1_3 W hsh
theorem cell_lt {W : World} {g : Nat} {v : Value} (h : W.cell? ⟨g, 0, none⟩ = some v) : g < W.heap.size := by
  rcases Nat.lt_or_ge g W.heap.size with h1 | h1
  · exact h1
  · simp [World.cell?, Array.getElem?_eq_none h1] at h
theorem maxlen_whole (a b s : ByteArray) (W : World) (hsh : W.ShapedOpen Tryd.prog) : Calls Tryd.prog 5 #[.string a, .string b, .string s] W (RetG (.bool true) W) := by
  obtain ⟨m, hm⟩ := maxlen_cell W hsh
  exact whole_any a b s m W hm (cell_lt hm)
end Go.Proofs.YthlmobmaehdmfaaDoor.Nm
