/- The law NameWhole. -/
import Derived.Test.YthlmobmaehdmfaaDoorNameW5
namespace Go.Proofs.YthlmobmaehdmfaaDoor.Nm
open Go Go.RowKit Go.WideShapes
set_option maxRecDepth 100000
set_option linter.unusedSimpArgs false
set_option linter.unusedVariables false
set_option maxHeartbeats 600000
theorem whole_great (a b s : ByteArray) (m : Int) (w : World) (hm : w.cell? ⟨0, 0, none⟩ = some (.int .i64 m)) (hg : 0 < w.heap.size)
    (h : 100 < a.size ∨ 100 < b.size ∨ 100 < s.size ∨ labelB b.data.toList = false) : Calls Tryd.prog 5 #[.string a, .string b, .string s] w (RetG (.bool true) w) := by
  by_cases h1 : 100 < a.size
  · clear h
    have d1 : decide (100 < (a.size : Int)) = true := by simp; omega
    go_enter Tryd.func5, Tryd.ntmps5
    go_wp2_with (go_at_call 6; refine (works_any m _ hm hg).mono ?_; rintro e w1 ⟨rfl, hb⟩)
    go_ret
    exact ⟨rfl, hb⟩
  · have d1 : decide (100 < (a.size : Int)) = false := by simp; omega
    by_cases h2 : 100 < b.size
    · clear h
      have d2 : decide (100 < (b.size : Int)) = true := by simp; omega
      go_enter Tryd.func5, Tryd.ntmps5
      go_wp2_with (go_at_call 6; refine (works_any m _ hm hg).mono ?_; rintro e w1 ⟨rfl, hb⟩)
      go_ret
      exact ⟨rfl, hb⟩
    · have d2 : decide (100 < (b.size : Int)) = false := by simp; omega
      by_cases h3 : 100 < s.size
      · clear h
        have d3 : decide (100 < (s.size : Int)) = true := by simp; omega
        go_enter Tryd.func5, Tryd.ntmps5
        go_wp2_with (go_at_call 6; refine (works_any m _ hm hg).mono ?_; rintro e w1 ⟨rfl, hb⟩)
        go_ret
        exact ⟨rfl, hb⟩
      · have d3 : decide (100 < (s.size : Int)) = false := by simp; omega
        have hl : labelB b.data.toList = false := by
          rcases h with h | h | h | h
          · exact absurd h h1
          · exact absurd h h2
          · exact absurd h h3
          · exact h
        clear h
        have HC := hide (label_is b false w hl (by omega))
        clear hl
        go_enter Tryd.func5, Tryd.ntmps5
        go_wp2_with (go_at_call 8; refine (unhide HC).mono ?_; rintro e w1 ⟨rfl, hb⟩)
        go_wp2_with fail
        refine (works_any m _ ((hb.cell (p := ⟨0, 0, none⟩) hg).trans hm) (Nat.lt_of_lt_of_le hg hb.size)).mono ?_
        rintro e w2 ⟨rfl, hb2⟩
        go_wp2
        go_ret
        exact ⟨rfl, bstep hb hb2⟩
theorem cut_whole (x b : ByteArray) (a : Nat) (r : List UInt8) (w : World) (hl : labelB b.data.toList = true) (hx : x.size ≤ 1000) (ha : a ≤ x.size) (hd : x.data.toList.drop a = b.data.toList ++ r) (hr : ∀ c ∈ r.head?, signB c.toNat false = false) :
    Calls Tryd.prog 7 #[.string x, .int .i64 a] w (RetG (.tuple #[.string b, .int .i64 ((a : Int) + b.size)]) w) := by
  refine (cut_ok x a w (by unfold maxLen; omega) ha).mono fun e w' ⟨y, he, hy, hb⟩ => ⟨?_, hb⟩
  rw [hd, run_label hl r hr] at he hy
  rw [List.take_left' rfl] at hy
  have : y = b := bytes_inj hy
  subst this
  rw [he]
  simp
theorem whole_small (a b s : ByteArray) (m : Int) (w : World) (hm : w.cell? ⟨0, 0, none⟩ = some (.int .i64 m)) (hg : 0 < w.heap.size)
    (h1 : a.size ≤ 100) (h2 : b.size ≤ 100) (h3 : s.size ≤ 100) (hl : labelB b.data.toList = true) : Calls Tryd.prog 5 #[.string a, .string b, .string s] w (RetG (.bool true) w) := by
  have HC := hide (label_is b true w hl (by omega))
  have HC1 := hide (fun w => cut_whole (a ++ b ++ ⟨#[61]⟩ ++ s) b a.size (61 :: s.data.toList) w hl (by simp [ByteArray.size_append]; show a.size + b.size + 1 + s.size ≤ 1000; omega) (by simp [ByteArray.size_append]; omega)
    (by simp [List.append_assoc]) (by simp; decide))
  have HC2 := hide (fun w => cut_whole (a ++ b) b a.size [] w hl (by simp [ByteArray.size_append]; omega) (by simp [ByteArray.size_append]) (by simp) (by simp))
  have d1 : decide (100 < (a.size : Int)) = false := by simp; omega
  have d2 : decide (100 < (b.size : Int)) = false := by simp; omega
  have d3 : decide (100 < (s.size : Int)) = false := by simp; omega
  clear hl
  go_enter Tryd.func5, Tryd.ntmps5
  go_wp2_with (go_at_call 8; refine (unhide HC).mono ?_; rintro e w1 ⟨rfl, hb⟩)
  go_wp2_with fail
  refine (unhide HC1 _).mono ?_
  rintro e w2 ⟨rfl, hb2⟩
  go_wp2_with fail
  refine (unhide HC2 _).mono ?_
  rintro e w3 ⟨rfl, hb3⟩
  have hb4 := bstep (bstep hb hb2) hb3
  go_wp2_with fail
  refine (works_any m _ ((hb4.cell (p := ⟨0, 0, none⟩) hg).trans hm) (Nat.lt_of_lt_of_le hg hb4.size)).mono ?_
  rintro e w5 ⟨rfl, hb5⟩
  go_wp2
  go_ret
  exact ⟨rfl, bstep hb4 hb5⟩
theorem whole_any (a b s : ByteArray) (m : Int) (w : World) (hm : w.cell? ⟨0, 0, none⟩ = some (.int .i64 m)) (hg : 0 < w.heap.size) :
    Calls Tryd.prog 5 #[.string a, .string b, .string s] w (RetG (.bool true) w) := by
  by_cases h : 100 < a.size ∨ 100 < b.size ∨ 100 < s.size ∨ labelB b.data.toList = false
  · exact whole_great a b s m w hm hg h
  · simp only [not_or, Bool.not_eq_false] at h
    exact whole_small a b s m w hm hg (by omega) (by omega) (by omega) h.2.2.2
end Go.Proofs.YthlmobmaehdmfaaDoor.Nm
