/- Walks: is a state more than is gone through? -/
import Derived.Test.YtgcgilcalmefgaaRnW3
namespace Go.Proofs.Ytgcgilcalmefgaa
open Go Go.RowKit Go.Sort
set_option maxRecDepth 100000
set_option linter.unusedSimpArgs false
set_option linter.unusedVariables false
set_option maxHeartbeats 2000000
def wideT (t : Rn.T) : Bool := decide (12 < t.keys.length) || decide (100 < t.name.size)
def greatS (s : Rn.S) : Bool := decide (20 < s.tens.length) || s.tens.any wideT
theorem greatS_len {s : Rn.S} (h : 20 < s.tens.length) : greatS s = true := by unfold greatS; simp [h]
theorem greatS_at {s : Rn.S} {k : Nat} (hk : k < s.tens.length) (h : wideT s.tens[k] = true) : greatS s = true := by
  unfold greatS
  have : s.tens.any wideT = true := List.any_eq_true.2 ⟨_, List.getElem_mem hk, h⟩
  rw [this]
  simp
theorem greatS_no {s : Rn.S} (h : ¬ 20 < s.tens.length) (hall : ∀ (i : Nat) (h : i < s.tens.length), wideT s.tens[i] = false) : greatS s = false := by
  unfold greatS
  have : s.tens.any wideT = false := by
    rw [List.any_eq_false]
    intro x hx
    obtain ⟨i, hi, rfl⟩ := List.mem_iff_getElem.1 hx
    rw [hall i hi]
    decide
  rw [this]
  simp; omega
theorem greatS_spec {s : Rn.S} (h : greatS s = false) : s.tens.length ≤ 20 ∧ ∀ t ∈ s.tens, t.keys.length ≤ 12 ∧ t.name.size ≤ 100 := by
  unfold greatS wideT at h
  simp only [Bool.or_eq_false_iff, decide_eq_false_iff_not, List.any_eq_false, Bool.or_eq_true, decide_eq_true_eq, not_or] at h
  exact ⟨by omega, fun t ht => by have := h.2 t ht; omega⟩
def GreatAt (s : Rn.S) (w : World) (v : Value) (wr : World) : Prop := ∃ k : Nat, v = .int .i64 (k : Nat) ∧ k ≤ s.tens.length ∧ (∀ (i : Nat) (h : i < s.tens.length), i < k → wideT s.tens[i] = false) ∧ Below w.heap.size w wr
theorem great_any (s : Rn.S) (A : Option Addr) (c : Nat) (G : Nat → Prop) (w : World) (hG : ∀ b, G b → b < w.heap.size) (hl : s.tens.length ≤ maxLen) (hT : TensAt G w A s.tens) :
    Calls Try.prog 9 #[.agg #[.slice (A) (s).tens.length (c), .int .i64 (s).serial]] w (RetG (.bool (greatS s)) w) := by
  have hb0 : Below w.heap.size w (w.alloc (.cells #[.slice (A) (s).tens.length (c), .int .i64 (s).serial] 24)) := (by repeat (first | with_reducible exact Below.refl _ _ | with_reducible assumption | with_reducible refine Below.setCell ?_ (by first | omega | (dsimp only; omega) | (simp <;> omega)) _ | with_reducible refine Below.alloc ?_ (by first | omega | (simp <;> omega)) _ | with_reducible refine below_drewN ?_ _ | with_reducible refine Below.drew ?_))
  unfold maxLen at hl
  have HT := hid_mk hT
  have HG := hid_mk hG
  have HX0 := hid_mk (Blk.new w #[.slice (A) (s).tens.length (c), .int .i64 (s).serial] 24)
  have HB0 := hid_mk hb0
  clear hT hG hb0
  by_cases h20 : 20 < s.tens.length
  · have HE := hid_mk (greatS_len h20)
    have d1 : decide (20 < s.tens.length) = true := by simpa using h20
    have d2 : decide ((20 : Int) < (s.tens.length : Int)) = true := by simp; omega
    clear h20
    go_enter Try.func9, Try.ntmps9
    go_wp2
    exact bodyPost_ret (v := .bool true) (by simp [results, Try.results9, go_sem]) rfl ⟨by rw [HE.out], HB0.out⟩
  have H20 := hid_mk h20
  have d1 : decide (20 < s.tens.length) = false := by simpa using h20
  have d2 : decide ((20 : Int) < (s.tens.length : Int)) = false := by simp; omega
  clear h20
  go_enter Try.func9, Try.ntmps9
  go_wp2
  clear d1 d2
  go_loopw [3] (fun v wr => GreatAt s (w.alloc (.cells #[.slice (A) (s).tens.length (c), .int .i64 (s).serial] 24)) v wr) (fun v _ => s.tens.length - (intOf v).toNat)
  case atStart => exact ⟨0, rfl, Nat.zero_le _, fun i h hi => absurd hi (by omega), Below.refl _ _⟩
  case round =>
    obtain ⟨k, rfl, hk, hall, hb⟩ := hrel
    have HB := hid_mk hb
    have HBW := hid_mk (HB0.out.trans (hb.mono HB0.out.size))
    have hx := HX0.out.call hb
    (have x0 : wr.cell? ⟨w.heap.size, 0, none⟩ = some (.slice (A) (s).tens.length (c)) := hx.cell 0; have x1 : wr.cell? ⟨w.heap.size, 1, none⟩ = some (.int .i64 (s).serial) := hx.cell 1; have xf : ∀ i, wr.frozen? ⟨w.heap.size, i, none⟩ = false := hx.frozen)
    have HA := hid_mk hall
    clear hall hx
    by_cases hlt : k < s.tens.length
    · have hT2 := tensAt_keep HT.out (fun b h => h) (kept_below HBW.out HG.out)
      obtain ⟨b, o, A', c', e1, hg1, -, hkl, hnl, -, y0, y1, y2, y3⟩ := tens_at hT2 hlt
      subst e1
      unfold maxLen at hkl hnl
      have HY : Hid (wideT s.tens[k] = true → greatS s = true) := hid_mk (greatS_at hlt)
      have HN : Hid (wideT s.tens[k] = false → ∀ (i : Nat) (h : i < s.tens.length), i < k + 1 → wideT s.tens[i] = false) := hid_mk (fun h i hi hik => by
        rcases Nat.lt_or_ge i k with h1 | h1
        · exact HA.out i hi h1
        · obtain rfl : i = k := by omega
          exact h)
      generalize s.tens[k] = q at *
      clear hb hT2
      unfold wideT at HY HN
      by_cases g1 : 12 < q.keys.length
      · have HE := hid_mk (HY.out (by simp [g1]))
        have d1 : decide (12 < q.keys.length) = true := by simpa using g1
        have d2 : decide ((12 : Int) < (q.keys.length : Int)) = true := by simp; omega
        clear g1 HY HN
        go_wp2
        exact bodyPost_ret (v := .bool true) (by simp [results, Try.results9, go_sem]) rfl ⟨by rw [HE.out], HBW.out⟩
      have d1 : decide (12 < q.keys.length) = false := by simpa using g1
      have d2 : decide ((12 : Int) < (q.keys.length : Int)) = false := by simp; omega
      by_cases g2 : 100 < q.name.size
      · have HE := hid_mk (HY.out (by simp [g2]))
        have d3 : decide (100 < q.name.size) = true := by simpa using g2
        have d4 : decide ((100 : Int) < (q.name.size : Int)) = true := by simp; omega
        clear g1 g2 HY HN
        go_wp2
        exact bodyPost_ret (v := .bool true) (by simp [results, Try.results9, go_sem]) rfl ⟨by rw [HE.out], HBW.out⟩
      have d3 : decide (100 < q.name.size) = false := by simpa using g2
      have d4 : decide ((100 : Int) < (q.name.size : Int)) = false := by simp; omega
      have HN2 := hid_mk (HN.out (by simp [g1, g2]))
      clear g1 g2 HY HN
      go_wp2
      go_roundw
      case rel => exact ⟨k + 1, by go_num, by omega, HN2.out, HB.out⟩
      case measure => simp [intOf]; omega
    · have HE := hid_mk (greatS_no H20.out (fun i hi => HA.out i hi (by omega)))
      have hn : ¬ ((k : Int) < (s.tens.length : Int)) := by omega
      clear hb
      go_wp2
      exact bodyPost_ret (v := .bool false) (by simp [results, Try.results9, go_sem]) rfl ⟨by rw [HE.out], HBW.out⟩
end Go.Proofs.Ytgcgilcalmefgaa
