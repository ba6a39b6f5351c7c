/- Walks: may a state be (program). -/
import Derived.Test.YtgcgilcalmefgaaRnW2
namespace Go.Proofs.Ytgcgilcalmefgaa
open Go Go.RowKit Go.Sort
set_option maxRecDepth 100000
set_option linter.unusedSimpArgs false
set_option linter.unusedVariables false
set_option maxHeartbeats 2000000
theorem right_len {s : Rn.S} (h : ¬ s.tens.length ≤ 16) : Rn.right s = false := by unfold Rn.right; simp [h]
theorem right_serial {s : Rn.S} (h : Rn.fromB s.serial 0 = false) : Rn.right s = false := by unfold Rn.right; rw [h]; simp
theorem right_ten {s : Rn.S} {k : Nat} (hk : k < s.tens.length) (h : Rn.tenB s.tens[k] = false) : Rn.right s = false := by
  have : s.tens.all Rn.tenB = false := by
    rw [List.all_eq_false]
    exact ⟨_, List.getElem_mem hk, by rw [h]; decide⟩
  unfold Rn.right
  rw [this]
  simp
theorem right_last {s : Rn.S} (h1 : s.tens.length ≤ 16) (h2 : Rn.fromB s.serial 0 = true) (h5 : ∀ (i : Nat) (h : i < s.tens.length), Rn.tenB s.tens[i] = true) : Rn.right s = Rn.rises Rn.ltT s.tens := by
  have : s.tens.all Rn.tenB = true := by
    rw [List.all_eq_true]
    intro x hx
    obtain ⟨i, hi, rfl⟩ := List.mem_iff_getElem.1 hx
    exact h5 i hi
  unfold Rn.right
  rw [h2, this]
  simp [h1]
def PRightAt (s : Rn.S) (w : World) (v : Value) (wr : World) : Prop := ∃ k : Nat, v = .int .i64 (k : Nat) ∧ k ≤ s.tens.length ∧ (∀ (i : Nat) (h : i < s.tens.length), i < k → Rn.tenB s.tens[i] = true) ∧ Below w.heap.size w wr
theorem pright_any (s : Rn.S) (A : Option Addr) (c : Nat) (G : Nat → Prop) (w : World) (hG : ∀ b, G b → b < w.heap.size) (hl : s.tens.length ≤ maxLen) (hT : TensAt G w A s.tens) :
    Calls Try.prog 13 #[.agg #[.slice (A) (s).tens.length (c), .int .i64 (s).serial]] w (RetG (.bool (Rn.right s)) w) := by
  have hb0 : Below w.heap.size w (w.alloc (.cells #[.slice (A) (s).tens.length (c), .int .i64 (s).serial] 24)) := (Below.refl _ _).alloc (Nat.le_refl _) _
  have HF0 := hide (fun w => from_any s.serial 0 w)
  have HB0 := hid_mk hb0
  have HX0 := hid_mk (Blk.new w #[.slice (A) (s).tens.length (c), .int .i64 (s).serial] 24)
  have HG := hid_mk hG
  have HK := hid_mk hT
  unfold maxLen at hl
  clear hG hT hb0
  by_cases h8 : s.tens.length ≤ 16
  case neg =>
    have HE := hid_mk (right_len h8)
    have f8 : decide (16 < s.tens.length) = true := by simp; omega
    have f8' : decide ((16 : Int) < (s.tens.length : Int)) = true := by simp; omega
    clear h8
    go_enter Try.func13, Try.ntmps13
    go_wp2
    exact bodyPost_ret (v := .bool false) (by simp [results, Try.results13, go_sem]) rfl ⟨by rw [HE.out], HB0.out⟩
  have f8 : decide (16 < s.tens.length) = false := by simp; omega
  have f8' : decide ((16 : Int) < (s.tens.length : Int)) = false := by simp; omega
  have H8 := hid_mk h8
  cases h0 : Rn.fromB s.serial 0 with
  | false =>
    have HE := hid_mk (right_serial h0)
    rw [h0] at HF0
    clear h0
    go_enter Try.func13, Try.ntmps13
    go_wp2_with fail
    refine (unhide HF0 _).mono ?_
    rintro e w2 ⟨rfl, rfl⟩
    go_wp2
    exact bodyPost_ret (v := .bool false) (by simp [results, Try.results13, go_sem]) rfl ⟨by rw [HE.out], HB0.out⟩
  | true =>
  rw [h0] at HF0
  have HW2 := hid_mk h0
  clear h0
  go_enter Try.func13, Try.ntmps13
  go_wp2_with fail
  refine (unhide HF0 _).mono ?_
  rintro e w2 ⟨rfl, rfl⟩
  go_wp2
  clear f8 f8'
  go_loopw [18] (fun v wr => PRightAt s (w.alloc (.cells #[.slice (A) (s).tens.length (c), .int .i64 (s).serial] 24)) v wr) (fun v _ => s.tens.length - (intOf v).toNat)
  case atStart => exact ⟨0, rfl, Nat.zero_le _, fun i h hi => absurd hi (by omega), Below.refl _ _⟩
  case round =>
    obtain ⟨k, rfl, hk, hall, hb⟩ := hrel
    have HA := hid_mk hall
    have HB := hid_mk hb
    have HXR := hid_mk (HX0.out.call hb)
    (have x0 : wr.cell? ⟨w.heap.size, 0, none⟩ = some (.slice (A) (s).tens.length (c)) := HXR.out.cell 0; have x1 : wr.cell? ⟨w.heap.size, 1, none⟩ = some (.int .i64 (s).serial) := HXR.out.cell 1; have xf : ∀ i, wr.frozen? ⟨w.heap.size, i, none⟩ = false := HXR.out.frozen)
    have HBW := hid_mk (HB0.out.trans (hb.mono HB0.out.size))
    have hzw : w.heap.size < wr.heap.size := HXR.out.lt
    clear hall
    by_cases hlt : k < s.tens.length
    · have hK2 := tensAt_keep HK.out (fun b h => h) (kept_below HBW.out HG.out)
      obtain ⟨b, o, A', c', e1, hg1, hft, hsl, hsn, hks, y0, y1, y2, y3⟩ := tens_at hK2 hlt
      have hbw : b < wr.heap.size := Nat.lt_of_lt_of_le (HG.out b hg1) HBW.out.size
      subst e1
      have HN : Hid (Rn.tenB s.tens[k] = false → Rn.right s = false) := hid_mk (fun h => right_ten hlt h)
      have HY : Hid (Rn.tenB s.tens[k] = true → ∀ (i : Nat) (h : i < s.tens.length), i < k + 1 → Rn.tenB s.tens[i] = true) := hid_mk (fun h i hi hik => by
        rcases Nat.lt_or_ge i k with h1 | h1
        · exact HA.out i hi h1
        · obtain rfl : i = k := by omega
          exact h)
      generalize s.tens[k] = p at *
      have hb2 : Below wr.heap.size wr (wr.alloc (.cells #[.string (p).name, .int .i64 (p).epoch, .int .i64 (p).next, .slice (A') (p).keys.length (c')] 38)) := (Below.refl _ _).alloc (Nat.le_refl _) _
      have HB2 := hid_mk (HBW.out.trans (hb2.mono HBW.out.size))
      have HB3 := hid_mk (HB.out.trans (hb2.mono HB.out.size))
      have HCP := hide (pten_any p A' c' G (wr.alloc (.cells #[.string (p).name, .int .i64 (p).epoch, .int .i64 (p).next, .slice (A') (p).keys.length (c')] 38)) (fun b hb' => Nat.lt_of_lt_of_le (HG.out b hb') HB2.out.size) hsn hsl (keysAt_keep hks (fun b h => h) (kept_below hb2 (fun b hb' => Nat.lt_of_lt_of_le (HG.out b hb') HBW.out.size))))
      clear hb hK2 hb2 hks hft hsl hsn
      generalize Rn.tenB p = t at *
      cases t
      · have HN2 := hid_mk (HN.out rfl)
        clear HN HY
        go_wp2_with fail
        refine (unhide HCP).mono ?_
        rintro e w3 ⟨rfl, hb3⟩
        have HB4 := hid_mk (HB2.out.trans (hb3.mono HB2.out.size))
        clear hb3
        go_wp2
        exact bodyPost_ret (v := .bool false) (by simp [results, Try.results13, go_sem]) rfl ⟨by rw [HN2.out], HB4.out⟩
      · have HY2 := hid_mk (HY.out rfl)
        clear HN HY
        go_wp2_with fail
        refine (unhide HCP).mono ?_
        rintro e w3 ⟨rfl, hb3⟩
        have HB4 := hid_mk (HB3.out.trans (hb3.mono HB3.out.size))
        clear hb3
        go_wp2
        go_roundw
        case rel => exact ⟨k + 1, by go_num, by omega, HY2.out, HB4.out⟩
        case measure => simp [intOf]; omega
    · have HE := hid_mk (right_last H8.out HW2.out (fun i hi => HA.out i hi (by omega)))
      have hn : ¬ ((k : Int) < (s.tens.length : Int)) := by omega
      have HRS := hide (risesT_any s.tens A c G wr (fun b hb' => Nat.lt_of_lt_of_le (HG.out b hb') HBW.out.size) (by unfold maxLen; omega) (tensAt_keep HK.out (fun b h => h) (kept_below HBW.out HG.out)))
      clear hb
      go_wp2_with fail
      refine (unhide HRS).mono ?_
      rintro e w3 ⟨rfl, hb3⟩
      have HB3 := hid_mk (HBW.out.trans (hb3.mono HBW.out.size))
      clear hb3
      go_wp2
      exact bodyPost_ret (v := .bool (Rn.rises Rn.ltT s.tens)) (by simp [results, Try.results13, go_sem]) rfl ⟨by rw [HE.out], HB3.out⟩
end Go.Proofs.Ytgcgilcalmefgaa
