/- Walks: may a state be (reference). -/
import Derived.Test.YtgcgilcalmefgaaRnW3
import Derived.Test.YtgcgilcalmefgaaCmpW
import Derived.Test.YtgcgilcalmefgaaWordR
namespace Go.Proofs.Ytgcgilcalmefgaa
open Go Go.RowKit Go.Sort
open Nm (word_any rword_any)
set_option maxRecDepth 100000
set_option linter.unusedSimpArgs false
set_option linter.unusedVariables false
set_option maxHeartbeats 4000000
theorem ret_qq {P : Program} {f : FuncId} {args : Array Value} {v : Value} {W : World} {d : Nat} {os : Array Obj} (h : Calls P f args (grow (redrawn W d) os) (Ret v (grow (redrawn W d) os))) : Calls P f args (grow (redrawn W d) os) (fun e w'' => e = .returned v ∧ ∃ p : Regrown, w'' = grow (redrawn W p.d) p.os) :=
  h.mono fun e w' ⟨he, hw⟩ => ⟨he, ⟨d, os⟩, hw.symm⟩
theorem retN_qq {P : Program} {f : FuncId} {args : Array Value} {v : Value} {W : World} {d : Nat} {os : Array Obj} (h : Calls P f args (grow (redrawn W d) os) (RetN v (grow (redrawn W d) os))) : Calls P f args (grow (redrawn W d) os) (fun e w'' => e = .returned v ∧ ∃ p : Regrown, w'' = grow (redrawn W p.d) p.os) := regrown_callN h
theorem cmp_sign (a b : ByteArray) : decide (0 ≤ cmpL a.data.toList b.data.toList) = !Rn.less a b := by
  unfold cmpL Rn.less
  rw [toList_dat, toList_dat]
  cases Op.bytesLess a.data.toList b.data.toList
  · simp only [Bool.false_eq_true, if_false]
    split <;> rfl
  · rfl
theorem right_step {s : Rn.S} {k : Nat} (hk : k + 1 < s.tens.length) (h : Rn.ltT s.tens[k] s.tens[k + 1] = false) : Rn.right s = false := by
  unfold Rn.right
  rw [rises_no hk h]
  simp
theorem tenB_step {t : Rn.T} {k : Nat} (hk : k + 1 < t.keys.length) (h : Rn.ltK t.keys[k] t.keys[k + 1] = false) : Rn.tenB t = false := by
  unfold Rn.tenB
  rw [rises_no hk h]
  simp
theorem right_all {s : Rn.S} (h1 : s.tens.length ≤ 16) (h2 : Rn.fromB s.serial 0 = true) (h3 : ∀ (i : Nat) (h : i < s.tens.length), Rn.tenB s.tens[i] = true) (h4 : ∀ (i : Nat) (h : i + 1 < s.tens.length), Rn.ltT s.tens[i] s.tens[i + 1] = true) : Rn.right s = true := by
  rw [right_last h1 h2 h3]
  exact (rises_iff _ _).2 h4
theorem tenB_all {t : Rn.T} (h1 : Nm.wordB t.name.data.toList = true) (h2 : Rn.fromB t.epoch 0 = true) (h3 : Rn.fromB t.next 1 = true) (h4 : t.keys.length ≤ 8) (h5 : ∀ (i : Nat) (h : i < t.keys.length), Rn.keyB t.next t.keys[i] = true) (h6 : ∀ (i : Nat) (h : i + 1 < t.keys.length), Rn.ltK t.keys[i] t.keys[i + 1] = true) : Rn.tenB t = true := by
  rw [tenB_last h1 h2 h3 h4 h5]
  exact (rises_iff _ _).2 h6
def RRightAt (s : Rn.S) (w : World) (v : Value) (wr : World) : Prop := ∃ k : Nat, v = .int .i64 (k : Nat) ∧ k ≤ s.tens.length ∧ (∀ (i : Nat) (h : i < s.tens.length), i < k → Rn.tenB s.tens[i] = true) ∧ (∀ (i : Nat) (h : i + 1 < s.tens.length), i + 1 < k → Rn.ltT s.tens[i] s.tens[i + 1] = true) ∧ Below w.heap.size w wr
def RKeysAt (t : Rn.T) (w : World) (v : Value) (wr : World) : Prop := ∃ k : Nat, v = .int .i64 (k : Nat) ∧ k ≤ t.keys.length ∧ (∀ (i : Nat) (h : i < t.keys.length), i < k → Rn.keyB t.next t.keys[i] = true) ∧ (∀ (i : Nat) (h : i + 1 < t.keys.length), i + 1 < k → Rn.ltK t.keys[i] t.keys[i + 1] = true) ∧ Below w.heap.size w wr
theorem rright38_any (s : Rn.S) (A : Option Addr) (c : Nat) (G : Nat → Prop) (w : World) (hG : ∀ b, G b → b < w.heap.size) (hl : s.tens.length ≤ maxLen) (hT : TensAt G w A s.tens) :
    Calls Try.prog 14 #[.agg #[.slice (A) (s).tens.length (c), .int .i64 (s).serial]] w (RetG (.bool (Rn.right s)) w) := by
  have hb0 : Below w.heap.size w (w.alloc (.cells #[.slice (A) (s).tens.length (c), .int .i64 (s).serial] 24)) := (Below.refl _ _).alloc (Nat.le_refl _) _
  have HF0 := hide (fun w => in_any s.serial 0 w)
  have HB0 := hid_mk hb0
  have HX0 := hid_mk (Blk.new w #[.slice (A) (s).tens.length (c), .int .i64 (s).serial] 24)
  have HG := hid_mk hG
  have HK := hid_mk hT
  unfold maxLen at hl
  clear hG hT hb0
  by_cases h8 : s.tens.length ≤ 16
  case neg =>
    have HE := hid_mk (right_len h8)
    have f8 : decide (16 < s.tens.length) = true := by simp; omega
    have f8' : decide ((16 : Int) < (s.tens.length : Int)) = true := by simp; omega
    clear h8
    go_enter Try.func14, Try.ntmps14
    go_wp2
    exact bodyPost_ret (v := .bool false) (by simp [results, Try.results14, go_sem]) rfl ⟨by rw [HE.out], HB0.out⟩
  have f8 : decide (16 < s.tens.length) = false := by simp; omega
  have f8' : decide ((16 : Int) < (s.tens.length : Int)) = false := by simp; omega
  have H8 := hid_mk h8
  cases h0 : Rn.fromB s.serial 0 with
  | false =>
    have HE := hid_mk (right_serial h0)
    rw [h0] at HF0
    clear h0
    go_enter Try.func14, Try.ntmps14
    go_wp2_with fail
    refine (unhide HF0 _).mono ?_
    rintro e w2 ⟨rfl, rfl⟩
    go_wp2
    exact bodyPost_ret (v := .bool false) (by simp [results, Try.results14, go_sem]) rfl ⟨by rw [HE.out], HB0.out⟩
  | true =>
  rw [h0] at HF0
  have HW2 := hid_mk h0
  clear h0
  go_enter Try.func14, Try.ntmps14
  go_wp2_with fail
  refine (unhide HF0 _).mono ?_
  rintro e w2 ⟨rfl, rfl⟩
  go_wp2
  clear f8 f8'
  go_loopw [3] (fun v wr => RRightAt s (w.alloc (.cells #[.slice (A) (s).tens.length (c), .int .i64 (s).serial] 24)) v wr) (fun v _ => s.tens.length - (intOf v).toNat)
  case atStart => exact ⟨0, rfl, Nat.zero_le _, fun i h hi => absurd hi (by omega), fun i h hi => absurd hi (by omega), Below.refl _ _⟩
  case round =>
    obtain ⟨wo, hwo⟩ : ∃ wo, wo = wr := ⟨_, rfl⟩
    subst hwo
    obtain ⟨k, rfl, hk, hall, hris, hb⟩ := hrel
    have HA := hid_mk hall
    have HR := hid_mk hris
    have HB := hid_mk hb
    have HXR := hid_mk (HX0.out.call hb)
    (have x0 : wo.cell? ⟨w.heap.size, 0, none⟩ = some (.slice (A) (s).tens.length (c)) := HXR.out.cell 0; have x1 : wo.cell? ⟨w.heap.size, 1, none⟩ = some (.int .i64 (s).serial) := HXR.out.cell 1; have xf : ∀ i, wo.frozen? ⟨w.heap.size, i, none⟩ = false := HXR.out.frozen)
    have HBW := hid_mk (HB0.out.trans (hb.mono HB0.out.size))
    have hzw : w.heap.size < wo.heap.size := HXR.out.lt
    clear hall hris
    by_cases hlt : k < s.tens.length
    case neg =>
      have HE := hid_mk (right_all H8.out HW2.out (fun i hi => HA.out i hi (by omega)) (fun i hi => HR.out i hi (by omega)))
      have hn : ¬ ((k : Int) < (s.tens.length : Int)) := by omega
      clear hb
      go_wp2
      exact bodyPost_ret (v := .bool true) (by simp [results, Try.results14, go_sem]) rfl ⟨by rw [HE.out], HBW.out⟩
    have hK2 := tensAt_keep HK.out (fun b h => h) (kept_below HBW.out HG.out)
    obtain ⟨b, o, A', c', e1, hg1, hft, hsl, hsn, hks, y0, y1, y2, y3⟩ := tens_at hK2 hlt
    have hbw : b < wo.heap.size := Nat.lt_of_lt_of_le (HG.out b hg1) HBW.out.size
    have HPV : Hid (∀ j, k = j + 1 → ∃ q : Rn.T, q.name.size ≤ maxLen ∧ wo.cell? ⟨b, o + j * 4, none⟩ = some (.string q.name) ∧ (Rn.less q.name s.tens[k].name = false → Rn.right s = false) ∧ (Rn.less q.name s.tens[k].name = true → ∀ (i : Nat) (h : i + 1 < s.tens.length), i + 1 < k + 1 → Rn.ltT s.tens[i] s.tens[i + 1] = true)) := hid_mk (fun j hj => by
      subst hj
      have hj0 : j < s.tens.length := by omega
      obtain ⟨b2, o2, A2, c2, e2, -, -, -, hsn2, -, u0, -, -, -⟩ := tens_at hK2 hj0
      obtain ⟨rfl, rfl⟩ : b2 = b ∧ o2 = o := by rw [e1] at e2; simpa using e2.symm
      refine ⟨s.tens[j], hsn2, u0, fun h => right_step hlt h, fun h i hi hik => ?_⟩
      rcases Nat.lt_or_ge i j with h1 | h1
      · exact HR.out i hi (by omega)
      · obtain rfl : i = j := by omega
        exact h)
    have HP0 : Hid (k = 0 → ∀ (i : Nat) (h : i + 1 < s.tens.length), i + 1 < k + 1 → Rn.ltT s.tens[i] s.tens[i + 1] = true) := hid_mk (fun h0 i hi hik => absurd hik (by omega))
    subst e1
    have HN : Hid (Rn.tenB s.tens[k] = false → Rn.right s = false) := hid_mk (fun h => right_ten hlt h)
    have HY : Hid (Rn.tenB s.tens[k] = true → ∀ (i : Nat) (h : i < s.tens.length), i < k + 1 → Rn.tenB s.tens[i] = true) := hid_mk (fun h i hi hik => by
      rcases Nat.lt_or_ge i k with h1 | h1
      · exact HA.out i hi h1
      · obtain rfl : i = k := by omega
        exact h)
    generalize s.tens[k] = p at *
    have hb2 : Below wo.heap.size wo (wo.alloc (.cells #[.string (p).name, .int .i64 (p).epoch, .int .i64 (p).next, .slice (A') (p).keys.length (c')] 38)) := (Below.refl _ _).alloc (Nat.le_refl _) _
    obtain ⟨V, hV⟩ : ∃ V, V = wo.alloc (.cells #[.string (p).name, .int .i64 (p).epoch, .int .i64 (p).next, .slice (A') (p).keys.length (c')] 38) := ⟨_, rfl⟩
    have HX2 : Hid (Blk V wo.heap.size #[.string (p).name, .int .i64 (p).epoch, .int .i64 (p).next, .slice (A') (p).keys.length (c')] 38) := hid_mk (by rw [hV]; exact Blk.new wo _ _)
    rw [← hV] at hb2
    have HV := hid_mk hV
    have HBV := hid_mk hb2
    have HB2 := hid_mk (HBW.out.trans (hb2.mono HBW.out.size))
    have HB3 := hid_mk (HB.out.trans (hb2.mono HB.out.size))
    have HKS := hid_mk (keysAt_keep hks (fun b h => h) (kept_below hb2 (fun b hb' => Nat.lt_of_lt_of_le (HG.out b hb') HBW.out.size)))
    have HXV := hid_mk (HXR.out.call hb2)
    have hbg : ∀ d os, Below V.heap.size V (grow (redrawn V d) os) := fun d os => below_regrown V d os
    have C40 : Hid (∀ d os, Calls Try.prog 40 #[.string p.name] (grow (redrawn V d) os) (fun e w'' => e = .returned (.bool (Nm.wordB p.name.data.toList)) ∧ ∃ p : Regrown, w'' = grow (redrawn V p.d) p.os)) := hid_mk (fun d os => ret_qq (rword_any p.name _ hsn))
    have C0 : Hid (∀ d os, Calls Try.prog 39 #[.int .i64 p.epoch, .int .i64 0] (grow (redrawn V d) os) (fun e w'' => e = .returned (.bool (Rn.fromB p.epoch 0)) ∧ ∃ p : Regrown, w'' = grow (redrawn V p.d) p.os)) := hid_mk (fun d os => ret_qq (in_any _ _ _))
    have C1 : Hid (∀ d os, Calls Try.prog 39 #[.int .i64 p.next, .int .i64 1] (grow (redrawn V d) os) (fun e w'' => e = .returned (.bool (Rn.fromB p.next 1)) ∧ ∃ p : Regrown, w'' = grow (redrawn V p.d) p.os)) := hid_mk (fun d os => ret_qq (in_any _ _ _))
    have zt0 : ∀ d os, (grow (redrawn V d) os).cell? ⟨wo.heap.size, 0, none⟩ = some (.string p.name) := fun d os => cell_regrown (HX2.out.cell 0) d os
    have zt1 : ∀ d os, (grow (redrawn V d) os).cell? ⟨wo.heap.size, 1, none⟩ = some (.int .i64 p.epoch) := fun d os => cell_regrown (HX2.out.cell 1) d os
    have zt2 : ∀ d os, (grow (redrawn V d) os).cell? ⟨wo.heap.size, 2, none⟩ = some (.int .i64 p.next) := fun d os => cell_regrown (HX2.out.cell 2) d os
    have zt3 : ∀ d os, (grow (redrawn V d) os).cell? ⟨wo.heap.size, 3, none⟩ = some (.slice A' p.keys.length c') := fun d os => cell_regrown (HX2.out.cell 3) d os
    have zs0 : ∀ d os, (grow (redrawn V d) os).cell? ⟨w.heap.size, 0, none⟩ = some (.slice (some ⟨b, o, none⟩) s.tens.length c) := fun d os => cell_regrown (HXV.out.cell 0) d os
    have HSN := hid_mk hsn
    have HSL := hid_mk hsl
    clear hb hK2 hb2 hks hft hsl hsn hV hbg
    cases hw : Nm.wordB p.name.data.toList with
    | false =>
      have HE := hid_mk (HN.out (tenB_word hw))
      rw [hw] at C40
      clear hw HN HY HPV HP0
      go_wp2_with (rw [← HV.out])
      (refine wp_region_quiet_below (by kernel_rfl) (by kernel_rfl) ?_; (repeat (first | go_big_quiet_step ((first | (go_at_call 40; with_reducible exact C40.out _ _) | (go_at_call 39; first | with_reducible exact C0.out _ _ | with_reducible exact C1.out _ _))) | quiet_step ((first | (go_at_call 40; with_reducible exact C40.out _ _) | (go_at_call 39; first | with_reducible exact C0.out _ _ | with_reducible exact C1.out _ _))))); refine wpQuiet_nil ?_; intro _ hw'; obtain ⟨⟨nq, osq⟩, hw''⟩ := hw'; subst hw'')
      have HBX := hid_mk (below_regrown V nq osq)
      generalize grow (redrawn V nq) osq = U at *
      go_wp2
      exact bodyPost_ret (v := .bool false) (by simp [results, Try.results14, go_sem]) rfl ⟨by rw [HE.out], HB2.out.trans (HBX.out.mono HB2.out.size)⟩
    | true =>
    rw [hw] at C40
    have Hhw := hid_mk hw
    clear hw
    cases he : Rn.fromB p.epoch 0 with
    | false =>
      have HE := hid_mk (HN.out (tenB_epoch he))
      rw [he] at C0
      clear he HN HY HPV HP0
      go_wp2_with (rw [← HV.out])
      (refine wp_region_quiet_below (by kernel_rfl) (by kernel_rfl) ?_; (repeat (first | go_big_quiet_step ((first | (go_at_call 40; with_reducible exact C40.out _ _) | (go_at_call 39; first | with_reducible exact C0.out _ _ | with_reducible exact C1.out _ _))) | quiet_step ((first | (go_at_call 40; with_reducible exact C40.out _ _) | (go_at_call 39; first | with_reducible exact C0.out _ _ | with_reducible exact C1.out _ _))))); refine wpQuiet_nil ?_; intro _ hw'; obtain ⟨⟨nq, osq⟩, hw''⟩ := hw'; subst hw'')
      have HBX := hid_mk (below_regrown V nq osq)
      generalize grow (redrawn V nq) osq = U at *
      go_wp2
      exact bodyPost_ret (v := .bool false) (by simp [results, Try.results14, go_sem]) rfl ⟨by rw [HE.out], HB2.out.trans (HBX.out.mono HB2.out.size)⟩
    | true =>
    rw [he] at C0
    have Hhe := hid_mk he
    clear he
    cases hx : Rn.fromB p.next 1 with
    | false =>
      have HE := hid_mk (HN.out (tenB_next hx))
      rw [hx] at C1
      clear hx HN HY HPV HP0
      go_wp2_with (rw [← HV.out])
      (refine wp_region_quiet_below (by kernel_rfl) (by kernel_rfl) ?_; (repeat (first | go_big_quiet_step ((first | (go_at_call 40; with_reducible exact C40.out _ _) | (go_at_call 39; first | with_reducible exact C0.out _ _ | with_reducible exact C1.out _ _))) | quiet_step ((first | (go_at_call 40; with_reducible exact C40.out _ _) | (go_at_call 39; first | with_reducible exact C0.out _ _ | with_reducible exact C1.out _ _))))); refine wpQuiet_nil ?_; intro _ hw'; obtain ⟨⟨nq, osq⟩, hw''⟩ := hw'; subst hw'')
      have HBX := hid_mk (below_regrown V nq osq)
      generalize grow (redrawn V nq) osq = U at *
      go_wp2
      exact bodyPost_ret (v := .bool false) (by simp [results, Try.results14, go_sem]) rfl ⟨by rw [HE.out], HB2.out.trans (HBX.out.mono HB2.out.size)⟩
    | true =>
    rw [hx] at C1
    have Hhx := hid_mk hx
    clear hx
    by_cases g8 : p.keys.length ≤ 8
    case neg =>
      have HE := hid_mk (HN.out (tenB_len g8))
      have f8 : decide (8 < p.keys.length) = true := by simp; omega
      have f8' : decide ((8 : Int) < (p.keys.length : Int)) = true := by simp; omega
      clear g8 HN HY HPV HP0
      go_wp2_with (rw [← HV.out])
      (refine wp_region_quiet_below (by kernel_rfl) (by kernel_rfl) ?_; (repeat (first | go_big_quiet_step ((first | (go_at_call 40; with_reducible exact C40.out _ _) | (go_at_call 39; first | with_reducible exact C0.out _ _ | with_reducible exact C1.out _ _))) | quiet_step ((first | (go_at_call 40; with_reducible exact C40.out _ _) | (go_at_call 39; first | with_reducible exact C0.out _ _ | with_reducible exact C1.out _ _))))); refine wpQuiet_nil ?_; intro _ hw'; obtain ⟨⟨nq, osq⟩, hw''⟩ := hw'; subst hw'')
      have HBX := hid_mk (below_regrown V nq osq)
      generalize grow (redrawn V nq) osq = U at *
      go_wp2
      exact bodyPost_ret (v := .bool false) (by simp [results, Try.results14, go_sem]) rfl ⟨by rw [HE.out], HB2.out.trans (HBX.out.mono HB2.out.size)⟩
    have f8 : decide (8 < p.keys.length) = false := by simp; omega
    have f8' : decide ((8 : Int) < (p.keys.length : Int)) = false := by simp; omega
    have HG8 := hid_mk g8
    have HTN : Hid (∀ {k : Nat} (hk : k < p.keys.length), Rn.keyB p.next p.keys[k] = false → Rn.right s = false) := hid_mk (fun hk h => HN.out (tenB_key hk h))
    have HTS : Hid (∀ {k : Nat} (hk : k + 1 < p.keys.length), Rn.ltK p.keys[k] p.keys[k + 1] = false → Rn.right s = false) := hid_mk (fun hk h => HN.out (tenB_step hk h))
    have HTA : Hid ((∀ (i : Nat) (h : i < p.keys.length), Rn.keyB p.next p.keys[i] = true) → (∀ (i : Nat) (h : i + 1 < p.keys.length), Rn.ltK p.keys[i] p.keys[i + 1] = true) → ∀ (i : Nat) (h : i < s.tens.length), i < k + 1 → Rn.tenB s.tens[i] = true) := hid_mk (fun h5 h6 => HY.out (tenB_all Hhw.out Hhe.out Hhx.out HG8.out h5 h6))
    clear HN HY
    rcases Nat.eq_zero_or_pos k with hk0 | hkp
    · have HRI := hid_mk (HP0.out hk0)
      have dk : decide ((0 : Int) < (k : Int)) = false := by simp; omega
      have dk2 : decide (0 < k) = false := by simp; omega
      clear HPV HP0 hk0
      go_wp2_with (rw [← HV.out])
      (refine wp_region_quiet_below (by kernel_rfl) (by kernel_rfl) ?_; (repeat (first | go_big_quiet_step ((first | (go_at_call 40; with_reducible exact C40.out _ _) | (go_at_call 39; first | with_reducible exact C0.out _ _ | with_reducible exact C1.out _ _))) | quiet_step ((first | (go_at_call 40; with_reducible exact C40.out _ _) | (go_at_call 39; first | with_reducible exact C0.out _ _ | with_reducible exact C1.out _ _))))); refine wpQuiet_nil ?_; intro _ hw'; obtain ⟨⟨nq, osq⟩, hw''⟩ := hw'; subst hw'')
      have HBX := hid_mk (below_regrown V nq osq)
      generalize grow (redrawn V nq) osq = U at *
      have HKU := hid_mk (keysAt_keep HKS.out (fun b h => h) (kept_below HBX.out (fun b hb' => Nat.lt_of_lt_of_le (HG.out b hb') HB2.out.size)))
      have HXU := hid_mk (HX2.out.call HBX.out)
      have HBU := hid_mk (HB2.out.trans (HBX.out.mono HB2.out.size))
      have HBT := hid_mk (HB3.out.trans (HBX.out.mono HB3.out.size))
      clear zt0 zt1 zt2 zt3 zs0 C40 C0 C1 f8 f8' x0 x1 xf y0 y1 y2 y3 HBX
      go_wp2
      go_loopw [5] (fun v wr => RKeysAt p U v wr) (fun v _ => p.keys.length - (intOf v).toNat)
      case atStart => exact ⟨0, rfl, Nat.zero_le _, fun i h hi => absurd hi (by omega), fun i h hi => absurd hi (by omega), Below.refl _ _⟩
      case round =>
        obtain ⟨m, rfl, hm, hka, hkr, hbq⟩ := hrel
        have HKA := hid_mk hka
        have HKR := hid_mk hkr
        have HBQ := hid_mk hbq
        have HXQ := hid_mk (HXU.out.call hbq)
        (have x0 : wr.cell? ⟨wo.heap.size, 0, none⟩ = some (.string (p).name) := HXQ.out.cell 0; have x1 : wr.cell? ⟨wo.heap.size, 1, none⟩ = some (.int .i64 (p).epoch) := HXQ.out.cell 1; have x2 : wr.cell? ⟨wo.heap.size, 2, none⟩ = some (.int .i64 (p).next) := HXQ.out.cell 2; have x3 : wr.cell? ⟨wo.heap.size, 3, none⟩ = some (.slice (A') (p).keys.length (c')) := HXQ.out.cell 3; have xf : ∀ i, wr.frozen? ⟨wo.heap.size, i, none⟩ = false := HXQ.out.frozen)
        have HBWQ := hid_mk (HBU.out.trans (hbq.mono HBU.out.size))
        have HBTQ := hid_mk (HBT.out.trans (hbq.mono HBT.out.size))
        clear hka hkr
        by_cases hmt : m < p.keys.length
        case neg =>
          have HTA2 := hid_mk (HTA.out (fun i hi => HKA.out i hi (by omega)) (fun i hi => HKR.out i hi (by omega)))
          have hn : ¬ ((m : Int) < (p.keys.length : Int)) := by omega
          clear hbq
          go_wp2
          go_roundw
          case rel => exact ⟨k + 1, by go_num, by omega, HTA2.out, HRI.out, HBTQ.out⟩
          case measure => simp [intOf]; omega
        have hK3 := keysAt_keep HKU.out (fun b h => h) (kept_below hbq (fun b hb' => Nat.lt_of_lt_of_le (HG.out b hb') HBU.out.size))
        obtain ⟨kb, ko, e2, hg2, hs2, w0, w1⟩ := keys_at hK3 hmt
        have HPK : Hid (∀ i, m = i + 1 → ∃ q : Rn.K, wr.cell? ⟨kb, ko + i * 2, none⟩ = some (.int .i64 q.num) ∧ (Rn.ltK q p.keys[m] = false → Rn.right s = false) ∧ (Rn.ltK q p.keys[m] = true → ∀ (i : Nat) (h : i + 1 < p.keys.length), i + 1 < m + 1 → Rn.ltK p.keys[i] p.keys[i + 1] = true)) := hid_mk (fun i hi => by
          subst hi
          have hi0 : i < p.keys.length := by omega
          obtain ⟨b3, o3, e3, -, -, u0, -⟩ := keys_at hK3 hi0
          obtain ⟨rfl, rfl⟩ : b3 = kb ∧ o3 = ko := by rw [e2] at e3; simpa using e3.symm
          refine ⟨p.keys[i], u0, fun h => HTS.out hmt h, fun h i' hi' hik => ?_⟩
          rcases Nat.lt_or_ge i' i with h1 | h1
          · exact HKR.out i' hi' (by omega)
          · obtain rfl : i' = i := by omega
            exact h)
        have HPK0 : Hid (m = 0 → ∀ (i : Nat) (h : i + 1 < p.keys.length), i + 1 < m + 1 → Rn.ltK p.keys[i] p.keys[i + 1] = true) := hid_mk (fun h0 i hi hik => absurd hik (by omega))
        have HKN : Hid (Rn.keyB p.next p.keys[m] = false → Rn.right s = false) := hid_mk (fun h => HTN.out hmt h)
        have HKY : Hid (Rn.keyB p.next p.keys[m] = true → ∀ (i : Nat) (h : i < p.keys.length), i < m + 1 → Rn.keyB p.next p.keys[i] = true) := hid_mk (fun h i hi hik => by
          rcases Nat.lt_or_ge i m with h1 | h1
          · exact HKA.out i hi h1
          · obtain rfl : i = m := by omega
            exact h)
        generalize p.keys[m] = q at *
        subst e2
        have vt2 : ∀ d os, (grow (redrawn wr d) os).cell? ⟨wo.heap.size, 2, none⟩ = some (.int .i64 p.next) := fun d os => cell_regrown x2 d os
        have vt3 : ∀ d os, (grow (redrawn wr d) os).cell? ⟨wo.heap.size, 3, none⟩ = some (.slice (some ⟨kb, ko, none⟩) p.keys.length c') := fun d os => cell_regrown x3 d os
        have vq0 : ∀ d os, (grow (redrawn wr d) os).cell? ⟨kb, ko + m * 2, none⟩ = some (.int .i64 q.num) := fun d os => cell_regrown w0 d os
        have vq1 : ∀ d os, (grow (redrawn wr d) os).cell? ⟨kb, ko + m * 2 + 1, none⟩ = some (.string q.txt) := fun d os => cell_regrown w1 d os
        unfold Rn.keyB at HKN HKY
        clear hbq hK3 w0 w1 hs2
        by_cases a1 : q.num < 1
        · have HKF := hid_mk (HKN.out (by simp [a1]))
          have da1 : decide (q.num < 1) = true := by simpa using a1
          clear HKN HKY HPK HPK0 a1
          go_wp2
          (refine wp_region_quiet_below (by kernel_rfl) (by kernel_rfl) ?_; (repeat (first | go_big_quiet_step (fail) | quiet_step (fail))); refine wpQuiet_nil ?_; intro _ hw'; obtain ⟨⟨nq, osq⟩, hw''⟩ := hw'; subst hw'')
          have HBY := hid_mk (HBWQ.out.trans ((below_regrown wr nq osq).mono HBWQ.out.size))
          generalize grow (redrawn wr nq) osq = Y at *
          go_wp2
          exact bodyPost_ret (v := .bool false) (by simp [results, Try.results14, go_sem]) rfl ⟨by rw [HKF.out], HBY.out⟩
        have da1 : decide (q.num < 1) = false := by simpa using a1
        by_cases a2 : p.next ≤ q.num
        · have HKF := hid_mk (HKN.out (by simp [a2]))
          have da2 : decide (p.next ≤ q.num) = true := by simpa using a2
          clear HKN HKY HPK HPK0 a2
          go_wp2
          (refine wp_region_quiet_below (by kernel_rfl) (by kernel_rfl) ?_; (repeat (first | go_big_quiet_step (fail) | quiet_step (fail))); refine wpQuiet_nil ?_; intro _ hw'; obtain ⟨⟨nq, osq⟩, hw''⟩ := hw'; subst hw'')
          have HBY := hid_mk (HBWQ.out.trans ((below_regrown wr nq osq).mono HBWQ.out.size))
          generalize grow (redrawn wr nq) osq = Y at *
          go_wp2
          exact bodyPost_ret (v := .bool false) (by simp [results, Try.results14, go_sem]) rfl ⟨by rw [HKF.out], HBY.out⟩
        have da2 : decide (p.next ≤ q.num) = false := by simpa using a2
        by_cases a3 : q.txt.size = 32
        case neg =>
          have HKF := hid_mk (HKN.out (by simp [a3]))
          have da3 : ((q.txt.size : Int) != 32) = true := by simp; omega
          clear HKN HKY HPK HPK0 a1 a2 a3
          go_wp2
          (refine wp_region_quiet_below (by kernel_rfl) (by kernel_rfl) ?_; (repeat (first | go_big_quiet_step (fail) | quiet_step (fail))); refine wpQuiet_nil ?_; intro _ hw'; obtain ⟨⟨nq, osq⟩, hw''⟩ := hw'; subst hw'')
          have HBY := hid_mk (HBWQ.out.trans ((below_regrown wr nq osq).mono HBWQ.out.size))
          generalize grow (redrawn wr nq) osq = Y at *
          go_wp2
          exact bodyPost_ret (v := .bool false) (by simp [results, Try.results14, go_sem]) rfl ⟨by rw [HKF.out], HBY.out⟩
        have HKY2 := hid_mk (HKY.out (by simp [a1, a2, a3]))
        have da3 : ((q.txt.size : Int) != 32) = false := by simp [a3]
        clear HKN HKY a1 a2 a3
        rcases Nat.eq_zero_or_pos m with hm0 | hmp
        · have HK0 := hid_mk (HPK0.out hm0)
          have dm : decide ((0 : Int) < (m : Int)) = false := by simp; omega
          have dm2 : decide (0 < m) = false := by simp; omega
          clear HPK HPK0 hm0
          go_wp2
          (refine wp_region_quiet_below (by kernel_rfl) (by kernel_rfl) ?_; (repeat (first | go_big_quiet_step (fail) | quiet_step (fail))); refine wpQuiet_nil ?_; intro _ hw'; obtain ⟨⟨nq, osq⟩, hw''⟩ := hw'; subst hw'')
          have HBY := hid_mk (HBQ.out.trans ((below_regrown wr nq osq).mono HBQ.out.size))
          generalize grow (redrawn wr nq) osq = Y at *
          go_wp2
          go_roundw
          case rel => exact ⟨m + 1, by go_num, by omega, HKY2.out, HK0.out, HBY.out⟩
          case measure => simp [intOf]; omega
        · obtain ⟨i, rfl⟩ : ∃ i, m = i + 1 := ⟨m - 1, by omega⟩
          obtain ⟨r, v0, hr1, hr2⟩ := HPK.out i rfl
          have vr0 : ∀ d os, (grow (redrawn wr d) os).cell? ⟨kb, ko + i * 2, none⟩ = some (.int .i64 r.num) := fun d os => cell_regrown v0 d os
          have dm : decide ((0 : Int) < ((i + 1 : Nat) : Int)) = true := by simp <;> omega
          have dm2 : (0 : Int) < (i : Int) + 1 := by omega
          have hil : i < p.keys.length := by omega
          unfold Rn.ltK at hr1 hr2
          clear HPK HPK0 v0 hmp
          by_cases a4 : r.num < q.num
          · have HK0 := hid_mk (hr2 (by simpa using a4))
            have da4 : decide (q.num ≤ r.num) = false := by simp; omega
            clear hr1 hr2 a4
            go_wp2
            (refine wp_region_quiet_below (by kernel_rfl) (by kernel_rfl) ?_; (repeat (first | go_big_quiet_step (fail) | quiet_step (fail))); refine wpQuiet_nil ?_; intro _ hw'; obtain ⟨⟨nq, osq⟩, hw''⟩ := hw'; subst hw'')
            have HBY := hid_mk (HBQ.out.trans ((below_regrown wr nq osq).mono HBQ.out.size))
            generalize grow (redrawn wr nq) osq = Y at *
            go_wp2
            go_roundw
            case rel => exact ⟨i + 1 + 1, by go_num, by omega, HKY2.out, HK0.out, HBY.out⟩
            case measure => simp [intOf]; omega
          · have HKF := hid_mk (hr1 (by simpa using a4))
            have da4 : decide (q.num ≤ r.num) = true := by simp; omega
            clear hr1 hr2 a4
            go_wp2
            (refine wp_region_quiet_below (by kernel_rfl) (by kernel_rfl) ?_; (repeat (first | go_big_quiet_step (fail) | quiet_step (fail))); refine wpQuiet_nil ?_; intro _ hw'; obtain ⟨⟨nq, osq⟩, hw''⟩ := hw'; subst hw'')
            have HBY := hid_mk (HBWQ.out.trans ((below_regrown wr nq osq).mono HBWQ.out.size))
            generalize grow (redrawn wr nq) osq = Y at *
            go_wp2
            exact bodyPost_ret (v := .bool false) (by simp [results, Try.results14, go_sem]) rfl ⟨by rw [HKF.out], HBY.out⟩
    · obtain ⟨j, rfl⟩ : ∃ j, k = j + 1 := ⟨k - 1, by omega⟩
      obtain ⟨q, hqn, v0, hq1, hq2⟩ := HPV.out j rfl
      have ek : ((j + 1 : Nat) : Int) = (j : Int) + 1 := by omega
      rw [ek]
      clear ek
      have v1 : V.cell? ⟨b, o + j * 4, none⟩ = some (.string q.name) := by rw [HBV.out.cell (p := ⟨b, o + j * 4, none⟩) hbw]; exact v0
      have vr0 : ∀ d os, (grow (redrawn V d) os).cell? ⟨b, o + j * 4, none⟩ = some (.string q.name) := fun d os => cell_regrown v1 d os
      have C41 : Hid (∀ d os, Calls Try.prog 41 #[.string q.name, .string p.name] (grow (redrawn V d) os) (fun e w'' => e = .returned (.int .i64 (cmpL q.name.data.toList p.name.data.toList)) ∧ ∃ p : Regrown, w'' = grow (redrawn V p.d) p.os)) := hid_mk (fun d os => retN_qq (rcmp_any q.name p.name _ hqn HSN.out))
      have dk : decide ((0 : Int) < ((j + 1 : Nat) : Int)) = true := by simp <;> omega
      have dk2 : (0 : Int) < (j : Int) + 1 := by omega
      have hjl : j < s.tens.length := by omega
      have hcs := cmp_sign q.name p.name
      clear HPV HP0 v0 v1 hkp hqn
      generalize cmpL q.name.data.toList p.name.data.toList = z at *
      cases hls : Rn.less q.name p.name with
      | false =>
        have HE := hid_mk (hq1 hls)
        rw [hls] at hcs
        have dz : decide (0 ≤ z) = true := by simpa using hcs
        clear hls hcs hq1 hq2
        go_wp2_with (rw [← HV.out])
        (refine wp_region_quiet_below (by kernel_rfl) (by kernel_rfl) ?_; (repeat (first | go_big_quiet_step ((first | (go_at_call 40; with_reducible exact C40.out _ _) | (go_at_call 39; first | with_reducible exact C0.out _ _ | with_reducible exact C1.out _ _) | (go_at_call 41; with_reducible exact C41.out _ _))) | quiet_step ((first | (go_at_call 40; with_reducible exact C40.out _ _) | (go_at_call 39; first | with_reducible exact C0.out _ _ | with_reducible exact C1.out _ _) | (go_at_call 41; with_reducible exact C41.out _ _))))); refine wpQuiet_nil ?_; intro _ hw'; obtain ⟨⟨nq, osq⟩, hw''⟩ := hw'; subst hw'')
        have HBX := hid_mk (below_regrown V nq osq)
        generalize grow (redrawn V nq) osq = U at *
        go_wp2
        exact bodyPost_ret (v := .bool false) (by simp [results, Try.results14, go_sem]) rfl ⟨by rw [HE.out], HB2.out.trans (HBX.out.mono HB2.out.size)⟩
      | true =>
        have HRI := hid_mk (hq2 hls)
        rw [hls] at hcs
        have dz : decide (0 ≤ z) = false := by simpa using hcs
        clear hls hcs hq1 hq2
        go_wp2_with (rw [← HV.out])
        (refine wp_region_quiet_below (by kernel_rfl) (by kernel_rfl) ?_; (repeat (first | go_big_quiet_step ((first | (go_at_call 40; with_reducible exact C40.out _ _) | (go_at_call 39; first | with_reducible exact C0.out _ _ | with_reducible exact C1.out _ _) | (go_at_call 41; with_reducible exact C41.out _ _))) | quiet_step ((first | (go_at_call 40; with_reducible exact C40.out _ _) | (go_at_call 39; first | with_reducible exact C0.out _ _ | with_reducible exact C1.out _ _) | (go_at_call 41; with_reducible exact C41.out _ _))))); refine wpQuiet_nil ?_; intro _ hw'; obtain ⟨⟨nq, osq⟩, hw''⟩ := hw'; subst hw'')
        have HBX := hid_mk (below_regrown V nq osq)
        generalize grow (redrawn V nq) osq = U at *
        clear vr0 C41 dz
        have HKU := hid_mk (keysAt_keep HKS.out (fun b h => h) (kept_below HBX.out (fun b hb' => Nat.lt_of_lt_of_le (HG.out b hb') HB2.out.size)))
        have HXU := hid_mk (HX2.out.call HBX.out)
        have HBU := hid_mk (HB2.out.trans (HBX.out.mono HB2.out.size))
        have HBT := hid_mk (HB3.out.trans (HBX.out.mono HB3.out.size))
        clear zt0 zt1 zt2 zt3 zs0 C40 C0 C1 f8 f8' x0 x1 xf y0 y1 y2 y3 HBX
        go_wp2
        go_loopw [5] (fun v wr => RKeysAt p U v wr) (fun v _ => p.keys.length - (intOf v).toNat)
        case atStart => exact ⟨0, rfl, Nat.zero_le _, fun i h hi => absurd hi (by omega), fun i h hi => absurd hi (by omega), Below.refl _ _⟩
        case round =>
          obtain ⟨m, rfl, hm, hka, hkr, hbq⟩ := hrel
          have HKA := hid_mk hka
          have HKR := hid_mk hkr
          have HBQ := hid_mk hbq
          have HXQ := hid_mk (HXU.out.call hbq)
          (have x0 : wr.cell? ⟨wo.heap.size, 0, none⟩ = some (.string (p).name) := HXQ.out.cell 0; have x1 : wr.cell? ⟨wo.heap.size, 1, none⟩ = some (.int .i64 (p).epoch) := HXQ.out.cell 1; have x2 : wr.cell? ⟨wo.heap.size, 2, none⟩ = some (.int .i64 (p).next) := HXQ.out.cell 2; have x3 : wr.cell? ⟨wo.heap.size, 3, none⟩ = some (.slice (A') (p).keys.length (c')) := HXQ.out.cell 3; have xf : ∀ i, wr.frozen? ⟨wo.heap.size, i, none⟩ = false := HXQ.out.frozen)
          have HBWQ := hid_mk (HBU.out.trans (hbq.mono HBU.out.size))
          have HBTQ := hid_mk (HBT.out.trans (hbq.mono HBT.out.size))
          clear hka hkr
          by_cases hmt : m < p.keys.length
          case neg =>
            have HTA2 := hid_mk (HTA.out (fun i hi => HKA.out i hi (by omega)) (fun i hi => HKR.out i hi (by omega)))
            have hn : ¬ ((m : Int) < (p.keys.length : Int)) := by omega
            clear hbq
            go_wp2
            go_roundw
            case rel => exact ⟨j + 1 + 1, by go_num, by omega, HTA2.out, HRI.out, HBTQ.out⟩
            case measure => simp [intOf]; omega
          have hK3 := keysAt_keep HKU.out (fun b h => h) (kept_below hbq (fun b hb' => Nat.lt_of_lt_of_le (HG.out b hb') HBU.out.size))
          obtain ⟨kb, ko, e2, hg2, hs2, w0, w1⟩ := keys_at hK3 hmt
          have HPK : Hid (∀ i, m = i + 1 → ∃ q : Rn.K, wr.cell? ⟨kb, ko + i * 2, none⟩ = some (.int .i64 q.num) ∧ (Rn.ltK q p.keys[m] = false → Rn.right s = false) ∧ (Rn.ltK q p.keys[m] = true → ∀ (i : Nat) (h : i + 1 < p.keys.length), i + 1 < m + 1 → Rn.ltK p.keys[i] p.keys[i + 1] = true)) := hid_mk (fun i hi => by
            subst hi
            have hi0 : i < p.keys.length := by omega
            obtain ⟨b3, o3, e3, -, -, u0, -⟩ := keys_at hK3 hi0
            obtain ⟨rfl, rfl⟩ : b3 = kb ∧ o3 = ko := by rw [e2] at e3; simpa using e3.symm
            refine ⟨p.keys[i], u0, fun h => HTS.out hmt h, fun h i' hi' hik => ?_⟩
            rcases Nat.lt_or_ge i' i with h1 | h1
            · exact HKR.out i' hi' (by omega)
            · obtain rfl : i' = i := by omega
              exact h)
          have HPK0 : Hid (m = 0 → ∀ (i : Nat) (h : i + 1 < p.keys.length), i + 1 < m + 1 → Rn.ltK p.keys[i] p.keys[i + 1] = true) := hid_mk (fun h0 i hi hik => absurd hik (by omega))
          have HKN : Hid (Rn.keyB p.next p.keys[m] = false → Rn.right s = false) := hid_mk (fun h => HTN.out hmt h)
          have HKY : Hid (Rn.keyB p.next p.keys[m] = true → ∀ (i : Nat) (h : i < p.keys.length), i < m + 1 → Rn.keyB p.next p.keys[i] = true) := hid_mk (fun h i hi hik => by
            rcases Nat.lt_or_ge i m with h1 | h1
            · exact HKA.out i hi h1
            · obtain rfl : i = m := by omega
              exact h)
          generalize p.keys[m] = q at *
          subst e2
          have vt2 : ∀ d os, (grow (redrawn wr d) os).cell? ⟨wo.heap.size, 2, none⟩ = some (.int .i64 p.next) := fun d os => cell_regrown x2 d os
          have vt3 : ∀ d os, (grow (redrawn wr d) os).cell? ⟨wo.heap.size, 3, none⟩ = some (.slice (some ⟨kb, ko, none⟩) p.keys.length c') := fun d os => cell_regrown x3 d os
          have vq0 : ∀ d os, (grow (redrawn wr d) os).cell? ⟨kb, ko + m * 2, none⟩ = some (.int .i64 q.num) := fun d os => cell_regrown w0 d os
          have vq1 : ∀ d os, (grow (redrawn wr d) os).cell? ⟨kb, ko + m * 2 + 1, none⟩ = some (.string q.txt) := fun d os => cell_regrown w1 d os
          unfold Rn.keyB at HKN HKY
          clear hbq hK3 w0 w1 hs2
          by_cases a1 : q.num < 1
          · have HKF := hid_mk (HKN.out (by simp [a1]))
            have da1 : decide (q.num < 1) = true := by simpa using a1
            clear HKN HKY HPK HPK0 a1
            go_wp2
            (refine wp_region_quiet_below (by kernel_rfl) (by kernel_rfl) ?_; (repeat (first | go_big_quiet_step (fail) | quiet_step (fail))); refine wpQuiet_nil ?_; intro _ hw'; obtain ⟨⟨nq, osq⟩, hw''⟩ := hw'; subst hw'')
            have HBY := hid_mk (HBWQ.out.trans ((below_regrown wr nq osq).mono HBWQ.out.size))
            generalize grow (redrawn wr nq) osq = Y at *
            go_wp2
            exact bodyPost_ret (v := .bool false) (by simp [results, Try.results14, go_sem]) rfl ⟨by rw [HKF.out], HBY.out⟩
          have da1 : decide (q.num < 1) = false := by simpa using a1
          by_cases a2 : p.next ≤ q.num
          · have HKF := hid_mk (HKN.out (by simp [a2]))
            have da2 : decide (p.next ≤ q.num) = true := by simpa using a2
            clear HKN HKY HPK HPK0 a2
            go_wp2
            (refine wp_region_quiet_below (by kernel_rfl) (by kernel_rfl) ?_; (repeat (first | go_big_quiet_step (fail) | quiet_step (fail))); refine wpQuiet_nil ?_; intro _ hw'; obtain ⟨⟨nq, osq⟩, hw''⟩ := hw'; subst hw'')
            have HBY := hid_mk (HBWQ.out.trans ((below_regrown wr nq osq).mono HBWQ.out.size))
            generalize grow (redrawn wr nq) osq = Y at *
            go_wp2
            exact bodyPost_ret (v := .bool false) (by simp [results, Try.results14, go_sem]) rfl ⟨by rw [HKF.out], HBY.out⟩
          have da2 : decide (p.next ≤ q.num) = false := by simpa using a2
          by_cases a3 : q.txt.size = 32
          case neg =>
            have HKF := hid_mk (HKN.out (by simp [a3]))
            have da3 : ((q.txt.size : Int) != 32) = true := by simp; omega
            clear HKN HKY HPK HPK0 a1 a2 a3
            go_wp2
            (refine wp_region_quiet_below (by kernel_rfl) (by kernel_rfl) ?_; (repeat (first | go_big_quiet_step (fail) | quiet_step (fail))); refine wpQuiet_nil ?_; intro _ hw'; obtain ⟨⟨nq, osq⟩, hw''⟩ := hw'; subst hw'')
            have HBY := hid_mk (HBWQ.out.trans ((below_regrown wr nq osq).mono HBWQ.out.size))
            generalize grow (redrawn wr nq) osq = Y at *
            go_wp2
            exact bodyPost_ret (v := .bool false) (by simp [results, Try.results14, go_sem]) rfl ⟨by rw [HKF.out], HBY.out⟩
          have HKY2 := hid_mk (HKY.out (by simp [a1, a2, a3]))
          have da3 : ((q.txt.size : Int) != 32) = false := by simp [a3]
          clear HKN HKY a1 a2 a3
          rcases Nat.eq_zero_or_pos m with hm0 | hmp
          · have HK0 := hid_mk (HPK0.out hm0)
            have dm : decide ((0 : Int) < (m : Int)) = false := by simp; omega
            have dm2 : decide (0 < m) = false := by simp; omega
            clear HPK HPK0 hm0
            go_wp2
            (refine wp_region_quiet_below (by kernel_rfl) (by kernel_rfl) ?_; (repeat (first | go_big_quiet_step (fail) | quiet_step (fail))); refine wpQuiet_nil ?_; intro _ hw'; obtain ⟨⟨nq, osq⟩, hw''⟩ := hw'; subst hw'')
            have HBY := hid_mk (HBQ.out.trans ((below_regrown wr nq osq).mono HBQ.out.size))
            generalize grow (redrawn wr nq) osq = Y at *
            go_wp2
            go_roundw
            case rel => exact ⟨m + 1, by go_num, by omega, HKY2.out, HK0.out, HBY.out⟩
            case measure => simp [intOf]; omega
          · obtain ⟨i, rfl⟩ : ∃ i, m = i + 1 := ⟨m - 1, by omega⟩
            obtain ⟨r, v0, hr1, hr2⟩ := HPK.out i rfl
            have vr0 : ∀ d os, (grow (redrawn wr d) os).cell? ⟨kb, ko + i * 2, none⟩ = some (.int .i64 r.num) := fun d os => cell_regrown v0 d os
            have dm : decide ((0 : Int) < ((i + 1 : Nat) : Int)) = true := by simp <;> omega
            have dm2 : (0 : Int) < (i : Int) + 1 := by omega
            have hil : i < p.keys.length := by omega
            unfold Rn.ltK at hr1 hr2
            clear HPK HPK0 v0 hmp
            by_cases a4 : r.num < q.num
            · have HK0 := hid_mk (hr2 (by simpa using a4))
              have da4 : decide (q.num ≤ r.num) = false := by simp; omega
              clear hr1 hr2 a4
              go_wp2
              (refine wp_region_quiet_below (by kernel_rfl) (by kernel_rfl) ?_; (repeat (first | go_big_quiet_step (fail) | quiet_step (fail))); refine wpQuiet_nil ?_; intro _ hw'; obtain ⟨⟨nq, osq⟩, hw''⟩ := hw'; subst hw'')
              have HBY := hid_mk (HBQ.out.trans ((below_regrown wr nq osq).mono HBQ.out.size))
              generalize grow (redrawn wr nq) osq = Y at *
              go_wp2
              go_roundw
              case rel => exact ⟨i + 1 + 1, by go_num, by omega, HKY2.out, HK0.out, HBY.out⟩
              case measure => simp [intOf]; omega
            · have HKF := hid_mk (hr1 (by simpa using a4))
              have da4 : decide (q.num ≤ r.num) = true := by simp; omega
              clear hr1 hr2 a4
              go_wp2
              (refine wp_region_quiet_below (by kernel_rfl) (by kernel_rfl) ?_; (repeat (first | go_big_quiet_step (fail) | quiet_step (fail))); refine wpQuiet_nil ?_; intro _ hw'; obtain ⟨⟨nq, osq⟩, hw''⟩ := hw'; subst hw'')
              have HBY := hid_mk (HBWQ.out.trans ((below_regrown wr nq osq).mono HBWQ.out.size))
              generalize grow (redrawn wr nq) osq = Y at *
              go_wp2
              exact bodyPost_ret (v := .bool false) (by simp [results, Try.results14, go_sem]) rfl ⟨by rw [HKF.out], HBY.out⟩
end Go.Proofs.Ytgcgilcalmefgaa
