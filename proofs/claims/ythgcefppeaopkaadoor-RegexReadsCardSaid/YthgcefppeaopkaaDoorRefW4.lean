/- Walks over the reference's pattern reader: signs. -/
import Derived.Test.YthgcefppeaopkaaDoorRefW3
namespace Go.Proofs.YthgcefppeaopkaaDoor
open Go Go.RowKit Go.Sort
set_option maxRecDepth 100000
set_option linter.unusedSimpArgs false
set_option linter.unusedVariables false
set_option maxHeartbeats 1000000
theorem retG_q {P : Program} {f : FuncId} {args : Array Value} {v : Value} {W : World} {d : Nat} {os : Array Obj} (h : Calls P f args (grow (redrawn W d) os) (RetG v (grow (redrawn W d) os))) : Calls P f args (grow (redrawn W d) os) (fun e w'' => e = .returned v ∧ ∃ p : Regrown, w'' = grow (redrawn W p.d) p.os) := regrown_call h
theorem among4 (n : Nat) : amongB [91, 93, 45, 94] n = decide (n = 91 ∨ n = 93 ∨ n = 45 ∨ n = 94) := by
  unfold amongB
  rw [Bool.eq_iff_iff]
  simp
  omega
theorem rsign_end (s : ByteArray) (i : Nat) (w : World) (hs : s.size ≤ 1000) (hi : i ≤ 1500) (h : s.size ≤ i) : Calls Tryd.prog 85 #[.string s, .int .i64 i] w (RetPS (Rx.sign s.data.toList i) w) := by
  have hp := pk_ge h
  have HE : Hid (Rx.sign s.data.toList i = .bad 1 s.size) := hid_mk (by unfold Rx.sign Rx.other; rw [hp, if_neg (by decide), if_pos (Or.inl rfl), if_pos (by decide), len_data])
  have HB := hide (fun w => rother_any s i w hs (by omega))
  rw [hp] at HB
  rw [if_pos (by decide), if_pos (by decide)] at HB
  rw [HE.out]
  clear HE hp
  have hd : decide ((s.size : Int) ≤ (i : Int)) = true := by simp; omega
  go_enter Tryd.func85, Tryd.ntmps85
  go_wp2_with fail
  refine (unhide HB _).mono ?_
  rintro x w1 ⟨rfl, hb1⟩
  have hr := res_after hb1
  (go_wp2_with (refine store_row 56 rfl _ _ rfl w.heap.size _ _ 56 hr.1 rfl rfl (by kernel_rfl) rfl rfl ?_); refine ret_row rfl w.heap.size _ _ hr.1.row rfl _ Tryd.underlying56 rfl ?_ rfl ?_; (kernel_rfl); (exact ⟨below_row hr.2 (Nat.le_refl _) _, (by first | rfl | exact ⟨by decide, rfl⟩)⟩))
theorem rsign_any (s : ByteArray) (i : Nat) (w : World) (hs : s.size ≤ 1000) (hi : i ≤ 1500) : Calls Tryd.prog 85 #[.string s, .int .i64 i] w (RetPS (Rx.sign s.data.toList i) w) := by
  by_cases h : i < s.size
  · have hx0 : ∃ x, s[i]'h = x := ⟨_, rfl⟩
    obtain ⟨x, hx0⟩ := hx0
    have hp : Rx.pk s.data.toList i = (x.toNat : Int) := by rw [pk_lt h, hx0]
    have hxl := x.toNat_lt
    have HAM := hide (fun w => ramong_any x.toNat ⟨#[91, 93, 45, 94]⟩ w hxl (by decide))
    have ham : amongB (ByteArray.mk #[91, 93, 45, 94]).data.toList x.toNat = decide (x.toNat = 91 ∨ x.toNat = 93 ∨ x.toNat = 45 ∨ x.toNat = 94) := among4 _
    rw [ham] at HAM
    clear ham
    by_cases hc : x.toNat = 91 ∨ x.toNat = 93 ∨ x.toNat = 45 ∨ x.toNat = 94
    · have HE : Hid (Rx.sign s.data.toList i = .bad 2 i) := hid_mk (by
        unfold Rx.sign Rx.other
        rw [hp, if_neg (by omega), if_pos (by omega), if_neg (by omega)])
      have HB := hide (fun w => rother_any s i w hs (by omega))
      rw [hp, if_neg (by omega), if_neg (by omega)] at HB
      rw [decide_eq_true hc] at HAM
      rw [HE.out]
      clear HE hp hc
      go_enter Tryd.func85, Tryd.ntmps85
      go_wp2_with fail
      refine (unhide HAM _).mono ?_
      rintro e w0 ⟨rfl, rfl⟩
      go_wp2_with fail
      refine (unhide HB _).mono ?_
      rintro e w1 ⟨rfl, hb1⟩
      have hr := res_after hb1
      (go_wp2_with (refine store_row 56 rfl _ _ rfl w.heap.size _ _ 56 hr.1 rfl rfl (by kernel_rfl) rfl rfl ?_); refine ret_row rfl w.heap.size _ _ hr.1.row rfl _ Tryd.underlying56 rfl ?_ rfl ?_; (kernel_rfl); (exact ⟨below_row hr.2 (Nat.le_refl _) _, (by first | rfl | exact ⟨by decide, rfl⟩)⟩))
    · rw [decide_eq_false hc] at HAM
      by_cases h92 : x.toNat = 92
      · have HE : Hid (Rx.sign s.data.toList i = Rx.esc s.data.toList i) := hid_mk (by unfold Rx.sign; rw [hp, if_pos (by omega)])
        have HS := hide (fun w => resc_any s i w hs hi)
        have e1 : ((x.toNat : Int) == 92) = true := by rw [h92]; rfl
        rw [HE.out]
        clear HE hp hc h92
        have hfi := fine_esc s.data.toList i
        generalize Rx.esc s.data.toList i = R at *
        cases R with
        | ok a p =>
          clear hfi
          obtain ⟨S, many⟩ := a
          go_enter Tryd.func85, Tryd.ntmps85
          go_wp2_with fail
          refine (unhide HAM _).mono ?_
          rintro e w0 ⟨rfl, rfl⟩
          go_wp2_with fail
          refine (unhide HS _).mono ?_
          rintro e w1 ⟨hb1, rfl⟩
          have hr := res_after hb1
          (go_wp2_with (refine store_row 56 rfl _ _ rfl w.heap.size _ _ 56 hr.1 rfl rfl (by kernel_rfl) rfl rfl ?_); refine ret_row rfl w.heap.size _ _ hr.1.row rfl _ Tryd.underlying56 rfl ?_ rfl ?_; (kernel_rfl); (exact ⟨below_row hr.2 (Nat.le_refl _) _, (by first | rfl | exact ⟨by decide, rfl⟩)⟩))
        | bad e p =>
          clear hfi
          go_enter Tryd.func85, Tryd.ntmps85
          go_wp2_with fail
          refine (unhide HAM _).mono ?_
          rintro e w0 ⟨rfl, rfl⟩
          go_wp2_with fail
          refine (unhide HS _).mono ?_
          rintro e w1 ⟨hb1, hne, rfl⟩
          have hr := res_after hb1
          (go_wp2_with (refine store_row 56 rfl _ _ rfl w.heap.size _ _ 56 hr.1 rfl rfl (by kernel_rfl) rfl rfl ?_); refine ret_row rfl w.heap.size _ _ hr.1.row rfl _ Tryd.underlying56 rfl ?_ rfl ?_; (kernel_rfl); (exact ⟨below_row hr.2 (Nat.le_refl _) _, ⟨hne, rfl⟩⟩))
        | out => exact hfi.elim
      · have HE : Hid (Rx.sign s.data.toList i = .ok (CSet.between x.toNat x.toNat, false) (i + 1)) := hid_mk (by
          unfold Rx.sign
          rw [hp, if_neg (by omega), if_neg (by omega)]
          simp [Rx.one])
        have e1 : ((x.toNat : Int) == 92) = false := beq_eq_false_iff_ne.2 (by omega)
        have hT := hide (fun w => rbetween_any x.toNat x.toNat hxl hxl w)
        have hii : (i : Int) < (s.size : Int) := by omega
        have hwx : IntKind.i64.wrap (x.toNat : Int) = (x.toNat : Int) := IntWalk.i64_in _ (by omega)
        have hwi : IntKind.i64.wrap ((i : Int) + 1) = (i : Int) + 1 := IntWalk.i64_in _ (by omega)
        rw [HE.out]
        clear HE hp hc h92
        go_enter Tryd.func85, Tryd.ntmps85
        go_wp2_with fail
        refine (unhide HAM _).mono ?_
        rintro e w0 ⟨rfl, rfl⟩
        have hA0 := Blk.new w #[.int .i64 0, .int .u64 0, .int .u64 0, .int .u64 0, .int .u64 0, .slice none 0 0, .int .i64 0, .int .i64 0, .int .u64 0, .int .u64 0, .int .u64 0, .int .u64 0, .bool false, .int .i64 (0), .int .i64 (0), .int .i64 (0)] 56
        have hB0 : Below w.heap.size w (w.alloc (.cells #[.int .i64 0, .int .u64 0, .int .u64 0, .int .u64 0, .int .u64 0, .slice none 0 0, .int .i64 0, .int .i64 0, .int .u64 0, .int .u64 0, .int .u64 0, .int .u64 0, .bool false, .int .i64 (0), .int .i64 (0), .int .i64 (0)] 56)) := (Below.refl _ _).alloc (Nat.le_refl _) _
        go_wp2_with fail
        generalize w.alloc (.cells #[.int .i64 0, .int .u64 0, .int .u64 0, .int .u64 0, .int .u64 0, .slice none 0 0, .int .i64 0, .int .i64 0, .int .u64 0, .int .u64 0, .int .u64 0, .int .u64 0, .bool false, .int .i64 (0), .int .i64 (0), .int .i64 (0)] 56) = W at *
        have HQ := hide (fun d os => retG_q (unhide hT (grow (redrawn W d) os)))
        clear hT
        (refine region_below_tail 12 (by kernel_rfl) (by kernel_rfl) ?_; simp only [List.take_succ_cons, List.take_zero, List.drop_succ_cons, List.drop_zero]; (repeat (quiet_step ( ((go_at_call 66; with_reducible exact unhide HQ _ _))))); refine wpQuiet_nil ?_; intro _ hw'; obtain ⟨⟨nq, osq⟩, hw''⟩ := hw'; subst hw'')
        have hbq := below_regrown W nq osq
        have hr := And.intro (hA0.call hbq) (hB0.trans (hbq.mono hB0.size))
        clear hA0 hB0 hbq
        generalize grow (redrawn W nq) osq = V at *
        (go_wp2_with (refine store_row 56 rfl _ _ rfl w.heap.size _ _ 56 hr.1 rfl rfl (by kernel_rfl) rfl rfl ?_); refine ret_row rfl w.heap.size _ _ hr.1.row rfl _ Tryd.underlying56 rfl ?_ rfl ?_; (kernel_rfl); (exact ⟨below_row hr.2 (Nat.le_refl _) _, (by first | rfl | exact ⟨by decide, rfl⟩)⟩))
  · exact rsign_end s i w hs hi (by omega)
end Go.Proofs.YthgcefppeaopkaaDoor
