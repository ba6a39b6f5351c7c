/- Walks over the reference's pattern reader: numbers. -/
import Derived.Test.YthgcefppeaopkaaDoorRefW6
namespace Go.Proofs.YthgcefppeaopkaaDoor
open Go Go.RowKit Go.Sort
set_option maxRecDepth 100000
set_option linter.unusedSimpArgs false
set_option linter.unusedVariables false
set_option maxHeartbeats 1000000
/-- a number and a struct handed back -/
theorem ret_tmp_row {P : Program} {w : World} {f : Func} {R : Ending → World → Prop} {a : Act} {q p : Tmp} {T : TypeId} (hr : f.results = #[.tmp q, .cell p T]) (g : Nat) (cs : Array Value) (t : TypeId) (hb : Blk w g cs t) (hp : a.tmps.getD p undef = .pointer (some ⟨g, 0, none⟩)) (d : TypeDesc)
    (hu : P.underlying T = some d) (hd : (match d with | .struct _ | .array _ _ => true | _ => false) = true) (hi : (P.info? T).map (·.size) = some cs.size) (hdf : a.defers = []) (h : R (.returned (.tuple #[a.tmps.getD q undef, .agg cs])) w) : bodyPost P f R .ret a w := by
  have hp' : a.tmps[p]?.getD undef = .pointer (some ⟨g, 0, none⟩) := by simpa using hp
  refine bodyPost_ret (v := .tuple #[a.tmps.getD q undef, .agg cs]) ?_ hdf h
  simp [results, hr, hp', asAddr, run_loadVar_row w g t T cs (0, 0) d hb hu hd hi]
/-- the reference hands back a number, and the place behind it; or a fault -/
def RetPU (r : Res Nat) (w : World) (x : Ending) (w' : World) : Prop := Below w.heap.size w w' ∧ match r with
  | .ok n p => x = .returned (.tuple #[.int .i64 (n : Nat), .agg #[.int .i64 0, .int .u64 0, .int .u64 0, .int .u64 0, .int .u64 0, .slice none 0 0, .int .i64 0, .int .i64 0, .int .u64 0, .int .u64 0, .int .u64 0, .int .u64 0, .bool false, .int .i64 ((p : Nat)), .int .i64 (0), .int .i64 (0)]])
  | .bad e p => e ≠ 0 ∧ x = .returned (.tuple #[.int .i64 0, .agg #[.int .i64 0, .int .u64 0, .int .u64 0, .int .u64 0, .int .u64 0, .slice none 0 0, .int .i64 0, .int .i64 0, .int .u64 0, .int .u64 0, .int .u64 0, .int .u64 0, .bool false, .int .i64 (0), .int .i64 (e), .int .i64 ((p : Nat))]])
  | .out => True
def NumRel (n m : Nat) : Prop := (m < 1000 ∧ n = m) ∨ (m = 1000 ∧ 1000 ≤ n ∧ n ≤ 9999)
theorem NumRel.step {n m d : Nat} (h : NumRel n m) (hd : d ≤ 9) : NumRel (if n < 1000 then 10 * n + d else n) (Nat.min (10 * m + d) 1000) := by
  have e : Nat.min (10 * m + d) 1000 = min (10 * m + d) 1000 := rfl
  rw [e]
  unfold NumRel at *
  split <;> omega
theorem rnumber_any (s : ByteArray) (i : Nat) (w : World) (hs : s.size ≤ 1000) (hi : i ≤ s.size) : Calls Tryd.prog 69 #[.string s, .int .i64 i] w (RetPU (Rx.number s.data.toList i) w) := by
  have HB := hide (fun e p w => rbad_any e p w)
  have HO := hide (fun w => rother_any s i w hs (by omega))
  obtain ⟨R, hR⟩ : ∃ R, R = Rx.number s.data.toList i := ⟨_, rfl⟩
  rw [← hR]
  have HR := hid_mk hR
  clear hR
  go_enter Tryd.func69, Tryd.ntmps69
  go_wp2
  go_loop [6, 7] (fun k v => ∃ j n m : Nat, k = .int .i64 (j : Nat) ∧ v = .int .i64 (n : Nat) ∧ n ≤ 9999 ∧ i ≤ j ∧ j ≤ s.size ∧ Hid (NumRel n m ∧ Rx.digs s.data.toList (s.size - i) 0 i = Rx.digs s.data.toList (s.size - j) m j)) (fun k _ => s.size - (intOf k).toNat)
  case atStart => exact ⟨i, 0, 0, rfl, rfl, by omega, Nat.le_refl _, hi, hid_mk ⟨Or.inl ⟨by omega, rfl⟩, rfl⟩⟩
  case round =>
    obtain ⟨j, n, m, rfl, rfl, hn, hij, hj, HD⟩ := hrel
    by_cases hdig : Rx.digitB (Rx.pk s.data.toList j) = true
    · have hjl : j < s.size := by
        rcases Nat.lt_or_ge j s.size with h1 | h1
        · exact h1
        · rw [pk_ge h1] at hdig; simp [Rx.digitB] at hdig
      have hy0 : ∃ y, s[j]'hjl = y := ⟨_, rfl⟩
      obtain ⟨y, hy0⟩ := hy0
      have hyp : Rx.pk s.data.toList j = (y.toNat : Int) := by rw [pk_lt hjl, hy0]
      obtain ⟨c1, c2⟩ := digitB_bd hdig
      rw [hyp] at c1 c2
      have hst := digs_step s.data.toList (s.size - (j + 1)) m j hdig
      rw [show s.size - (j + 1) + 1 = s.size - j by omega, hyp, show ((y.toNat : Int) - 48).toNat = y.toNat - 48 by omega] at hst
      have HST := hid_mk hst
      have HNR := hid_mk (HD.out.1.step (d := y.toNat - 48) (by omega))
      have d1 : decide ((48 : Int) ≤ (y.toNat : Int)) = true := by simp; omega
      have d2 : decide ((y.toNat : Int) ≤ 57) = true := by simp; omega
      have d3 : decide (48 ≤ y.toNat) = true := by simp; omega
      have d4 : decide (y.toNat ≤ 57) = true := by simp; omega
      have e1 : 48 ≤ y.toNat := by omega
      have e2 : y.toNat ≤ 57 := by omega
      clear hdig hyp hst c1 c2
      by_cases hk : n < 1000
      · have hk2 : decide (n < 1000) = true := by simpa using hk
        go_wp2
        go_round
        case rel => exact ⟨j + 1, 10 * n + (y.toNat - 48), _, by go_num, by rw [show ((10 * n + (y.toNat - 48) : Nat) : Int) = 10 * (n : Int) + (y.toNat : Int) - 48 by omega], by omega, by omega, by omega, hid_mk ⟨by have := HNR.out; rw [if_pos hk] at this; exact this, HD.out.2.trans HST.out⟩⟩
        case measure => simp [intOf]; omega
      · have hk2 : decide (n < 1000) = false := by simpa using hk
        go_wp2
        go_round
        case rel => exact ⟨j + 1, n, _, by go_num, rfl, hn, by omega, by omega, hid_mk ⟨by have := HNR.out; rw [if_neg hk] at this; exact this, HD.out.2.trans HST.out⟩⟩
        case measure => simp [intOf]; omega
    · have hst := digs_stop s.data.toList (s.size - j) m j (by simpa using hdig)
      have HN : Hid (R = if j = i then Rx.other s.data.toList i else if Rx.pk s.data.toList i = 48 ∧ j > i + 1 then .bad 2 i else if m > 16 then .bad 3 i else .ok m j) := hid_mk (by
        rw [HR.out]
        unfold Rx.number
        rw [len_data, HD.out.2, hst])
      have hway : s.size ≤ j ∨ ∃ hjl : j < s.size, ((s[j]'hjl).toNat < 48 ∨ 57 < (s[j]'hjl).toNat) := by
        rcases Nat.lt_or_ge j s.size with h1 | h1
        · right
          refine ⟨h1, ?_⟩
          have hno := digitB_no (by simpa using hdig : Rx.digitB (Rx.pk s.data.toList j) = false)
          rw [pk_lt h1] at hno
          omega
        · exact Or.inl h1
      clear hst hdig
      by_cases hji : j = i
      · subst hji
        have HE : Hid (R = .bad (if Rx.pk s.data.toList j < 0 then 1 else 2) (if Rx.pk s.data.toList j < 0 then s.size else j)) := hid_mk (by rw [HN.out, if_pos rfl, other_eq])
        clear HN HR HD
        by_cases hneg : Rx.pk s.data.toList j < 0
        · rw [if_pos hneg, if_pos hneg] at HO HE
          clear hneg
          rcases hway with hge | ⟨hjl, hlo | hhi⟩
          · have w1 : decide (j < s.size) = false := by simpa using hge
            go_wp2_with fail
            refine (unhide HO _).mono ?_
            rintro x w1 ⟨rfl, hb1⟩
            have hr := res_after hb1
            (go_wp2_with (refine store_row 56 rfl _ _ rfl w.heap.size _ _ 56 hr.1 rfl rfl (by kernel_rfl) rfl rfl ?_); refine ret_tmp_row rfl w.heap.size _ _ hr.1.row rfl _ Tryd.underlying56 rfl ?_ rfl ?_; (kernel_rfl); (exact ⟨below_row hr.2 (Nat.le_refl _) _, (by rw [HE.out]; exact ⟨by decide, rfl⟩)⟩))
          · have hy0 : ∃ y, s[j]'hjl = y := ⟨_, rfl⟩
            obtain ⟨y, hy0⟩ := hy0
            rw [hy0] at hlo
            have w1 : decide ((48 : Int) ≤ (y.toNat : Int)) = false := by simp; omega
            have w2 : decide (48 ≤ y.toNat) = false := by simp; omega
            go_wp2_with fail
            refine (unhide HO _).mono ?_
            rintro x w1 ⟨rfl, hb1⟩
            have hr := res_after hb1
            (go_wp2_with (refine store_row 56 rfl _ _ rfl w.heap.size _ _ 56 hr.1 rfl rfl (by kernel_rfl) rfl rfl ?_); refine ret_tmp_row rfl w.heap.size _ _ hr.1.row rfl _ Tryd.underlying56 rfl ?_ rfl ?_; (kernel_rfl); (exact ⟨below_row hr.2 (Nat.le_refl _) _, (by rw [HE.out]; exact ⟨by decide, rfl⟩)⟩))
          · have hy0 : ∃ y, s[j]'hjl = y := ⟨_, rfl⟩
            obtain ⟨y, hy0⟩ := hy0
            rw [hy0] at hhi
            have w1 : decide ((48 : Int) ≤ (y.toNat : Int)) = true := by simp; omega
            have w2 : decide (48 ≤ y.toNat) = true := by simp; omega
            have w3 : decide ((y.toNat : Int) ≤ 57) = false := by simp; omega
            have w4 : decide (y.toNat ≤ 57) = false := by simp; omega
            go_wp2_with fail
            refine (unhide HO _).mono ?_
            rintro x w1 ⟨rfl, hb1⟩
            have hr := res_after hb1
            (go_wp2_with (refine store_row 56 rfl _ _ rfl w.heap.size _ _ 56 hr.1 rfl rfl (by kernel_rfl) rfl rfl ?_); refine ret_tmp_row rfl w.heap.size _ _ hr.1.row rfl _ Tryd.underlying56 rfl ?_ rfl ?_; (kernel_rfl); (exact ⟨below_row hr.2 (Nat.le_refl _) _, (by rw [HE.out]; exact ⟨by decide, rfl⟩)⟩))
        · rw [if_neg hneg, if_neg hneg] at HO HE
          clear hneg
          rcases hway with hge | ⟨hjl, hlo | hhi⟩
          · have w1 : decide (j < s.size) = false := by simpa using hge
            go_wp2_with fail
            refine (unhide HO _).mono ?_
            rintro x w1 ⟨rfl, hb1⟩
            have hr := res_after hb1
            (go_wp2_with (refine store_row 56 rfl _ _ rfl w.heap.size _ _ 56 hr.1 rfl rfl (by kernel_rfl) rfl rfl ?_); refine ret_tmp_row rfl w.heap.size _ _ hr.1.row rfl _ Tryd.underlying56 rfl ?_ rfl ?_; (kernel_rfl); (exact ⟨below_row hr.2 (Nat.le_refl _) _, (by rw [HE.out]; exact ⟨by decide, rfl⟩)⟩))
          · have hy0 : ∃ y, s[j]'hjl = y := ⟨_, rfl⟩
            obtain ⟨y, hy0⟩ := hy0
            rw [hy0] at hlo
            have w1 : decide ((48 : Int) ≤ (y.toNat : Int)) = false := by simp; omega
            have w2 : decide (48 ≤ y.toNat) = false := by simp; omega
            go_wp2_with fail
            refine (unhide HO _).mono ?_
            rintro x w1 ⟨rfl, hb1⟩
            have hr := res_after hb1
            (go_wp2_with (refine store_row 56 rfl _ _ rfl w.heap.size _ _ 56 hr.1 rfl rfl (by kernel_rfl) rfl rfl ?_); refine ret_tmp_row rfl w.heap.size _ _ hr.1.row rfl _ Tryd.underlying56 rfl ?_ rfl ?_; (kernel_rfl); (exact ⟨below_row hr.2 (Nat.le_refl _) _, (by rw [HE.out]; exact ⟨by decide, rfl⟩)⟩))
          · have hy0 : ∃ y, s[j]'hjl = y := ⟨_, rfl⟩
            obtain ⟨y, hy0⟩ := hy0
            rw [hy0] at hhi
            have w1 : decide ((48 : Int) ≤ (y.toNat : Int)) = true := by simp; omega
            have w2 : decide (48 ≤ y.toNat) = true := by simp; omega
            have w3 : decide ((y.toNat : Int) ≤ 57) = false := by simp; omega
            have w4 : decide (y.toNat ≤ 57) = false := by simp; omega
            go_wp2_with fail
            refine (unhide HO _).mono ?_
            rintro x w1 ⟨rfl, hb1⟩
            have hr := res_after hb1
            (go_wp2_with (refine store_row 56 rfl _ _ rfl w.heap.size _ _ 56 hr.1 rfl rfl (by kernel_rfl) rfl rfl ?_); refine ret_tmp_row rfl w.heap.size _ _ hr.1.row rfl _ Tryd.underlying56 rfl ?_ rfl ?_; (kernel_rfl); (exact ⟨below_row hr.2 (Nat.le_refl _) _, (by rw [HE.out]; exact ⟨by decide, rfl⟩)⟩))
      · have hil : i < s.size := by omega
        have hx0 : ∃ x, s[i]'hil = x := ⟨_, rfl⟩
        obtain ⟨x, hx0⟩ := hx0
        have hxp : Rx.pk s.data.toList i = (x.toNat : Int) := by rw [pk_lt hil, hx0]
        have hji2 : (j == i) = false := by simpa using hji
        have hji3 : ((j : Int) == (i : Int)) = false := by simp; omega
        by_cases hz : x.toNat = 48 ∧ j > i + 1
        · have HE : Hid (R = .bad 2 i) := hid_mk (by rw [HN.out, if_neg hji, if_pos ⟨by rw [hxp, hz.1]; rfl, hz.2⟩])
          obtain ⟨hz1, hz2⟩ := hz
          have f1 : ((x.toNat : Int) == 48) = true := by rw [hz1]; rfl
          have f2 : (x.toNat == 48) = true := by rw [hz1]; rfl
          have f3 : decide ((i : Int) + 1 < (j : Int)) = true := by simp; omega
          clear HN HR HD hxp hz1
          rcases hway with hge | ⟨hjl, hlo | hhi⟩
          · have w1 : decide (j < s.size) = false := by simpa using hge
            go_wp2_with fail
            refine (unhide HB _ _ _).mono ?_
            rintro x w1 ⟨rfl, hb1⟩
            have hr := res_after hb1
            (go_wp2_with (refine store_row 56 rfl _ _ rfl w.heap.size _ _ 56 hr.1 rfl rfl (by kernel_rfl) rfl rfl ?_); refine ret_tmp_row rfl w.heap.size _ _ hr.1.row rfl _ Tryd.underlying56 rfl ?_ rfl ?_; (kernel_rfl); (exact ⟨below_row hr.2 (Nat.le_refl _) _, (by rw [HE.out]; exact ⟨by decide, rfl⟩)⟩))
          · have hy0 : ∃ y, s[j]'hjl = y := ⟨_, rfl⟩
            obtain ⟨y, hy0⟩ := hy0
            rw [hy0] at hlo
            have w1 : decide ((48 : Int) ≤ (y.toNat : Int)) = false := by simp; omega
            have w2 : decide (48 ≤ y.toNat) = false := by simp; omega
            go_wp2_with fail
            refine (unhide HB _ _ _).mono ?_
            rintro x w1 ⟨rfl, hb1⟩
            have hr := res_after hb1
            (go_wp2_with (refine store_row 56 rfl _ _ rfl w.heap.size _ _ 56 hr.1 rfl rfl (by kernel_rfl) rfl rfl ?_); refine ret_tmp_row rfl w.heap.size _ _ hr.1.row rfl _ Tryd.underlying56 rfl ?_ rfl ?_; (kernel_rfl); (exact ⟨below_row hr.2 (Nat.le_refl _) _, (by rw [HE.out]; exact ⟨by decide, rfl⟩)⟩))
          · have hy0 : ∃ y, s[j]'hjl = y := ⟨_, rfl⟩
            obtain ⟨y, hy0⟩ := hy0
            rw [hy0] at hhi
            have w1 : decide ((48 : Int) ≤ (y.toNat : Int)) = true := by simp; omega
            have w2 : decide (48 ≤ y.toNat) = true := by simp; omega
            have w3 : decide ((y.toNat : Int) ≤ 57) = false := by simp; omega
            have w4 : decide (y.toNat ≤ 57) = false := by simp; omega
            go_wp2_with fail
            refine (unhide HB _ _ _).mono ?_
            rintro x w1 ⟨rfl, hb1⟩
            have hr := res_after hb1
            (go_wp2_with (refine store_row 56 rfl _ _ rfl w.heap.size _ _ 56 hr.1 rfl rfl (by kernel_rfl) rfl rfl ?_); refine ret_tmp_row rfl w.heap.size _ _ hr.1.row rfl _ Tryd.underlying56 rfl ?_ rfl ?_; (kernel_rfl); (exact ⟨below_row hr.2 (Nat.le_refl _) _, (by rw [HE.out]; exact ⟨by decide, rfl⟩)⟩))
        · have HN2 : Hid (R = if m > 16 then .bad 3 i else .ok m j) := hid_mk (by rw [HN.out, if_neg hji, if_neg (by rw [hxp]; intro h; exact hz ⟨by omega, h.2⟩)])
          have hnm := HD.out.1
          unfold NumRel at hnm
          have f1 : ((x.toNat : Int) == 48) = false ∨ (((x.toNat : Int) == 48) = true ∧ decide ((i : Int) + 1 < (j : Int)) = false) := by
            by_cases h48 : x.toNat = 48
            · right
              exact ⟨by rw [h48]; rfl, by simp; omega⟩
            · left
              exact beq_eq_false_iff_ne.2 (by omega)
          by_cases hm : m > 16
          · have HE : Hid (R = .bad 3 i) := hid_mk (by rw [HN2.out, if_pos hm])
            have f4 : decide ((16 : Int) < (n : Int)) = true := by simp; omega
            clear HN HN2 HR HD hxp hz hnm
            rcases f1 with f1 | ⟨f1, f2⟩
            all_goals
              rcases hway with hge | ⟨hjl, hlo | hhi⟩
              · have w1 : decide (j < s.size) = false := by simpa using hge
                go_wp2_with fail
                refine (unhide HB _ _ _).mono ?_
                rintro x w1 ⟨rfl, hb1⟩
                have hr := res_after hb1
                (go_wp2_with (refine store_row 56 rfl _ _ rfl w.heap.size _ _ 56 hr.1 rfl rfl (by kernel_rfl) rfl rfl ?_); refine ret_tmp_row rfl w.heap.size _ _ hr.1.row rfl _ Tryd.underlying56 rfl ?_ rfl ?_; (kernel_rfl); (exact ⟨below_row hr.2 (Nat.le_refl _) _, (by rw [HE.out]; exact ⟨by decide, rfl⟩)⟩))
              · have hy0 : ∃ y, s[j]'hjl = y := ⟨_, rfl⟩
                obtain ⟨y, hy0⟩ := hy0
                rw [hy0] at hlo
                have w1 : decide ((48 : Int) ≤ (y.toNat : Int)) = false := by simp; omega
                have w2 : decide (48 ≤ y.toNat) = false := by simp; omega
                go_wp2_with fail
                refine (unhide HB _ _ _).mono ?_
                rintro x w1 ⟨rfl, hb1⟩
                have hr := res_after hb1
                (go_wp2_with (refine store_row 56 rfl _ _ rfl w.heap.size _ _ 56 hr.1 rfl rfl (by kernel_rfl) rfl rfl ?_); refine ret_tmp_row rfl w.heap.size _ _ hr.1.row rfl _ Tryd.underlying56 rfl ?_ rfl ?_; (kernel_rfl); (exact ⟨below_row hr.2 (Nat.le_refl _) _, (by rw [HE.out]; exact ⟨by decide, rfl⟩)⟩))
              · have hy0 : ∃ y, s[j]'hjl = y := ⟨_, rfl⟩
                obtain ⟨y, hy0⟩ := hy0
                rw [hy0] at hhi
                have w1 : decide ((48 : Int) ≤ (y.toNat : Int)) = true := by simp; omega
                have w2 : decide (48 ≤ y.toNat) = true := by simp; omega
                have w3 : decide ((y.toNat : Int) ≤ 57) = false := by simp; omega
                have w4 : decide (y.toNat ≤ 57) = false := by simp; omega
                go_wp2_with fail
                refine (unhide HB _ _ _).mono ?_
                rintro x w1 ⟨rfl, hb1⟩
                have hr := res_after hb1
                (go_wp2_with (refine store_row 56 rfl _ _ rfl w.heap.size _ _ 56 hr.1 rfl rfl (by kernel_rfl) rfl rfl ?_); refine ret_tmp_row rfl w.heap.size _ _ hr.1.row rfl _ Tryd.underlying56 rfl ?_ rfl ?_; (kernel_rfl); (exact ⟨below_row hr.2 (Nat.le_refl _) _, (by rw [HE.out]; exact ⟨by decide, rfl⟩)⟩))
          · have hnm2 : n = m := by omega
            subst hnm2
            have HE : Hid (R = .ok n j) := hid_mk (by rw [HN2.out, if_neg hm])
            have f4 : decide ((16 : Int) < (n : Int)) = false := by simp; omega
            clear HN HN2 HR HD hxp hz hnm
            rcases f1 with f1 | ⟨f1, f2⟩
            all_goals
              rcases hway with hge | ⟨hjl, hlo | hhi⟩
              · have w1 : decide (j < s.size) = false := by simpa using hge
                have hr := And.intro (Blk.new w #[.int .i64 0, .int .u64 0, .int .u64 0, .int .u64 0, .int .u64 0, .slice none 0 0, .int .i64 0, .int .i64 0, .int .u64 0, .int .u64 0, .int .u64 0, .int .u64 0, .bool false, .int .i64 (0), .int .i64 (0), .int .i64 (0)] 56) ((Below.refl w.heap.size w).alloc (Nat.le_refl _) (.cells #[.int .i64 0, .int .u64 0, .int .u64 0, .int .u64 0, .int .u64 0, .slice none 0 0, .int .i64 0, .int .i64 0, .int .u64 0, .int .u64 0, .int .u64 0, .int .u64 0, .bool false, .int .i64 (0), .int .i64 (0), .int .i64 (0)] 56))
                (go_wp2_with (refine store_row 56 rfl _ _ rfl w.heap.size _ _ 56 hr.1 rfl rfl (by kernel_rfl) rfl rfl ?_); refine ret_tmp_row rfl w.heap.size _ _ hr.1.row rfl _ Tryd.underlying56 rfl ?_ rfl ?_; (kernel_rfl); (exact ⟨below_row hr.2 (Nat.le_refl _) _, (by rw [HE.out] <;> exact rfl)⟩))
              · have hy0 : ∃ y, s[j]'hjl = y := ⟨_, rfl⟩
                obtain ⟨y, hy0⟩ := hy0
                rw [hy0] at hlo
                have w1 : decide ((48 : Int) ≤ (y.toNat : Int)) = false := by simp; omega
                have w2 : decide (48 ≤ y.toNat) = false := by simp; omega
                have hr := And.intro (Blk.new w #[.int .i64 0, .int .u64 0, .int .u64 0, .int .u64 0, .int .u64 0, .slice none 0 0, .int .i64 0, .int .i64 0, .int .u64 0, .int .u64 0, .int .u64 0, .int .u64 0, .bool false, .int .i64 (0), .int .i64 (0), .int .i64 (0)] 56) ((Below.refl w.heap.size w).alloc (Nat.le_refl _) (.cells #[.int .i64 0, .int .u64 0, .int .u64 0, .int .u64 0, .int .u64 0, .slice none 0 0, .int .i64 0, .int .i64 0, .int .u64 0, .int .u64 0, .int .u64 0, .int .u64 0, .bool false, .int .i64 (0), .int .i64 (0), .int .i64 (0)] 56))
                (go_wp2_with (refine store_row 56 rfl _ _ rfl w.heap.size _ _ 56 hr.1 rfl rfl (by kernel_rfl) rfl rfl ?_); refine ret_tmp_row rfl w.heap.size _ _ hr.1.row rfl _ Tryd.underlying56 rfl ?_ rfl ?_; (kernel_rfl); (exact ⟨below_row hr.2 (Nat.le_refl _) _, (by rw [HE.out] <;> exact rfl)⟩))
              · have hy0 : ∃ y, s[j]'hjl = y := ⟨_, rfl⟩
                obtain ⟨y, hy0⟩ := hy0
                rw [hy0] at hhi
                have w1 : decide ((48 : Int) ≤ (y.toNat : Int)) = true := by simp; omega
                have w2 : decide (48 ≤ y.toNat) = true := by simp; omega
                have w3 : decide ((y.toNat : Int) ≤ 57) = false := by simp; omega
                have w4 : decide (y.toNat ≤ 57) = false := by simp; omega
                have hr := And.intro (Blk.new w #[.int .i64 0, .int .u64 0, .int .u64 0, .int .u64 0, .int .u64 0, .slice none 0 0, .int .i64 0, .int .i64 0, .int .u64 0, .int .u64 0, .int .u64 0, .int .u64 0, .bool false, .int .i64 (0), .int .i64 (0), .int .i64 (0)] 56) ((Below.refl w.heap.size w).alloc (Nat.le_refl _) (.cells #[.int .i64 0, .int .u64 0, .int .u64 0, .int .u64 0, .int .u64 0, .slice none 0 0, .int .i64 0, .int .i64 0, .int .u64 0, .int .u64 0, .int .u64 0, .int .u64 0, .bool false, .int .i64 (0), .int .i64 (0), .int .i64 (0)] 56))
                (go_wp2_with (refine store_row 56 rfl _ _ rfl w.heap.size _ _ 56 hr.1 rfl rfl (by kernel_rfl) rfl rfl ?_); refine ret_tmp_row rfl w.heap.size _ _ hr.1.row rfl _ Tryd.underlying56 rfl ?_ rfl ?_; (kernel_rfl); (exact ⟨below_row hr.2 (Nat.le_refl _) _, (by rw [HE.out] <;> exact rfl)⟩))
end Go.Proofs.YthgcefppeaopkaaDoor
