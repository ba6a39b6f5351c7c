/- Walks over the pattern reader: number, braces. -/
import Derived.Test.YthgcefppeaopkaaDoorReadW2
namespace Go.Proofs.YthgcefppeaopkaaDoor
open Go Go.RowKit
set_option maxRecDepth 100000
set_option linter.unusedSimpArgs false
set_option linter.unusedVariables false
set_option maxHeartbeats 1000000
def RetNum (s : ByteArray) (rb op : Nat) (r : Res Nat) (w : World) (x : Ending) (w' : World) : Prop :=
  Only rb w w' ∧ match r with
  | .ok n p => x = .returned (.int .i64 (n : Nat)) ∧ RD s rb p op w'
  | .bad e p => x = .panicked (faultV e p)
  | .out => True
def posOf (rb : Nat) (w : World) : Nat := match w.cell? ⟨rb, 1, none⟩ with | some (.int _ q) => q.toNat | _ => 0
theorem posOf_eq {s : ByteArray} {rb i op : Nat} {w : World} (h : RD s rb i op w) : posOf rb w = i := by
  have h1 : w.cell? ⟨rb, 1, none⟩ = some (.int .i64 (i : Nat)) := h.cell 1
  unfold posOf
  rw [h1]
  simp
theorem digs_stop (l : List UInt8) (f n i : Nat) (h : Rx.digitB (Rx.pk l i) = false) : Rx.digs l f n i = (n, i) := by
  cases f with
  | zero => rfl
  | succ f => simp [Rx.digs, h]
theorem digs_step (l : List UInt8) (f n i : Nat) (h : Rx.digitB (Rx.pk l i) = true) : Rx.digs l (f + 1) n i = Rx.digs l f (Nat.min (10 * n + (Rx.pk l i - 48).toNat) 1000) (i + 1) := by
  simp [Rx.digs, h]
theorem digitB_bd {c : Int} (h : Rx.digitB c = true) : 48 ≤ c ∧ c ≤ 57 := by simpa [Rx.digitB] using h
theorem digitB_no {c : Int} (h : Rx.digitB c = false) : c < 48 ∨ 57 < c := by
  simp [Rx.digitB] at h; omega
theorem min_cast (n : Nat) (c : Int) (h : 48 ≤ c) : ((Nat.min (10 * n + (c - 48).toNat) 1000 : Nat) : Int) = if 1000 < 10 * (n : Int) + c - 48 then 1000 else 10 * (n : Int) + c - 48 := by
  show ((min (10 * n + (c - 48).toNat) 1000 : Nat) : Int) = _
  split <;> omega
theorem number_any (s : ByteArray) (rb i op : Nat) (w : World) (h : RD s rb i op w) (hs : s.size ≤ 1000) (hi : i ≤ s.size) :
    Calls Tryd.prog 64 #[.pointer (some ⟨rb, 0, none⟩)] w (RetNum s rb op (Rx.number s.data.toList i) w) := by
  (have h0 : w.cell? ⟨rb, 0, none⟩ = some (.string s) := h.cell 0; have h1 : w.cell? ⟨rb, 1, none⟩ = some (.int .i64 ((i : Nat) : Int)) := h.cell 1; have h2 : w.cell? ⟨rb, 2, none⟩ = some (.int .i64 ((op : Nat) : Int)) := h.cell 2; have hf : ∀ i, w.frozen? ⟨rb, i, none⟩ = false := h.frozen)
  have HD := hid_mk h
  clear h
  go_enter Tryd.func64, Tryd.ntmps64
  go_wp2
  go_loopw [4] (fun v wr => ∃ n k : Nat, v = .int .i64 (n : Nat) ∧ n ≤ 1000 ∧ i ≤ k ∧ k ≤ s.size ∧ RD s rb k op wr ∧ Only rb w wr ∧ Rx.digs s.data.toList (s.size - i) 0 i = Rx.digs s.data.toList (s.size - k) n k) (fun _ wr => s.size - posOf rb wr)
  case atStart => exact ⟨0, i, rfl, by omega, by omega, hi, HD.out, (by repeat (first | exact Only.refl _ _ | assumption | refine Only.set ?_ (by first | exact Or.inl rfl | (right; dsimp only; omega)) _ | refine Only.alloc ?_ _ | refine Only.drewN ?_ _ | refine Only.drew ?_)), rfl⟩
  case round =>
    obtain ⟨n, k, rfl, hn, hik, hk, hd, ho, he⟩ := hrel
    have HP := hide (fun n => peek_any s rb k op (wr.drewN n) hd hs (by omega))
    (have g0 : wr.cell? ⟨rb, 0, none⟩ = some (.string s) := hd.cell 0; have g1 : wr.cell? ⟨rb, 1, none⟩ = some (.int .i64 ((k : Nat) : Int)) := hd.cell 1; have g2 : wr.cell? ⟨rb, 2, none⟩ = some (.int .i64 ((op : Nat) : Int)) := hd.cell 2; have gf : ∀ i, wr.frozen? ⟨rb, i, none⟩ = false := hd.frozen)
    have HD2 := hid_mk hd
    have HO := hid_mk ho
    have HE := hid_mk he
    have hbd := pk_bd s.data.toList k
    clear hd ho he
    cases hc : Rx.digitB (Rx.pk s.data.toList k) with
    | true =>
      have hlt : k < s.size := by
        rcases Nat.lt_or_ge k s.size with h1 | h1
        · exact h1
        · rw [pk_ge h1] at hc; simp [Rx.digitB] at hc
      obtain ⟨c1, c2⟩ := digitB_bd hc
      have hst := digs_step s.data.toList (s.size - (k + 1)) n k hc
      rw [show s.size - (k + 1) + 1 = s.size - k by omega] at hst
      have hmn := min_cast n (Rx.pk s.data.toList k) c1
      have hm2 : Nat.min (10 * n + (Rx.pk s.data.toList k - 48).toNat) 1000 ≤ 1000 := Nat.min_le_right _ _
      generalize Nat.min (10 * n + (Rx.pk s.data.toList k - 48).toNat) 1000 = n2 at *
      have HS := hid_mk (And.intro hst hmn)
      clear hc hst hmn
      generalize Rx.pk s.data.toList k = c at *
      go_wp2_with fail
      refine (unhide HP 0).mono ?_
      rintro e w1 ⟨rfl, m1, rfl⟩
      go_wp2_with fail
      refine (unhide HP _).mono ?_
      rintro e w1 ⟨rfl, m2, rfl⟩
      go_wp2_with fail
      refine (unhide HP _).mono ?_
      rintro e w1 ⟨rfl, m3, rfl⟩
      go_wp2
      go_roundw
      case rel => exact ⟨n2, k + 1, by rw [HS.out.2], hm2, by omega, by omega, (HD2.out.drewN _).put 1 _, HO.out.step (by exact (by repeat (first | exact Only.refl _ _ | assumption | refine Only.set ?_ (by first | exact Or.inl rfl | (right; dsimp only; omega)) _ | refine Only.alloc ?_ _ | refine Only.drewN ?_ _ | refine Only.drew ?_))), HE.out.trans HS.out.1⟩
      case measure =>
        have e2 := posOf_eq (s := s) (op := op) (i := k + 1) (rb := rb) (w := (wr.setCell ⟨rb, 1, none⟩ (.int .i64 ((k : Int) + 1))).drewN (m1 + m2 + m3)) ((HD2.out.drewN _).put 1 _)
        rw [e2, posOf_eq HD2.out]
        omega
    | false =>
      have hno := digitB_no hc
      have hst := digs_stop s.data.toList (s.size - k) n k hc
      have HS := hid_mk (HE.out.trans hst)
      clear hc hst
      have HR := hid_mk (other_eq (α := Nat) s k)
      have HW := hide (fun n => wrong_any s rb k op (wr.drewN n) HD2.out hs (by omega))
      have HN : Hid (Rx.number s.data.toList i = if k = i then Rx.other s.data.toList i else if Rx.pk s.data.toList i = 48 ∧ k > i + 1 then .bad 2 i else if n > 16 then .bad 3 i else .ok n k) := by
        unfold Rx.number
        simp only [show s.data.toList.length = s.size by simp]
        rw [HS.out]
        exact hid_mk rfl
      have hpi : i < s.size → Rx.pk s.data.toList i = (((s[i]!).toNat : Nat) : Int) := fun h => by
        rw [pk_lt h]; simp [h]
      have HPI := hid_mk hpi
      clear hpi
      have hd : (decide (48 ≤ Rx.pk s.data.toList k) = true ∧ decide (Rx.pk s.data.toList k ≤ 57) = false ∧ 57 < Rx.pk s.data.toList k) ∨ (decide (48 ≤ Rx.pk s.data.toList k) = false ∧ Rx.pk s.data.toList k < 48) := by simp; omega
      clear hno
      by_cases hki : k = i
      · subst hki
        have HNo : Hid (Rx.number s.data.toList k = Rx.other s.data.toList k) := hid_mk (by rw [HN.out, if_pos rfl])
        clear HN HPI
        generalize Rx.pk s.data.toList k = c at *
        rcases hd with ⟨d1, d2, d3⟩ | ⟨d1, d3⟩
        all_goals
          go_wp2_with fail
          refine (unhide HP 0).mono ?_
          rintro e w1 ⟨rfl, m1, rfl⟩
          go_wp2_with (go_at_call 38; refine (unhide HP _).mono ?_; rintro e w1 ⟨rfl, m2, rfl⟩)
          refine (unhide HW _).mono ?_
          rintro e w1 ⟨rfl, ho⟩
          refine ⟨rfl, (HO.out.drewN _).step ho, ?_⟩
          rw [HNo.out, HR.out]
          show _ = _
          split <;> rfl
      · have hil : i < s.size := by omega
        have hk1 : ((k : Int) == (i : Int)) = false := by simp; omega
        have HN2 : Hid (Rx.number s.data.toList i = if Rx.pk s.data.toList i = 48 ∧ k > i + 1 then .bad 2 i else if n > 16 then .bad 3 i else .ok n k) := hid_mk (by rw [HN.out, if_neg hki])
        have hp := pk_lt hil
        generalize Rx.pk s.data.toList k = c at *
        have hii : (i : Int) < (s.size : Int) := by omega
        have hpx : Rx.pk s.data.toList i = (s[i].toNat : Int) := hp
        generalize hx : s[i] = x at *
        have HPX := hid_mk hpx
        clear hp hpx HPI
        rcases hd with ⟨d1, d2, d3⟩ | ⟨d1, d3⟩
        all_goals
          by_cases h48 : x.toNat = 48
          · have e1 : ((x.toNat : Int) == 48) = true := by rw [h48]; rfl
            have H48 := hid_mk h48
            clear h48
            by_cases hk2 : i + 1 < k
            · have e2 : decide ((i : Int) + 1 < (k : Int)) = true := by simp; omega
              have HF : Hid (Rx.number s.data.toList i = .bad 2 i) := hid_mk (by rw [HN2.out]; rw [if_pos ⟨by rw [HPX.out, H48.out]; rfl, hk2⟩])
              clear HN2
              go_wp2_with fail
              refine (unhide HP 0).mono ?_
              rintro e w1 ⟨rfl, m1, rfl⟩
              go_wp2_with (go_at_call 38; refine (unhide HP _).mono ?_; rintro e w1 ⟨rfl, m2, rfl⟩)
              refine (fail_any _ _ _).mono ?_
              rintro e w1 ⟨rfl, rfl⟩
              refine ⟨rfl, by have ho := HO.out; exact (by repeat (first | exact Only.refl _ _ | assumption | refine Only.set ?_ (by first | exact Or.inl rfl | (right; dsimp only; omega)) _ | refine Only.alloc ?_ _ | refine Only.drewN ?_ _ | refine Only.drew ?_)), ?_⟩
              rw [HF.out]
            · have e2 : decide ((i : Int) + 1 < (k : Int)) = false := by simp; omega
              by_cases hn16 : 16 < n
              · have e3 : (16 : Int) < (n : Int) := by omega
                have HF : Hid (Rx.number s.data.toList i = .bad 3 i) := hid_mk (by rw [HN2.out]; rw [if_neg (fun h => hk2 h.2), if_pos hn16])
                clear HN2
                go_wp2_with fail
                refine (unhide HP 0).mono ?_
                rintro e w1 ⟨rfl, m1, rfl⟩
                go_wp2_with (go_at_call 38; refine (unhide HP _).mono ?_; rintro e w1 ⟨rfl, m2, rfl⟩)
                refine (fail_any _ _ _).mono ?_
                rintro e w1 ⟨rfl, rfl⟩
                refine ⟨rfl, by have ho := HO.out; exact (by repeat (first | exact Only.refl _ _ | assumption | refine Only.set ?_ (by first | exact Or.inl rfl | (right; dsimp only; omega)) _ | refine Only.alloc ?_ _ | refine Only.drewN ?_ _ | refine Only.drew ?_)), ?_⟩
                rw [HF.out]
              · have e3 : ¬ (16 : Int) < (n : Int) := by omega
                have HF : Hid (Rx.number s.data.toList i = .ok n k) := hid_mk (by rw [HN2.out]; rw [if_neg (fun h => hk2 h.2), if_neg hn16])
                clear HN2
                go_wp2_with fail
                refine (unhide HP 0).mono ?_
                rintro e w1 ⟨rfl, m1, rfl⟩
                go_wp2_with (go_at_call 38; refine (unhide HP _).mono ?_; rintro e w1 ⟨rfl, m2, rfl⟩)
                go_ret
                refine ⟨by have ho := HO.out; exact (by repeat (first | exact Only.refl _ _ | assumption | refine Only.set ?_ (by first | exact Or.inl rfl | (right; dsimp only; omega)) _ | refine Only.alloc ?_ _ | refine Only.drewN ?_ _ | refine Only.drew ?_)), ?_⟩
                rw [HF.out]
                exact ⟨rfl, HD2.out⟩
          · have e1 : ((x.toNat : Int) == 48) = false := by simp; omega
            have H48 := hid_mk h48
            clear h48
            by_cases hn16 : 16 < n
            · have e3 : (16 : Int) < (n : Int) := by omega
              have HF : Hid (Rx.number s.data.toList i = .bad 3 i) := hid_mk (by rw [HN2.out]; rw [if_neg (fun h => H48.out (by have := h.1; rw [HPX.out] at this; omega)), if_pos hn16])
              clear HN2
              go_wp2_with fail
              refine (unhide HP 0).mono ?_
              rintro e w1 ⟨rfl, m1, rfl⟩
              go_wp2_with (go_at_call 38; refine (unhide HP _).mono ?_; rintro e w1 ⟨rfl, m2, rfl⟩)
              refine (fail_any _ _ _).mono ?_
              rintro e w1 ⟨rfl, rfl⟩
              refine ⟨rfl, by have ho := HO.out; exact (by repeat (first | exact Only.refl _ _ | assumption | refine Only.set ?_ (by first | exact Or.inl rfl | (right; dsimp only; omega)) _ | refine Only.alloc ?_ _ | refine Only.drewN ?_ _ | refine Only.drew ?_)), ?_⟩
              rw [HF.out]
            · have e3 : ¬ (16 : Int) < (n : Int) := by omega
              have HF : Hid (Rx.number s.data.toList i = .ok n k) := hid_mk (by rw [HN2.out]; rw [if_neg (fun h => H48.out (by have := h.1; rw [HPX.out] at this; omega)), if_neg hn16])
              clear HN2
              go_wp2_with fail
              refine (unhide HP 0).mono ?_
              rintro e w1 ⟨rfl, m1, rfl⟩
              go_wp2_with (go_at_call 38; refine (unhide HP _).mono ?_; rintro e w1 ⟨rfl, m2, rfl⟩)
              go_ret
              refine ⟨by have ho := HO.out; exact (by repeat (first | exact Only.refl _ _ | assumption | refine Only.set ?_ (by first | exact Or.inl rfl | (right; dsimp only; omega)) _ | refine Only.alloc ?_ _ | refine Only.drewN ?_ _ | refine Only.drew ?_)), ?_⟩
              rw [HF.out]
              exact ⟨rfl, HD2.out⟩
end Go.Proofs.YthgcefppeaopkaaDoor
