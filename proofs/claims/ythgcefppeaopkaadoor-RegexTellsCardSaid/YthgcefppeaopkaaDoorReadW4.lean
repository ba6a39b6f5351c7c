/- Walks over the pattern reader: braces. -/
import Derived.Test.YthgcefppeaopkaaDoorReadW3
import Derived.Test.YthgcefppeaopkaaDoorRegexQ
namespace Go.Proofs.YthgcefppeaopkaaDoor
open Go Go.RowKit
set_option maxRecDepth 100000
set_option linter.unusedSimpArgs false
set_option linter.unusedVariables false
set_option maxHeartbeats 1000000
def RetBrc (s : ByteArray) (rb op : Nat) (r : Res (Int × Int)) (w : World) (x : Ending) (w' : World) : Prop :=
  Only rb w w' ∧ match r with
  | .ok (a, b) p => x = .returned (.tuple #[.int .i64 a, .int .i64 b]) ∧ RD s rb p op w'
  | .bad e p => x = .panicked (faultV e p)
  | .out => True
theorem RD.next {s : ByteArray} {rb i op : Nat} {w : World} (h : RD s rb i op w) : RD s rb (i + 1) op (w.setCell ⟨rb, 1, none⟩ (.int .i64 ((i : Int) + 1))) := Blk.put h 1 (.int .i64 ((i : Int) + 1))
theorem RD.drewN {s : ByteArray} {rb i op : Nat} {w : World} (h : RD s rb i op w) (n : Nat) : RD s rb i op (w.drewN n) := h
theorem Only.via {rb : Nat} {a w w' x : World} (h : Only rb a w) (k : Only rb w' x) (m : Only rb w w') : Only rb a x := (h.step m).step k
theorem len_data (s : ByteArray) : s.data.toList.length = s.size := by simp
theorem braces_any (s : ByteArray) (rb i op : Nat) (w : World) (h : RD s rb i op w) (hs : s.size ≤ 1000) (hi : i ≤ s.size) :
    Calls Tryd.prog 56 #[.pointer (some ⟨rb, 0, none⟩)] w (RetBrc s rb op (Rx.brc s.data.toList i) w) := by
  have HB : Hid (Rx.brc s.data.toList i = _) := hid_mk (by unfold Rx.brc; exact rfl)
  have HN := hide (fun n => number_any s rb i op (w.drewN n) h hs hi)
  have hfi := fine_number s.data.toList i (by simpa using hi)
  (have h0 : w.cell? ⟨rb, 0, none⟩ = some (.string s) := h.cell 0; have h1 : w.cell? ⟨rb, 1, none⟩ = some (.int .i64 ((i : Nat) : Int)) := h.cell 1; have h2 : w.cell? ⟨rb, 2, none⟩ = some (.int .i64 ((op : Nat) : Int)) := h.cell 2; have hf : ∀ i, w.frozen? ⟨rb, i, none⟩ = false := h.frozen)
  have HD := hid_mk h
  clear h
  cases hr : Rx.number s.data.toList i with
  | out => rw [hr] at hfi; exact hfi.elim
  | bad e q =>
    rw [hr] at HB HN
    have HB2 : Hid (Rx.brc s.data.toList i = .bad e q) := HB
    clear hr hfi HB
    go_enter Tryd.func56, Tryd.ntmps56
    go_wp2_with fail
    refine (unhide HN 0).mono ?_
    rintro x w1 ⟨ho, rfl⟩
    exact ⟨rfl, ho, by rw [HB2.out]⟩
  | ok n p =>
    rw [hr] at HB HN hfi
    have hn := number_le hr
    have hp1 : i < p := hfi.1
    have hp2 : p ≤ s.size := by simpa using hfi.2
    clear hfi
    dsimp only at HB
    have hb1 := pk_bd s.data.toList p
    cases hc : decide (Rx.pk s.data.toList p = 44) with
    | true =>
      have hc1 : Rx.pk s.data.toList p = 44 := of_decide_eq_true hc
      have hlt : p < s.size := by simpa using pk_in (l := s.data.toList) (i := p) (by rw [hc1]; decide)
      rw [if_pos hc1] at HB
      cases hd : decide (Rx.pk s.data.toList (p + 1) = 125) with
      | true =>
        have hd1 : Rx.pk s.data.toList (p + 1) = 125 := of_decide_eq_true hd
        rw [if_pos hd1] at HB
        clear hr hc hd
        have HC := hid_mk (And.intro hc1 hd1)
        clear hc1 hd1
        go_enter Tryd.func56, Tryd.ntmps56
        go_wp2_with fail
        refine (unhide HN 0).mono ?_
        rintro x w1 ⟨ho, rfl, hd⟩
        have HP := hide (fun n => peek_any s rb p op (w1.drewN n) hd hs (by omega))
        rw [HC.out.1] at HP
        have HP2 := hide (fun n => peek_any s rb (p + 1) op ((w1.drewN n).setCell ⟨rb, 1, none⟩ (.int .i64 ((p : Int) + 1))) (RD.next (w := w1.drewN n) hd) hs (by omega))
        rw [HC.out.2] at HP2
        (have g0 : w1.cell? ⟨rb, 0, none⟩ = some (.string s) := hd.cell 0; have g1 : w1.cell? ⟨rb, 1, none⟩ = some (.int .i64 ((p : Nat) : Int)) := hd.cell 1; have g2 : w1.cell? ⟨rb, 2, none⟩ = some (.int .i64 ((op : Nat) : Int)) := hd.cell 2; have gf : ∀ i, w1.frozen? ⟨rb, i, none⟩ = false := hd.frozen)
        have HD2 := hid_mk hd
        have HO := hid_mk ho
        clear hd ho
        go_wp2_with fail
        refine (unhide HP 0).mono ?_
        rintro e w2 ⟨rfl, m1, rfl⟩
        go_wp2_with fail
        refine (unhide HP2 _).mono ?_
        rintro e w2 ⟨rfl, m2, rfl⟩
        go_wp2
        refine bodyPost_ret (v := .tuple #[.int .i64 (n : Nat), .int .i64 (-1)]) (by simp [results, Tryd.results56, go_sem]) rfl ⟨HO.out.step (by repeat (first | exact Only.refl _ _ | assumption | refine Only.set ?_ (by first | exact Or.inl rfl | (right; dsimp only; omega)) _ | refine Only.alloc ?_ _ | refine Only.drewN ?_ _ | refine Only.drew ?_)), ?_⟩
        rw [HB.out]
        exact ⟨rfl, RD.next (w := w1.drewN _) HD2.out⟩
      | false =>
        have hd1 : ¬ Rx.pk s.data.toList (p + 1) = 125 := of_decide_eq_false hd
        rw [if_neg hd1] at HB
        have hf2 := fine_number s.data.toList (p + 1) (by simp; omega)
        have hbb := pk_bd s.data.toList (p + 1)
        have HD1 := hid_mk hd1
        clear hr hc hd hd1
        have HC := hid_mk hc1
        clear hc1
        go_enter Tryd.func56, Tryd.ntmps56
        go_wp2_with fail
        refine (unhide HN 0).mono ?_
        rintro x w1 ⟨ho, rfl, hd⟩
        have HP := hide (fun n => peek_any s rb p op (w1.drewN n) hd hs (by omega))
        rw [HC.out] at HP
        have HP2 := hide (fun n => peek_any s rb (p + 1) op ((w1.drewN n).setCell ⟨rb, 1, none⟩ (.int .i64 ((p : Int) + 1))) (RD.next (w := w1.drewN n) hd) hs (by omega))
        have HN2 := hide (fun n => number_any s rb (p + 1) op ((w1.drewN n).setCell ⟨rb, 1, none⟩ (.int .i64 ((p : Int) + 1))) (RD.next (w := w1.drewN n) hd) hs (by omega))
        have hd2 := HD1.out
        generalize Rx.pk s.data.toList (p + 1) = c2 at *
        (have g0 : w1.cell? ⟨rb, 0, none⟩ = some (.string s) := hd.cell 0; have g1 : w1.cell? ⟨rb, 1, none⟩ = some (.int .i64 ((p : Nat) : Int)) := hd.cell 1; have g2 : w1.cell? ⟨rb, 2, none⟩ = some (.int .i64 ((op : Nat) : Int)) := hd.cell 2; have gf : ∀ i, w1.frozen? ⟨rb, i, none⟩ = false := hd.frozen)
        have HD2 := hid_mk hd
        have HO := hid_mk ho
        clear hd ho
        cases hq : Rx.number s.data.toList (p + 1) with
        | out => rw [hq] at hf2; exact hf2.elim
        | bad e q =>
          rw [hq] at HB HN2
          dsimp only at HB
          clear hq hf2
          go_wp2_with fail
          refine (unhide HP 0).mono ?_
          rintro e w2 ⟨rfl, m1, rfl⟩
          go_wp2_with fail
          refine (unhide HP2 _).mono ?_
          rintro e w2 ⟨rfl, m2, rfl⟩
          go_wp2_with fail
          refine (unhide HN2 _).mono ?_
          rintro e w2 ⟨ho, rfl⟩
          exact ⟨rfl, HO.out.via ho (by repeat (first | exact Only.refl _ _ | assumption | refine Only.set ?_ (by first | exact Or.inl rfl | (right; dsimp only; omega)) _ | refine Only.alloc ?_ _ | refine Only.drewN ?_ _ | refine Only.drew ?_)), by rw [HB.out] <;> exact rfl⟩
        | ok m q =>
          rw [hq] at HB HN2
          dsimp only at HB
          clear hq hf2
          by_cases hm : m = 0 ∨ m < n
          · rw [if_pos hm] at HB
            rcases hm with hm | hm
            · have e1 : ((m : Int) == 0) = true := by simp; omega
              clear hm
              go_wp2_with fail
              refine (unhide HP 0).mono ?_
              rintro e w2 ⟨rfl, m1, rfl⟩
              go_wp2_with fail
              refine (unhide HP2 _).mono ?_
              rintro e w2 ⟨rfl, m2, rfl⟩
              go_wp2_with fail
              refine (unhide HN2 _).mono ?_
              rintro e w2 ⟨ho, rfl, hd2⟩
              have HO2 := hid_mk ho
              clear ho
              go_wp2_with fail
              refine (fail_any _ _ _).mono ?_
              rintro e w1 ⟨rfl, rfl⟩
              exact ⟨rfl, HO.out.via HO2.out (by repeat (first | exact Only.refl _ _ | assumption | refine Only.set ?_ (by first | exact Or.inl rfl | (right; dsimp only; omega)) _ | refine Only.alloc ?_ _ | refine Only.drewN ?_ _ | refine Only.drew ?_)), by rw [HB.out] <;> exact rfl⟩
            · by_cases hz : m = 0
              · have e1 : ((m : Int) == 0) = true := by simp; omega
                clear hm
                go_wp2_with fail
                refine (unhide HP 0).mono ?_
                rintro e w2 ⟨rfl, m1, rfl⟩
                go_wp2_with fail
                refine (unhide HP2 _).mono ?_
                rintro e w2 ⟨rfl, m2, rfl⟩
                go_wp2_with fail
                refine (unhide HN2 _).mono ?_
                rintro e w2 ⟨ho, rfl, hd2⟩
                have HO2 := hid_mk ho
                clear ho
                go_wp2_with fail
                refine (fail_any _ _ _).mono ?_
                rintro e w1 ⟨rfl, rfl⟩
                exact ⟨rfl, HO.out.via HO2.out (by repeat (first | exact Only.refl _ _ | assumption | refine Only.set ?_ (by first | exact Or.inl rfl | (right; dsimp only; omega)) _ | refine Only.alloc ?_ _ | refine Only.drewN ?_ _ | refine Only.drew ?_)), by rw [HB.out] <;> exact rfl⟩
              · have e1 : ((m : Int) == 0) = false := by simp; omega
                have e2 : decide ((m : Int) < (n : Int)) = true := by simp; omega
                clear hz
                go_wp2_with fail
                refine (unhide HP 0).mono ?_
                rintro e w2 ⟨rfl, m1, rfl⟩
                go_wp2_with fail
                refine (unhide HP2 _).mono ?_
                rintro e w2 ⟨rfl, m2, rfl⟩
                go_wp2_with fail
                refine (unhide HN2 _).mono ?_
                rintro e w2 ⟨ho, rfl, hd2⟩
                have HO2 := hid_mk ho
                clear ho
                go_wp2_with fail
                refine (fail_any _ _ _).mono ?_
                rintro e w1 ⟨rfl, rfl⟩
                exact ⟨rfl, HO.out.via HO2.out (by repeat (first | exact Only.refl _ _ | assumption | refine Only.set ?_ (by first | exact Or.inl rfl | (right; dsimp only; omega)) _ | refine Only.alloc ?_ _ | refine Only.drewN ?_ _ | refine Only.drew ?_)), by rw [HB.out] <;> exact rfl⟩
          · rw [if_neg hm] at HB
            have e1 : ((m : Int) == 0) = false := by simp; omega
            have e2 : decide ((m : Int) < (n : Int)) = false := by simp; omega
            have e3 : ¬ m < n := fun h => hm (Or.inr h)
            clear hm
            go_wp2_with fail
            refine (unhide HP 0).mono ?_
            rintro e w2 ⟨rfl, m1, rfl⟩
            go_wp2_with fail
            refine (unhide HP2 _).mono ?_
            rintro e w2 ⟨rfl, m2, rfl⟩
            go_wp2_with fail
            refine (unhide HN2 _).mono ?_
            rintro e w2 ⟨ho, rfl, hd2⟩
            have HO2 := hid_mk ho
            clear ho
            go_wp2
            refine bodyPost_ret (v := .tuple #[.int .i64 (n : Nat), .int .i64 (m : Nat)]) (by simp [results, Tryd.results56, go_sem]) rfl ⟨HO.out.via HO2.out (by repeat (first | exact Only.refl _ _ | assumption | refine Only.set ?_ (by first | exact Or.inl rfl | (right; dsimp only; omega)) _ | refine Only.alloc ?_ _ | refine Only.drewN ?_ _ | refine Only.drew ?_)), ?_⟩
            rw [HB.out]
            exact ⟨rfl, hd2⟩
    | false =>
      have hc1 : ¬ Rx.pk s.data.toList p = 44 := of_decide_eq_false hc
      rw [if_neg hc1] at HB
      clear hr hc
      have HC := hid_mk hc1
      clear hc1
      by_cases hz : n = 0
      · rw [if_pos hz] at HB
        have e1 : ((n : Int) == 0) = true := by simp; omega
        clear hz
        go_enter Tryd.func56, Tryd.ntmps56
        go_wp2_with fail
        refine (unhide HN 0).mono ?_
        rintro x w1 ⟨ho, rfl, hd⟩
        have HP := hide (fun n => peek_any s rb p op (w1.drewN n) hd hs (by omega))
        have hc2 := HC.out
        generalize Rx.pk s.data.toList p = c2 at *
        (have g0 : w1.cell? ⟨rb, 0, none⟩ = some (.string s) := hd.cell 0; have g1 : w1.cell? ⟨rb, 1, none⟩ = some (.int .i64 ((p : Nat) : Int)) := hd.cell 1; have g2 : w1.cell? ⟨rb, 2, none⟩ = some (.int .i64 ((op : Nat) : Int)) := hd.cell 2; have gf : ∀ i, w1.frozen? ⟨rb, i, none⟩ = false := hd.frozen)
        have HD2 := hid_mk hd
        have HO := hid_mk ho
        clear hd ho
        go_wp2_with fail
        refine (unhide HP 0).mono ?_
        rintro e w2 ⟨rfl, m1, rfl⟩
        go_wp2_with fail
        refine (fail_any _ _ _).mono ?_
        rintro e w1 ⟨rfl, rfl⟩
        exact ⟨rfl, HO.out.step (by exact (by repeat (first | exact Only.refl _ _ | assumption | refine Only.set ?_ (by first | exact Or.inl rfl | (right; dsimp only; omega)) _ | refine Only.alloc ?_ _ | refine Only.drewN ?_ _ | refine Only.drew ?_))), by rw [HB.out] <;> exact rfl⟩
      · rw [if_neg hz] at HB
        have e1 : ((n : Int) == 0) = false := by simp; omega
        have e2 : decide ((n : Int) < (n : Int)) = false := by simp
        clear hz
        go_enter Tryd.func56, Tryd.ntmps56
        go_wp2_with fail
        refine (unhide HN 0).mono ?_
        rintro x w1 ⟨ho, rfl, hd⟩
        have HP := hide (fun n => peek_any s rb p op (w1.drewN n) hd hs (by omega))
        have hc2 := HC.out
        generalize Rx.pk s.data.toList p = c2 at *
        (have g0 : w1.cell? ⟨rb, 0, none⟩ = some (.string s) := hd.cell 0; have g1 : w1.cell? ⟨rb, 1, none⟩ = some (.int .i64 ((p : Nat) : Int)) := hd.cell 1; have g2 : w1.cell? ⟨rb, 2, none⟩ = some (.int .i64 ((op : Nat) : Int)) := hd.cell 2; have gf : ∀ i, w1.frozen? ⟨rb, i, none⟩ = false := hd.frozen)
        have HD2 := hid_mk hd
        have HO := hid_mk ho
        clear hd ho
        go_wp2_with fail
        refine (unhide HP 0).mono ?_
        rintro e w2 ⟨rfl, m1, rfl⟩
        go_wp2
        refine bodyPost_ret (v := .tuple #[.int .i64 (n : Nat), .int .i64 (n : Nat)]) (by simp [results, Tryd.results56, go_sem]) rfl ⟨HO.out.step (by exact (by repeat (first | exact Only.refl _ _ | assumption | refine Only.set ?_ (by first | exact Or.inl rfl | (right; dsimp only; omega)) _ | refine Only.alloc ?_ _ | refine Only.drewN ?_ _ | refine Only.drew ?_))), ?_⟩
        rw [HB.out]
        exact ⟨rfl, HD2.out.drewN _⟩
end Go.Proofs.YthgcefppeaopkaaDoor
