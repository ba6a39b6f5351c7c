/- Walks over the pattern reader: hex, digits, words, need, number. -/
import Derived.Test.YthgcefppeaopkaaDoorReadW
import Derived.Test.YthgcefppeaopkaaDoorSetW3
import Derived.Test.YthgcefppeaopkaaDoorRegexP
namespace Go.Proofs.YthgcefppeaopkaaDoor
open Go Go.RowKit
set_option maxRecDepth 100000
set_option linter.unusedSimpArgs false
set_option linter.unusedVariables false
set_option maxHeartbeats 1000000
theorem hex_any (b : Int) (w : World) (h0 : -1 ≤ b) (h1 : b ≤ 255) : Calls Tryd.prog 75 #[.int .i64 b] w (Ret (.int .i64 (Rx.hexv b)) w) := by
  have hc : (48 ≤ b ∧ b ≤ 57) ∨ (97 ≤ b ∧ b ≤ 102) ∨ (b < 48) ∨ (57 < b ∧ b < 97) ∨ (102 < b) := by omega
  rcases hc with hc | hc | hc | hc | hc
  · obtain ⟨c1, c2⟩ := hc
    go_enter Tryd.func75, Tryd.ntmps75
    go_wp2
    go_ret
    exact ret_int (by unfold Rx.hexv; rw [if_pos ⟨c1, c2⟩])
  · obtain ⟨c1, c2⟩ := hc
    have d1 : decide (48 ≤ b) = true := by simp; omega
    have d2 : decide (b ≤ 57) = false := by simp; omega
    go_enter Tryd.func75, Tryd.ntmps75
    go_wp2
    go_ret
    exact ret_int (by unfold Rx.hexv; rw [if_neg (by omega), if_pos ⟨c1, c2⟩]; omega)
  · have d1 : decide (48 ≤ b) = false := by simp; omega
    have d2 : decide (97 ≤ b) = false := by simp; omega
    go_enter Tryd.func75, Tryd.ntmps75
    go_wp2
    go_ret
    exact ret_int (by unfold Rx.hexv; rw [if_neg (by omega), if_neg (by omega)])
  · obtain ⟨c1, c2⟩ := hc
    have d1 : decide (48 ≤ b) = true := by simp; omega
    have d2 : decide (b ≤ 57) = false := by simp; omega
    have d3 : decide (97 ≤ b) = false := by simp; omega
    go_enter Tryd.func75, Tryd.ntmps75
    go_wp2
    go_ret
    exact ret_int (by unfold Rx.hexv; rw [if_neg (by omega), if_neg (by omega)])
  · have d1 : decide (48 ≤ b) = true := by simp; omega
    have d2 : decide (b ≤ 57) = false := by simp; omega
    have d3 : decide (97 ≤ b) = true := by simp; omega
    have d4 : decide (b ≤ 102) = false := by simp; omega
    go_enter Tryd.func75, Tryd.ntmps75
    go_wp2
    go_ret
    exact ret_int (by unfold Rx.hexv; rw [if_neg (by omega), if_neg (by omega)])
theorem digits_any (w : World) : Calls Tryd.prog 73 #[] w (RetG (.agg #[.int .u64 ((Rx.digits).a.toNat : Int), .int .u64 ((Rx.digits).b.toNat : Int), .int .u64 ((Rx.digits).c.toNat : Int), .int .u64 ((Rx.digits).d.toNat : Int)]) w) := by
  have HC := hide (fun w => of_any 48 57 (by decide) (by decide) w)
  go_enter Tryd.func73, Tryd.ntmps73
  go_wp2_with fail
  refine (unhide HC _).mono ?_
  rintro e w1 ⟨rfl, hb1⟩
  have hA := (Blk.new w #[.int .u64 0, .int .u64 0, .int .u64 0, .int .u64 0] 25).call hb1
  (have z0 : w1.cell? ⟨w.heap.size, 0, none⟩ = some (.int .u64 0) := hA.cell 0; have z1 : w1.cell? ⟨w.heap.size, 1, none⟩ = some (.int .u64 0) := hA.cell 1; have z2 : w1.cell? ⟨w.heap.size, 2, none⟩ = some (.int .u64 0) := hA.cell 2; have z3 : w1.cell? ⟨w.heap.size, 3, none⟩ = some (.int .u64 0) := hA.cell 3; have zf : ∀ i, w1.frozen? ⟨w.heap.size, i, none⟩ = false := hA.frozen)
  have HB := hid_mk (bthen (B := w.heap.size) (a := w) ((Below.refl _ _).alloc (Nat.le_refl _) _) (by simp) hb1)
  clear hA hb1
  go_wp2
  refine bodyPost_ret (v := .agg #[.int .u64 ((Rx.digits).a.toNat : Int), .int .u64 ((Rx.digits).b.toNat : Int), .int .u64 ((Rx.digits).c.toNat : Int), .int .u64 ((Rx.digits).d.toNat : Int)]) (by simp [results, Tryd.results73, go_sem, z0, z1, z2, z3]; simp [Rx.digits]) rfl ⟨rfl, ?_⟩
  have hb2 := HB.out
  exact (by repeat (first | exact Below.refl _ _ | assumption | refine Below.setCell ?_ (by first | omega | (simp <;> omega)) _ | refine Below.alloc ?_ (by first | omega | (simp <;> omega)) _ | refine below_drewN ?_ _ | refine Below.drew ?_))
theorem words_any (w : World) : Calls Tryd.prog 74 #[] w (RetG (.agg #[.int .u64 ((Rx.words).a.toNat : Int), .int .u64 ((Rx.words).b.toNat : Int), .int .u64 ((Rx.words).c.toNat : Int), .int .u64 ((Rx.words).d.toNat : Int)]) w) := by
  have HC := hide (fun lo hi (h1 : lo < 256) (h2 : hi < 256) w => of_any lo hi h1 h2 w)
  have HO := hide (fun S T w => or_any S T w)
  go_enter Tryd.func74, Tryd.ntmps74
  go_wp2_with fail
  refine (digits_any _).mono ?_
  rintro e w1 ⟨rfl, hb1⟩
  go_wp2_with fail
  refine (unhide HC 65 90 (by decide) (by decide) _).mono ?_
  rintro e w2 ⟨rfl, hb2⟩
  go_wp2_with fail
  refine (unhide HO Rx.digits (CSet.between 65 90) _).mono ?_
  rintro e w3 ⟨rfl, hb3⟩
  go_wp2_with fail
  refine (unhide HC 97 122 (by decide) (by decide) _).mono ?_
  rintro e w4 ⟨rfl, hb4⟩
  go_wp2_with fail
  refine (unhide HC 95 95 (by decide) (by decide) _).mono ?_
  rintro e w5 ⟨rfl, hb5⟩
  go_wp2_with fail
  refine (unhide HO (CSet.between 97 122) (CSet.between 95 95) _).mono ?_
  rintro e w6 ⟨rfl, hb6⟩
  go_wp2_with fail
  refine (unhide HO (Rx.digits.or (CSet.between 65 90)) ((CSet.between 97 122).or (CSet.between 95 95)) _).mono ?_
  rintro e w7 ⟨rfl, hb7⟩
  have hbb := bstep (bstep (bstep (bstep (bstep (bstep hb1 hb2) hb3) hb4) hb5) hb6) hb7
  have hA := (Blk.new w #[.int .u64 0, .int .u64 0, .int .u64 0, .int .u64 0] 25).call hbb
  (have z0 : w7.cell? ⟨w.heap.size, 0, none⟩ = some (.int .u64 0) := hA.cell 0; have z1 : w7.cell? ⟨w.heap.size, 1, none⟩ = some (.int .u64 0) := hA.cell 1; have z2 : w7.cell? ⟨w.heap.size, 2, none⟩ = some (.int .u64 0) := hA.cell 2; have z3 : w7.cell? ⟨w.heap.size, 3, none⟩ = some (.int .u64 0) := hA.cell 3; have zf : ∀ i, w7.frozen? ⟨w.heap.size, i, none⟩ = false := hA.frozen)
  have HB := hid_mk (bthen (B := w.heap.size) (a := w) ((Below.refl _ _).alloc (Nat.le_refl _) _) (by simp) hbb)
  clear hA hb1 hb2 hb3 hb4 hb5 hb6 hb7 hbb
  have hw : Rx.words = (Rx.digits.or (CSet.between 65 90)).or ((CSet.between 97 122).or (CSet.between 95 95)) := rfl
  rw [← hw]
  go_wp2
  refine bodyPost_ret (v := .agg #[.int .u64 ((Rx.words).a.toNat : Int), .int .u64 ((Rx.words).b.toNat : Int), .int .u64 ((Rx.words).c.toNat : Int), .int .u64 ((Rx.words).d.toNat : Int)]) (by simp [results, Tryd.results74, go_sem, z0, z1, z2, z3, hw]) rfl ⟨rfl, ?_⟩
  have hb2 := HB.out
  exact (by repeat (first | exact Below.refl _ _ | assumption | refine Below.setCell ?_ (by first | omega | (simp <;> omega)) _ | refine Below.alloc ?_ (by first | omega | (simp <;> omega)) _ | refine below_drewN ?_ _ | refine Below.drew ?_))
/-- a call that hands back nothing, the reader now at p -/
def RetNeed (s : ByteArray) (rb op : Nat) (r : Res Unit) (w : World) (x : Ending) (w' : World) : Prop :=
  Only rb w w' ∧ match r with
  | .ok _ p => x = .returned (.tuple #[]) ∧ RD s rb p op w'
  | .bad e p => x = .panicked (faultV e p)
  | .out => True
theorem other_eq {α : Type} (s : ByteArray) (i : Nat) : (Rx.other s.data.toList i : Res α) = .bad (if Rx.pk s.data.toList i < 0 then 1 else 2) (if Rx.pk s.data.toList i < 0 then s.size else i) := by
  unfold Rx.other
  split
  · simp
  · rfl
theorem need_any (s : ByteArray) (rb i op b : Nat) (w : World) (h : RD s rb i op w) (hs : s.size ≤ 1000) (hi : i ≤ 1000) (hb : b < 256) :
    Calls Tryd.prog 57 #[.pointer (some ⟨rb, 0, none⟩), .int .u8 b] w (RetNeed s rb op (if Rx.pk s.data.toList i = b then .ok () (i + 1) else Rx.other s.data.toList i) w) := by
  have HP := hide (peek_any s rb i op w h hs (by omega))
  have HW := hide (fun n => wrong_any s rb i op (w.drewN n) h hs (by omega))
  have hr := other_eq (α := Unit) s i
  (have h0 : w.cell? ⟨rb, 0, none⟩ = some (.string s) := h.cell 0; have h1 : w.cell? ⟨rb, 1, none⟩ = some (.int .i64 ((i : Nat) : Int)) := h.cell 1; have h2 : w.cell? ⟨rb, 2, none⟩ = some (.int .i64 ((op : Nat) : Int)) := h.cell 2; have hf : ∀ i, w.frozen? ⟨rb, i, none⟩ = false := h.frozen)
  have HD := hid_mk h
  clear h
  by_cases hc : Rx.pk s.data.toList i = b
  · rw [if_pos hc]
    rw [hc] at HP
    have ht : ((b : Int) != (b : Int)) = false := by simp
    clear hr hc HW
    go_enter Tryd.func57, Tryd.ntmps57
    go_wp2_with fail
    refine (unhide HP).mono ?_
    rintro e w1 ⟨rfl, n, rfl⟩
    go_wp2
    go_end0
    exact ⟨(by repeat (first | exact Only.refl _ _ | assumption | refine Only.set ?_ (by first | exact Or.inl rfl | (right; dsimp only; omega)) _ | refine Only.alloc ?_ _ | refine Only.drewN ?_ _ | refine Only.drew ?_)), rfl, (HD.out.drewN n).put 1 _⟩
  · rw [if_neg hc]
    have HR := hid_mk hr
    clear hr
    generalize Rx.pk s.data.toList i = c at *
    go_enter Tryd.func57, Tryd.ntmps57
    go_wp2_with fail
    refine (unhide HP).mono ?_
    rintro e w1 ⟨rfl, n, rfl⟩
    go_wp2_with fail
    refine (unhide HW _).mono ?_
    rintro e w1 ⟨rfl, ho⟩
    refine ⟨rfl, ((Only.refl _ _).drewN n).step ho, ?_⟩
    rw [HR.out]
    show _ = _
    split <;> rfl
def RetNum (s : ByteArray) (rb op : Nat) (r : Res Nat) (w : World) (x : Ending) (w' : World) : Prop :=
  Only rb w w' ∧ match r with
  | .ok n p => x = .returned (.int .i64 (n : Nat)) ∧ RD s rb p op w'
  | .bad e p => x = .panicked (faultV e p)
  | .out => True
def posOf (rb : Nat) (w : World) : Nat := match w.cell? ⟨rb, 1, none⟩ with | some (.int _ q) => q.toNat | _ => 0
theorem posOf_eq {s : ByteArray} {rb i op : Nat} {w : World} (h : RD s rb i op w) : posOf rb w = i := by
  have h1 : w.cell? ⟨rb, 1, none⟩ = some (.int .i64 (i : Nat)) := h.cell 1
  unfold posOf
  rw [h1]
  simp
theorem digs_stop (l : List UInt8) (f n i : Nat) (h : Rx.digitB (Rx.pk l i) = false) : Rx.digs l f n i = (n, i) := by
  cases f with
  | zero => rfl
  | succ f => simp [Rx.digs, h]
theorem digs_step (l : List UInt8) (f n i : Nat) (h : Rx.digitB (Rx.pk l i) = true) : Rx.digs l (f + 1) n i = Rx.digs l f (Nat.min (10 * n + (Rx.pk l i - 48).toNat) 1000) (i + 1) := by
  simp [Rx.digs, h]
theorem digitB_bd {c : Int} (h : Rx.digitB c = true) : 48 ≤ c ∧ c ≤ 57 := by simpa [Rx.digitB] using h
theorem digitB_no {c : Int} (h : Rx.digitB c = false) : c < 48 ∨ 57 < c := by
  simp [Rx.digitB] at h; omega
theorem min_cast (n : Nat) (c : Int) (h : 48 ≤ c) : ((Nat.min (10 * n + (c - 48).toNat) 1000 : Nat) : Int) = if 1000 < 10 * (n : Int) + c - 48 then 1000 else 10 * (n : Int) + c - 48 := by
  show ((min (10 * n + (c - 48).toNat) 1000 : Nat) : Int) = _
  split <;> omega
theorem number_any (s : ByteArray) (rb i op : Nat) (w : World) (h : RD s rb i op w) (hs : s.size ≤ 1000) (hi : i ≤ s.size) :
    Calls Tryd.prog 64 #[.pointer (some ⟨rb, 0, none⟩)] w (RetNum s rb op (Rx.number s.data.toList i) w) := by
  (have h0 : w.cell? ⟨rb, 0, none⟩ = some (.string s) := h.cell 0; have h1 : w.cell? ⟨rb, 1, none⟩ = some (.int .i64 ((i : Nat) : Int)) := h.cell 1; have h2 : w.cell? ⟨rb, 2, none⟩ = some (.int .i64 ((op : Nat) : Int)) := h.cell 2; have hf : ∀ i, w.frozen? ⟨rb, i, none⟩ = false := h.frozen)
  have HD := hid_mk h
  clear h
  go_enter Tryd.func64, Tryd.ntmps64
  go_wp2
  go_loopw [4] (fun v wr => ∃ n k : Nat, v = .int .i64 (n : Nat) ∧ n ≤ 1000 ∧ i ≤ k ∧ k ≤ s.size ∧ RD s rb k op wr ∧ Only rb w wr ∧ Rx.digs s.data.toList (s.size - i) 0 i = Rx.digs s.data.toList (s.size - k) n k) (fun _ wr => s.size - posOf rb wr)
  case atStart => exact ⟨0, i, rfl, by omega, by omega, hi, HD.out, (by repeat (first | exact Only.refl _ _ | assumption | refine Only.set ?_ (by first | exact Or.inl rfl | (right; dsimp only; omega)) _ | refine Only.alloc ?_ _ | refine Only.drewN ?_ _ | refine Only.drew ?_)), rfl⟩
  case round =>
    obtain ⟨n, k, rfl, hn, hik, hk, hd, ho, he⟩ := hrel
    have HP := hide (fun n => peek_any s rb k op (wr.drewN n) hd hs (by omega))
    (have g0 : wr.cell? ⟨rb, 0, none⟩ = some (.string s) := hd.cell 0; have g1 : wr.cell? ⟨rb, 1, none⟩ = some (.int .i64 ((k : Nat) : Int)) := hd.cell 1; have g2 : wr.cell? ⟨rb, 2, none⟩ = some (.int .i64 ((op : Nat) : Int)) := hd.cell 2; have gf : ∀ i, wr.frozen? ⟨rb, i, none⟩ = false := hd.frozen)
    have HD2 := hid_mk hd
    have HO := hid_mk ho
    have HE := hid_mk he
    have hbd := pk_bd s.data.toList k
    clear hd ho he
    cases hc : Rx.digitB (Rx.pk s.data.toList k) with
    | true =>
      have hlt : k < s.size := by
        rcases Nat.lt_or_ge k s.size with h1 | h1
        · exact h1
        · rw [pk_ge h1] at hc; simp [Rx.digitB] at hc
      obtain ⟨c1, c2⟩ := digitB_bd hc
      have hst := digs_step s.data.toList (s.size - (k + 1)) n k hc
      rw [show s.size - (k + 1) + 1 = s.size - k by omega] at hst
      have hmn := min_cast n (Rx.pk s.data.toList k) c1
      have hm2 : Nat.min (10 * n + (Rx.pk s.data.toList k - 48).toNat) 1000 ≤ 1000 := Nat.min_le_right _ _
      generalize Nat.min (10 * n + (Rx.pk s.data.toList k - 48).toNat) 1000 = n2 at *
      have HS := hid_mk (And.intro hst hmn)
      clear hc hst hmn
      generalize Rx.pk s.data.toList k = c at *
      go_wp2_with fail
      refine (unhide HP 0).mono ?_
      rintro e w1 ⟨rfl, m1, rfl⟩
      go_wp2_with fail
      refine (unhide HP _).mono ?_
      rintro e w1 ⟨rfl, m2, rfl⟩
      go_wp2_with fail
      refine (unhide HP _).mono ?_
      rintro e w1 ⟨rfl, m3, rfl⟩
      go_wp2
      go_roundw
      case rel => exact ⟨n2, k + 1, by rw [HS.out.2], hm2, by omega, by omega, (HD2.out.drewN _).put 1 _, HO.out.step (by exact (by repeat (first | exact Only.refl _ _ | assumption | refine Only.set ?_ (by first | exact Or.inl rfl | (right; dsimp only; omega)) _ | refine Only.alloc ?_ _ | refine Only.drewN ?_ _ | refine Only.drew ?_))), HE.out.trans HS.out.1⟩
      case measure =>
        have e2 := posOf_eq (s := s) (op := op) (i := k + 1) (rb := rb) (w := (wr.setCell ⟨rb, 1, none⟩ (.int .i64 ((k : Int) + 1))).drewN (m1 + m2 + m3)) ((HD2.out.drewN _).put 1 _)
        rw [e2, posOf_eq HD2.out]
        omega
    | false =>
      have hno := digitB_no hc
      have hst := digs_stop s.data.toList (s.size - k) n k hc
      have HS := hid_mk (HE.out.trans hst)
      clear hc hst
      have HR := hid_mk (other_eq (α := Nat) s k)
      have HW := hide (fun n => wrong_any s rb k op (wr.drewN n) HD2.out hs (by omega))
      have HN : Hid (Rx.number s.data.toList i = if k = i then Rx.other s.data.toList i else if Rx.pk s.data.toList i = 48 ∧ k > i + 1 then .bad 2 i else if n > 16 then .bad 3 i else .ok n k) := by
        unfold Rx.number
        simp only [show s.data.toList.length = s.size by simp]
        rw [HS.out]
        exact hid_mk rfl
      have hpi : i < s.size → Rx.pk s.data.toList i = (((s[i]!).toNat : Nat) : Int) := fun h => by
        rw [pk_lt h]; simp [h]
      have HPI := hid_mk hpi
      clear hpi
      have hd : (decide (48 ≤ Rx.pk s.data.toList k) = true ∧ decide (Rx.pk s.data.toList k ≤ 57) = false ∧ 57 < Rx.pk s.data.toList k) ∨ (decide (48 ≤ Rx.pk s.data.toList k) = false ∧ Rx.pk s.data.toList k < 48) := by simp; omega
      clear hno
      by_cases hki : k = i
      · subst hki
        have HNo : Hid (Rx.number s.data.toList k = Rx.other s.data.toList k) := hid_mk (by rw [HN.out, if_pos rfl])
        clear HN HPI
        generalize Rx.pk s.data.toList k = c at *
        rcases hd with ⟨d1, d2, d3⟩ | ⟨d1, d3⟩
        all_goals
          go_wp2_with fail
          refine (unhide HP 0).mono ?_
          rintro e w1 ⟨rfl, m1, rfl⟩
          go_wp2_with (go_at_call 38; refine (unhide HP _).mono ?_; rintro e w1 ⟨rfl, m2, rfl⟩)
          refine (unhide HW _).mono ?_
          rintro e w1 ⟨rfl, ho⟩
          refine ⟨rfl, (HO.out.drewN _).step ho, ?_⟩
          rw [HNo.out, HR.out]
          show _ = _
          split <;> rfl
      · have hil : i < s.size := by omega
        have hk1 : ((k : Int) == (i : Int)) = false := by simp; omega
        have HN2 : Hid (Rx.number s.data.toList i = if Rx.pk s.data.toList i = 48 ∧ k > i + 1 then .bad 2 i else if n > 16 then .bad 3 i else .ok n k) := hid_mk (by rw [HN.out, if_neg hki])
        have hp := pk_lt hil
        generalize Rx.pk s.data.toList k = c at *
        have hii : (i : Int) < (s.size : Int) := by omega
        have hpx : Rx.pk s.data.toList i = (s[i].toNat : Int) := hp
        generalize hx : s[i] = x at *
        have HPX := hid_mk hpx
        clear hp hpx HPI
        rcases hd with ⟨d1, d2, d3⟩ | ⟨d1, d3⟩
        all_goals
          by_cases h48 : x.toNat = 48
          · have e1 : ((x.toNat : Int) == 48) = true := by rw [h48]; rfl
            have H48 := hid_mk h48
            clear h48
            by_cases hk2 : i + 1 < k
            · have e2 : decide ((i : Int) + 1 < (k : Int)) = true := by simp; omega
              have HF : Hid (Rx.number s.data.toList i = .bad 2 i) := hid_mk (by rw [HN2.out]; rw [if_pos ⟨by rw [HPX.out, H48.out]; rfl, hk2⟩])
              clear HN2
              go_wp2_with fail
              refine (unhide HP 0).mono ?_
              rintro e w1 ⟨rfl, m1, rfl⟩
              go_wp2_with (go_at_call 38; refine (unhide HP _).mono ?_; rintro e w1 ⟨rfl, m2, rfl⟩)
              refine (fail_any _ _ _).mono ?_
              rintro e w1 ⟨rfl, rfl⟩
              refine ⟨rfl, by have ho := HO.out; exact (by repeat (first | exact Only.refl _ _ | assumption | refine Only.set ?_ (by first | exact Or.inl rfl | (right; dsimp only; omega)) _ | refine Only.alloc ?_ _ | refine Only.drewN ?_ _ | refine Only.drew ?_)), ?_⟩
              rw [HF.out]
            · have e2 : decide ((i : Int) + 1 < (k : Int)) = false := by simp; omega
              by_cases hn16 : 16 < n
              · have e3 : (16 : Int) < (n : Int) := by omega
                have HF : Hid (Rx.number s.data.toList i = .bad 3 i) := hid_mk (by rw [HN2.out]; rw [if_neg (fun h => hk2 h.2), if_pos hn16])
                clear HN2
                go_wp2_with fail
                refine (unhide HP 0).mono ?_
                rintro e w1 ⟨rfl, m1, rfl⟩
                go_wp2_with (go_at_call 38; refine (unhide HP _).mono ?_; rintro e w1 ⟨rfl, m2, rfl⟩)
                refine (fail_any _ _ _).mono ?_
                rintro e w1 ⟨rfl, rfl⟩
                refine ⟨rfl, by have ho := HO.out; exact (by repeat (first | exact Only.refl _ _ | assumption | refine Only.set ?_ (by first | exact Or.inl rfl | (right; dsimp only; omega)) _ | refine Only.alloc ?_ _ | refine Only.drewN ?_ _ | refine Only.drew ?_)), ?_⟩
                rw [HF.out]
              · have e3 : ¬ (16 : Int) < (n : Int) := by omega
                have HF : Hid (Rx.number s.data.toList i = .ok n k) := hid_mk (by rw [HN2.out]; rw [if_neg (fun h => hk2 h.2), if_neg hn16])
                clear HN2
                go_wp2_with fail
                refine (unhide HP 0).mono ?_
                rintro e w1 ⟨rfl, m1, rfl⟩
                go_wp2_with (go_at_call 38; refine (unhide HP _).mono ?_; rintro e w1 ⟨rfl, m2, rfl⟩)
                go_ret
                refine ⟨by have ho := HO.out; exact (by repeat (first | exact Only.refl _ _ | assumption | refine Only.set ?_ (by first | exact Or.inl rfl | (right; dsimp only; omega)) _ | refine Only.alloc ?_ _ | refine Only.drewN ?_ _ | refine Only.drew ?_)), ?_⟩
                rw [HF.out]
                exact ⟨rfl, HD2.out⟩
          · have e1 : ((x.toNat : Int) == 48) = false := by simp; omega
            have H48 := hid_mk h48
            clear h48
            by_cases hn16 : 16 < n
            · have e3 : (16 : Int) < (n : Int) := by omega
              have HF : Hid (Rx.number s.data.toList i = .bad 3 i) := hid_mk (by rw [HN2.out]; rw [if_neg (fun h => H48.out (by have := h.1; rw [HPX.out] at this; omega)), if_pos hn16])
              clear HN2
              go_wp2_with fail
              refine (unhide HP 0).mono ?_
              rintro e w1 ⟨rfl, m1, rfl⟩
              go_wp2_with (go_at_call 38; refine (unhide HP _).mono ?_; rintro e w1 ⟨rfl, m2, rfl⟩)
              refine (fail_any _ _ _).mono ?_
              rintro e w1 ⟨rfl, rfl⟩
              refine ⟨rfl, by have ho := HO.out; exact (by repeat (first | exact Only.refl _ _ | assumption | refine Only.set ?_ (by first | exact Or.inl rfl | (right; dsimp only; omega)) _ | refine Only.alloc ?_ _ | refine Only.drewN ?_ _ | refine Only.drew ?_)), ?_⟩
              rw [HF.out]
            · have e3 : ¬ (16 : Int) < (n : Int) := by omega
              have HF : Hid (Rx.number s.data.toList i = .ok n k) := hid_mk (by rw [HN2.out]; rw [if_neg (fun h => H48.out (by have := h.1; rw [HPX.out] at this; omega)), if_neg hn16])
              clear HN2
              go_wp2_with fail
              refine (unhide HP 0).mono ?_
              rintro e w1 ⟨rfl, m1, rfl⟩
              go_wp2_with (go_at_call 38; refine (unhide HP _).mono ?_; rintro e w1 ⟨rfl, m2, rfl⟩)
              go_ret
              refine ⟨by have ho := HO.out; exact (by repeat (first | exact Only.refl _ _ | assumption | refine Only.set ?_ (by first | exact Or.inl rfl | (right; dsimp only; omega)) _ | refine Only.alloc ?_ _ | refine Only.drewN ?_ _ | refine Only.drew ?_)), ?_⟩
              rw [HF.out]
              exact ⟨rfl, HD2.out⟩
def RetBrc (s : ByteArray) (rb op : Nat) (r : Res (Int × Int)) (w : World) (x : Ending) (w' : World) : Prop :=
  Only rb w w' ∧ match r with
  | .ok (a, b) p => x = .returned (.tuple #[.int .i64 a, .int .i64 b]) ∧ RD s rb p op w'
  | .bad e p => x = .panicked (faultV e p)
  | .out => True
theorem RD.next {s : ByteArray} {rb i op : Nat} {w : World} (h : RD s rb i op w) : RD s rb (i + 1) op (w.setCell ⟨rb, 1, none⟩ (.int .i64 ((i : Int) + 1))) := Blk.put h 1 (.int .i64 ((i : Int) + 1))
theorem RD.drewN {s : ByteArray} {rb i op : Nat} {w : World} (h : RD s rb i op w) (n : Nat) : RD s rb i op (w.drewN n) := h
theorem Only.via {rb : Nat} {a w w' x : World} (h : Only rb a w) (k : Only rb w' x) (m : Only rb w w') : Only rb a x := (h.step m).step k
theorem len_data (s : ByteArray) : s.data.toList.length = s.size := by simp
theorem braces_any (s : ByteArray) (rb i op : Nat) (w : World) (h : RD s rb i op w) (hs : s.size ≤ 1000) (hi : i ≤ s.size) :
    Calls Tryd.prog 56 #[.pointer (some ⟨rb, 0, none⟩)] w (RetBrc s rb op (Rx.brc s.data.toList i) w) := by
  have HB : Hid (Rx.brc s.data.toList i = _) := hid_mk (by unfold Rx.brc; exact rfl)
  have HN := hide (fun n => number_any s rb i op (w.drewN n) h hs hi)
  have hfi := fine_number s.data.toList i (by simpa using hi)
  (have h0 : w.cell? ⟨rb, 0, none⟩ = some (.string s) := h.cell 0; have h1 : w.cell? ⟨rb, 1, none⟩ = some (.int .i64 ((i : Nat) : Int)) := h.cell 1; have h2 : w.cell? ⟨rb, 2, none⟩ = some (.int .i64 ((op : Nat) : Int)) := h.cell 2; have hf : ∀ i, w.frozen? ⟨rb, i, none⟩ = false := h.frozen)
  have HD := hid_mk h
  clear h
  cases hr : Rx.number s.data.toList i with
  | out => rw [hr] at hfi; exact hfi.elim
  | bad e q =>
    rw [hr] at HB HN
    have HB2 : Hid (Rx.brc s.data.toList i = .bad e q) := HB
    clear hr hfi HB
    go_enter Tryd.func56, Tryd.ntmps56
    go_wp2_with fail
    refine (unhide HN 0).mono ?_
    rintro x w1 ⟨ho, rfl⟩
    exact ⟨rfl, ho, by rw [HB2.out]⟩
  | ok n p =>
    rw [hr] at HB HN hfi
    have hn := number_le hr
    have hp1 : i < p := hfi.1
    have hp2 : p ≤ s.size := by simpa using hfi.2
    clear hfi
    dsimp only at HB
    have hb1 := pk_bd s.data.toList p
    cases hc : decide (Rx.pk s.data.toList p = 44) with
    | true =>
      have hc1 : Rx.pk s.data.toList p = 44 := of_decide_eq_true hc
      have hlt : p < s.size := by simpa using pk_in (l := s.data.toList) (i := p) (by rw [hc1]; decide)
      rw [if_pos hc1] at HB
      cases hd : decide (Rx.pk s.data.toList (p + 1) = 125) with
      | true =>
        have hd1 : Rx.pk s.data.toList (p + 1) = 125 := of_decide_eq_true hd
        rw [if_pos hd1] at HB
        clear hr hc hd
        have HC := hid_mk (And.intro hc1 hd1)
        clear hc1 hd1
        go_enter Tryd.func56, Tryd.ntmps56
        go_wp2_with fail
        refine (unhide HN 0).mono ?_
        rintro x w1 ⟨ho, rfl, hd⟩
        have HP := hide (fun n => peek_any s rb p op (w1.drewN n) hd hs (by omega))
        rw [HC.out.1] at HP
        have HP2 := hide (fun n => peek_any s rb (p + 1) op ((w1.drewN n).setCell ⟨rb, 1, none⟩ (.int .i64 ((p : Int) + 1))) (RD.next (w := w1.drewN n) hd) hs (by omega))
        rw [HC.out.2] at HP2
        (have g0 : w1.cell? ⟨rb, 0, none⟩ = some (.string s) := hd.cell 0; have g1 : w1.cell? ⟨rb, 1, none⟩ = some (.int .i64 ((p : Nat) : Int)) := hd.cell 1; have g2 : w1.cell? ⟨rb, 2, none⟩ = some (.int .i64 ((op : Nat) : Int)) := hd.cell 2; have gf : ∀ i, w1.frozen? ⟨rb, i, none⟩ = false := hd.frozen)
        have HD2 := hid_mk hd
        have HO := hid_mk ho
        clear hd ho
        go_wp2_with fail
        refine (unhide HP 0).mono ?_
        rintro e w2 ⟨rfl, m1, rfl⟩
        go_wp2_with fail
        refine (unhide HP2 _).mono ?_
        rintro e w2 ⟨rfl, m2, rfl⟩
        go_wp2
        refine bodyPost_ret (v := .tuple #[.int .i64 (n : Nat), .int .i64 (-1)]) (by simp [results, Tryd.results56, go_sem]) rfl ⟨HO.out.step (by repeat (first | exact Only.refl _ _ | assumption | refine Only.set ?_ (by first | exact Or.inl rfl | (right; dsimp only; omega)) _ | refine Only.alloc ?_ _ | refine Only.drewN ?_ _ | refine Only.drew ?_)), ?_⟩
        rw [HB.out]
        exact ⟨rfl, RD.next (w := w1.drewN _) HD2.out⟩
      | false =>
        have hd1 : ¬ Rx.pk s.data.toList (p + 1) = 125 := of_decide_eq_false hd
        rw [if_neg hd1] at HB
        have hf2 := fine_number s.data.toList (p + 1) (by simp; omega)
        have hbb := pk_bd s.data.toList (p + 1)
        have HD1 := hid_mk hd1
        clear hr hc hd hd1
        have HC := hid_mk hc1
        clear hc1
        go_enter Tryd.func56, Tryd.ntmps56
        go_wp2_with fail
        refine (unhide HN 0).mono ?_
        rintro x w1 ⟨ho, rfl, hd⟩
        have HP := hide (fun n => peek_any s rb p op (w1.drewN n) hd hs (by omega))
        rw [HC.out] at HP
        have HP2 := hide (fun n => peek_any s rb (p + 1) op ((w1.drewN n).setCell ⟨rb, 1, none⟩ (.int .i64 ((p : Int) + 1))) (RD.next (w := w1.drewN n) hd) hs (by omega))
        have HN2 := hide (fun n => number_any s rb (p + 1) op ((w1.drewN n).setCell ⟨rb, 1, none⟩ (.int .i64 ((p : Int) + 1))) (RD.next (w := w1.drewN n) hd) hs (by omega))
        have hd2 := HD1.out
        generalize Rx.pk s.data.toList (p + 1) = c2 at *
        (have g0 : w1.cell? ⟨rb, 0, none⟩ = some (.string s) := hd.cell 0; have g1 : w1.cell? ⟨rb, 1, none⟩ = some (.int .i64 ((p : Nat) : Int)) := hd.cell 1; have g2 : w1.cell? ⟨rb, 2, none⟩ = some (.int .i64 ((op : Nat) : Int)) := hd.cell 2; have gf : ∀ i, w1.frozen? ⟨rb, i, none⟩ = false := hd.frozen)
        have HD2 := hid_mk hd
        have HO := hid_mk ho
        clear hd ho
        cases hq : Rx.number s.data.toList (p + 1) with
        | out => rw [hq] at hf2; exact hf2.elim
        | bad e q =>
          rw [hq] at HB HN2
          dsimp only at HB
          clear hq hf2
          go_wp2_with fail
          refine (unhide HP 0).mono ?_
          rintro e w2 ⟨rfl, m1, rfl⟩
          go_wp2_with fail
          refine (unhide HP2 _).mono ?_
          rintro e w2 ⟨rfl, m2, rfl⟩
          go_wp2_with fail
          refine (unhide HN2 _).mono ?_
          rintro e w2 ⟨ho, rfl⟩
          exact ⟨rfl, HO.out.via ho (by repeat (first | exact Only.refl _ _ | assumption | refine Only.set ?_ (by first | exact Or.inl rfl | (right; dsimp only; omega)) _ | refine Only.alloc ?_ _ | refine Only.drewN ?_ _ | refine Only.drew ?_)), by rw [HB.out] <;> exact rfl⟩
        | ok m q =>
          rw [hq] at HB HN2
          dsimp only at HB
          clear hq hf2
          by_cases hm : m = 0 ∨ m < n
          · rw [if_pos hm] at HB
            rcases hm with hm | hm
            · have e1 : ((m : Int) == 0) = true := by simp; omega
              clear hm
              go_wp2_with fail
              refine (unhide HP 0).mono ?_
              rintro e w2 ⟨rfl, m1, rfl⟩
              go_wp2_with fail
              refine (unhide HP2 _).mono ?_
              rintro e w2 ⟨rfl, m2, rfl⟩
              go_wp2_with fail
              refine (unhide HN2 _).mono ?_
              rintro e w2 ⟨ho, rfl, hd2⟩
              have HO2 := hid_mk ho
              clear ho
              go_wp2_with fail
              refine (fail_any _ _ _).mono ?_
              rintro e w1 ⟨rfl, rfl⟩
              exact ⟨rfl, HO.out.via HO2.out (by repeat (first | exact Only.refl _ _ | assumption | refine Only.set ?_ (by first | exact Or.inl rfl | (right; dsimp only; omega)) _ | refine Only.alloc ?_ _ | refine Only.drewN ?_ _ | refine Only.drew ?_)), by rw [HB.out] <;> exact rfl⟩
            · by_cases hz : m = 0
              · have e1 : ((m : Int) == 0) = true := by simp; omega
                clear hm
                go_wp2_with fail
                refine (unhide HP 0).mono ?_
                rintro e w2 ⟨rfl, m1, rfl⟩
                go_wp2_with fail
                refine (unhide HP2 _).mono ?_
                rintro e w2 ⟨rfl, m2, rfl⟩
                go_wp2_with fail
                refine (unhide HN2 _).mono ?_
                rintro e w2 ⟨ho, rfl, hd2⟩
                have HO2 := hid_mk ho
                clear ho
                go_wp2_with fail
                refine (fail_any _ _ _).mono ?_
                rintro e w1 ⟨rfl, rfl⟩
                exact ⟨rfl, HO.out.via HO2.out (by repeat (first | exact Only.refl _ _ | assumption | refine Only.set ?_ (by first | exact Or.inl rfl | (right; dsimp only; omega)) _ | refine Only.alloc ?_ _ | refine Only.drewN ?_ _ | refine Only.drew ?_)), by rw [HB.out] <;> exact rfl⟩
              · have e1 : ((m : Int) == 0) = false := by simp; omega
                have e2 : decide ((m : Int) < (n : Int)) = true := by simp; omega
                clear hz
                go_wp2_with fail
                refine (unhide HP 0).mono ?_
                rintro e w2 ⟨rfl, m1, rfl⟩
                go_wp2_with fail
                refine (unhide HP2 _).mono ?_
                rintro e w2 ⟨rfl, m2, rfl⟩
                go_wp2_with fail
                refine (unhide HN2 _).mono ?_
                rintro e w2 ⟨ho, rfl, hd2⟩
                have HO2 := hid_mk ho
                clear ho
                go_wp2_with fail
                refine (fail_any _ _ _).mono ?_
                rintro e w1 ⟨rfl, rfl⟩
                exact ⟨rfl, HO.out.via HO2.out (by repeat (first | exact Only.refl _ _ | assumption | refine Only.set ?_ (by first | exact Or.inl rfl | (right; dsimp only; omega)) _ | refine Only.alloc ?_ _ | refine Only.drewN ?_ _ | refine Only.drew ?_)), by rw [HB.out] <;> exact rfl⟩
          · rw [if_neg hm] at HB
            have e1 : ((m : Int) == 0) = false := by simp; omega
            have e2 : decide ((m : Int) < (n : Int)) = false := by simp; omega
            have e3 : ¬ m < n := fun h => hm (Or.inr h)
            clear hm
            go_wp2_with fail
            refine (unhide HP 0).mono ?_
            rintro e w2 ⟨rfl, m1, rfl⟩
            go_wp2_with fail
            refine (unhide HP2 _).mono ?_
            rintro e w2 ⟨rfl, m2, rfl⟩
            go_wp2_with fail
            refine (unhide HN2 _).mono ?_
            rintro e w2 ⟨ho, rfl, hd2⟩
            have HO2 := hid_mk ho
            clear ho
            go_wp2
            refine bodyPost_ret (v := .tuple #[.int .i64 (n : Nat), .int .i64 (m : Nat)]) (by simp [results, Tryd.results56, go_sem]) rfl ⟨HO.out.via HO2.out (by repeat (first | exact Only.refl _ _ | assumption | refine Only.set ?_ (by first | exact Or.inl rfl | (right; dsimp only; omega)) _ | refine Only.alloc ?_ _ | refine Only.drewN ?_ _ | refine Only.drew ?_)), ?_⟩
            rw [HB.out]
            exact ⟨rfl, hd2⟩
    | false =>
      have hc1 : ¬ Rx.pk s.data.toList p = 44 := of_decide_eq_false hc
      rw [if_neg hc1] at HB
      clear hr hc
      have HC := hid_mk hc1
      clear hc1
      by_cases hz : n = 0
      · rw [if_pos hz] at HB
        have e1 : ((n : Int) == 0) = true := by simp; omega
        clear hz
        go_enter Tryd.func56, Tryd.ntmps56
        go_wp2_with fail
        refine (unhide HN 0).mono ?_
        rintro x w1 ⟨ho, rfl, hd⟩
        have HP := hide (fun n => peek_any s rb p op (w1.drewN n) hd hs (by omega))
        have hc2 := HC.out
        generalize Rx.pk s.data.toList p = c2 at *
        (have g0 : w1.cell? ⟨rb, 0, none⟩ = some (.string s) := hd.cell 0; have g1 : w1.cell? ⟨rb, 1, none⟩ = some (.int .i64 ((p : Nat) : Int)) := hd.cell 1; have g2 : w1.cell? ⟨rb, 2, none⟩ = some (.int .i64 ((op : Nat) : Int)) := hd.cell 2; have gf : ∀ i, w1.frozen? ⟨rb, i, none⟩ = false := hd.frozen)
        have HD2 := hid_mk hd
        have HO := hid_mk ho
        clear hd ho
        go_wp2_with fail
        refine (unhide HP 0).mono ?_
        rintro e w2 ⟨rfl, m1, rfl⟩
        go_wp2_with fail
        refine (fail_any _ _ _).mono ?_
        rintro e w1 ⟨rfl, rfl⟩
        exact ⟨rfl, HO.out.step (by exact (by repeat (first | exact Only.refl _ _ | assumption | refine Only.set ?_ (by first | exact Or.inl rfl | (right; dsimp only; omega)) _ | refine Only.alloc ?_ _ | refine Only.drewN ?_ _ | refine Only.drew ?_))), by rw [HB.out] <;> exact rfl⟩
      · rw [if_neg hz] at HB
        have e1 : ((n : Int) == 0) = false := by simp; omega
        have e2 : decide ((n : Int) < (n : Int)) = false := by simp
        clear hz
        go_enter Tryd.func56, Tryd.ntmps56
        go_wp2_with fail
        refine (unhide HN 0).mono ?_
        rintro x w1 ⟨ho, rfl, hd⟩
        have HP := hide (fun n => peek_any s rb p op (w1.drewN n) hd hs (by omega))
        have hc2 := HC.out
        generalize Rx.pk s.data.toList p = c2 at *
        (have g0 : w1.cell? ⟨rb, 0, none⟩ = some (.string s) := hd.cell 0; have g1 : w1.cell? ⟨rb, 1, none⟩ = some (.int .i64 ((p : Nat) : Int)) := hd.cell 1; have g2 : w1.cell? ⟨rb, 2, none⟩ = some (.int .i64 ((op : Nat) : Int)) := hd.cell 2; have gf : ∀ i, w1.frozen? ⟨rb, i, none⟩ = false := hd.frozen)
        have HD2 := hid_mk hd
        have HO := hid_mk ho
        clear hd ho
        go_wp2_with fail
        refine (unhide HP 0).mono ?_
        rintro e w2 ⟨rfl, m1, rfl⟩
        go_wp2
        refine bodyPost_ret (v := .tuple #[.int .i64 (n : Nat), .int .i64 (n : Nat)]) (by simp [results, Tryd.results56, go_sem]) rfl ⟨HO.out.step (by exact (by repeat (first | exact Only.refl _ _ | assumption | refine Only.set ?_ (by first | exact Or.inl rfl | (right; dsimp only; omega)) _ | refine Only.alloc ?_ _ | refine Only.drewN ?_ _ | refine Only.drew ?_))), ?_⟩
        rw [HB.out]
        exact ⟨rfl, HD2.out.drewN _⟩
def RetEsc (s : ByteArray) (rb op : Nat) (r : Res (CSet × Bool)) (w : World) (x : Ending) (w' : World) : Prop :=
  Only rb w w' ∧ match r with
  | .ok (S, many) p => x = .returned (.tuple #[.agg #[.int .u64 ((S).a.toNat : Int), .int .u64 ((S).b.toNat : Int), .int .u64 ((S).c.toNat : Int), .int .u64 ((S).d.toNat : Int)], .bool many]) ∧ RD s rb p op w'
  | .bad e p => x = .panicked (faultV e p)
  | .out => True
theorem wrong_end (s : ByteArray) (rb i op : Nat) (w : World) (h : RD s rb i op w) (hs : s.size ≤ 1000) (hi : i ≤ 2000) (hc : Rx.pk s.data.toList i = -1) : Calls Tryd.prog 28 #[.pointer (some ⟨rb, 0, none⟩)] w
    (RetBad rb 1 (s.size : Nat) w) := by
  have := wrong_any s rb i op w h hs hi
  rwa [hc] at this
theorem wrong_form (s : ByteArray) (rb i op : Nat) (w : World) (h : RD s rb i op w) (hs : s.size ≤ 1000) (hi : i ≤ 2000) (hc : 0 ≤ Rx.pk s.data.toList i) : Calls Tryd.prog 28 #[.pointer (some ⟨rb, 0, none⟩)] w
    (RetBad rb 2 i w) := by
  have := wrong_any s rb i op w h hs hi
  rwa [if_neg (by omega), if_neg (by omega)] at this
theorem Blk.new2 (w : World) (p : Addr) (u : Value) (cs : Array Value) (t : TypeId) : Blk ((w.setCell p u).alloc (.cells cs t)) w.heap.size cs t := by
  have := Blk.new (w.setCell p u) cs t
  rwa [show (w.setCell p u).heap.size = w.heap.size by simp [World.setCell]] at this
/-- behind the first steps of escape -/
def wesc (w : World) (rb i : Nat) : World := (w.setCell ⟨rb, 1, none⟩ (.int .i64 ((i : Int) + 1))).alloc (.cells #[.int .u64 0, .int .u64 0, .int .u64 0, .int .u64 0] 25)
/-- behind the byte -/
def wesc2 (w : World) (rb i m : Nat) : World := ((wesc w rb i).alloc (.cells #[.int .u64 0, .int .u64 0, .int .u64 0, .int .u64 0] 25)).drewN m
theorem wesc_size (w : World) (rb i : Nat) : (wesc w rb i).heap.size = w.heap.size + 1 := by simp [wesc, World.setCell, World.alloc]
theorem wesc_rd {s : ByteArray} {rb i op : Nat} {w : World} (h : RD s rb (i + 1) op (wesc w rb i)) (m : Nat) : RD s rb (i + 1) op (wesc2 w rb i m) := Blk.drewN (Blk.alloc h _) m
theorem wesc_b1 (w : World) (rb i m : Nat) : Blk (wesc2 w rb i m) w.heap.size #[.int .u64 0, .int .u64 0, .int .u64 0, .int .u64 0] 25 := Blk.drewN (Blk.alloc (Blk.new2 _ _ _ _ _) _) m
theorem wesc_b2 (w : World) (rb i m : Nat) : Blk (wesc2 w rb i m) (wesc w rb i).heap.size #[.int .u64 0, .int .u64 0, .int .u64 0, .int .u64 0] 25 := Blk.drewN (Blk.new _ _ _) m
theorem wesc_only (w : World) (rb i m : Nat) : Only rb w (wesc2 w rb i m) := by unfold wesc2 wesc; exact (by repeat (first | exact Only.refl _ _ | assumption | refine Only.set ?_ (by first | exact Or.inl rfl | (right; dsimp only; omega)) _ | refine Only.alloc ?_ _ | refine Only.drewN ?_ _ | refine Only.drew ?_))
theorem escape_end (s : ByteArray) (rb i op : Nat) (w : World) (h : RD s rb i op w) (hs : s.size ≤ 1000) (hi : i ≤ s.size) (hc : Rx.pk s.data.toList (i + 1) = -1) :
    Calls Tryd.prog 63 #[.pointer (some ⟨rb, 0, none⟩)] w (RetEsc s rb op (Rx.esc s.data.toList i) w) := by
  have HE : Hid (Rx.esc s.data.toList i = .bad 1 s.size) := hid_mk (by unfold Rx.esc; rw [if_pos hc, len_data])
  have HP := hide (fun a (h : RD s rb (i + 1) op a) => peek_any s rb (i + 1) op a h hs (by omega))
  have HW := hide (fun a (h : RD s rb (i + 1) op a) => wrong_end s rb (i + 1) op a h hs (by omega) hc)
  rw [hc] at HP
  clear hc
  have hA : RD s rb i op (w.alloc (.cells #[.int .u64 0, .int .u64 0, .int .u64 0, .int .u64 0] 25)) := Blk.alloc h _
  have hl : rb < w.heap.size := h.lt
  (have h0 : (w.alloc (.cells #[.int .u64 0, .int .u64 0, .int .u64 0, .int .u64 0] 25)).cell? ⟨rb, 0, none⟩ = some (.string s) := hA.cell 0; have h1 : (w.alloc (.cells #[.int .u64 0, .int .u64 0, .int .u64 0, .int .u64 0] 25)).cell? ⟨rb, 1, none⟩ = some (.int .i64 ((i : Nat) : Int)) := hA.cell 1; have h2 : (w.alloc (.cells #[.int .u64 0, .int .u64 0, .int .u64 0, .int .u64 0] 25)).cell? ⟨rb, 2, none⟩ = some (.int .i64 ((op : Nat) : Int)) := hA.cell 2; have hf : ∀ i, (w.alloc (.cells #[.int .u64 0, .int .u64 0, .int .u64 0, .int .u64 0] 25)).frozen? ⟨rb, i, none⟩ = false := hA.frozen)
  have HD : Hid (RD s rb (i + 1) op (wesc w rb i)) := hid_mk (Blk.alloc h.next _)
  clear h hA
  go_enter Tryd.func63, Tryd.ntmps63
  go_wp2_with fail
  refine (unhide HP _ HD.out).mono ?_
  rintro e w1 ⟨rfl, m1, rfl⟩
  go_wp2_with fail
  refine (unhide HW _ (wesc_rd HD.out _)).mono ?_
  rintro e w1 ⟨rfl, ho⟩
  exact ⟨rfl, (Only.refl rb w).via ho (wesc_only _ _ _ _), by rw [HE.out] <;> exact rfl⟩
theorem escape_digits (s : ByteArray) (rb i op : Nat) (w : World) (h : RD s rb i op w) (hs : s.size ≤ 1000) (hi : i ≤ s.size) (hc : Rx.pk s.data.toList (i + 1) = 100) :
    Calls Tryd.prog 63 #[.pointer (some ⟨rb, 0, none⟩)] w (RetEsc s rb op (Rx.esc s.data.toList i) w) := by
  have HP := hide (fun a (h : RD s rb (i + 1) op a) => peek_any s rb (i + 1) op a h hs (by omega))
  have hA : RD s rb i op (w.alloc (.cells #[.int .u64 0, .int .u64 0, .int .u64 0, .int .u64 0] 25)) := Blk.alloc h _
  have hl : rb < w.heap.size := h.lt
  (have h0 : (w.alloc (.cells #[.int .u64 0, .int .u64 0, .int .u64 0, .int .u64 0] 25)).cell? ⟨rb, 0, none⟩ = some (.string s) := hA.cell 0; have h1 : (w.alloc (.cells #[.int .u64 0, .int .u64 0, .int .u64 0, .int .u64 0] 25)).cell? ⟨rb, 1, none⟩ = some (.int .i64 ((i : Nat) : Int)) := hA.cell 1; have h2 : (w.alloc (.cells #[.int .u64 0, .int .u64 0, .int .u64 0, .int .u64 0] 25)).cell? ⟨rb, 2, none⟩ = some (.int .i64 ((op : Nat) : Int)) := hA.cell 2; have hf : ∀ i, (w.alloc (.cells #[.int .u64 0, .int .u64 0, .int .u64 0, .int .u64 0] 25)).frozen? ⟨rb, i, none⟩ = false := hA.frozen)
  have HD : Hid (RD s rb (i + 1) op (wesc w rb i)) := hid_mk (Blk.alloc h.next _)
  clear h hA
  have HE : Hid (Rx.esc s.data.toList i = .ok (Rx.digits, true) (i + 1 + 1)) := hid_mk (by unfold Rx.esc; rw [hc]; rfl)
  rw [hc] at HP
  clear hc
  go_enter Tryd.func63, Tryd.ntmps63
  go_wp2_with fail
  refine (unhide HP _ HD.out).mono ?_
  rintro e w1 ⟨rfl, m1, rfl⟩
  go_wp2_with fail
  refine (digits_any _).mono ?_
  rintro e w1 ⟨rfl, hb⟩
  change Below (wesc2 w rb i m1).heap.size (wesc2 w rb i m1) w1 at hb
  have hd1 := Blk.call (wesc_rd HD.out m1) hb
  have hb1 := Blk.call (wesc_b1 w rb i m1) hb
  have hb2 := Blk.call (wesc_b2 w rb i m1) hb
  rw [wesc_size] at hb2
  (have g0 : w1.cell? ⟨rb, 0, none⟩ = some (.string s) := hd1.cell 0; have g1 : w1.cell? ⟨rb, 1, none⟩ = some (.int .i64 (((i+1) : Nat) : Int)) := hd1.cell 1; have g2 : w1.cell? ⟨rb, 2, none⟩ = some (.int .i64 ((op : Nat) : Int)) := hd1.cell 2; have gf : ∀ i, w1.frozen? ⟨rb, i, none⟩ = false := hd1.frozen)
  (have z0 : w1.cell? ⟨w.heap.size, 0, none⟩ = some (.int .u64 0) := hb1.cell 0; have z1 : w1.cell? ⟨w.heap.size, 1, none⟩ = some (.int .u64 0) := hb1.cell 1; have z2 : w1.cell? ⟨w.heap.size, 2, none⟩ = some (.int .u64 0) := hb1.cell 2; have z3 : w1.cell? ⟨w.heap.size, 3, none⟩ = some (.int .u64 0) := hb1.cell 3; have zf : ∀ i, w1.frozen? ⟨w.heap.size, i, none⟩ = false := hb1.frozen)
  (have y0 : w1.cell? ⟨(w.heap.size + 1), 0, none⟩ = some (.int .u64 0) := hb2.cell 0; have y1 : w1.cell? ⟨(w.heap.size + 1), 1, none⟩ = some (.int .u64 0) := hb2.cell 1; have y2 : w1.cell? ⟨(w.heap.size + 1), 2, none⟩ = some (.int .u64 0) := hb2.cell 2; have y3 : w1.cell? ⟨(w.heap.size + 1), 3, none⟩ = some (.int .u64 0) := hb2.cell 3; have yf : ∀ i, w1.frozen? ⟨(w.heap.size + 1), i, none⟩ = false := hb2.frozen)
  have hz1 : w.heap.size + 1 < w1.heap.size := hb2.lt
  have HO : Hid (Only rb w w1) := hid_mk ((wesc_only w rb i m1).call hb)
  have HD1 := hid_mk hd1
  clear hb hd1 hb1 hb2
  rw [wesc_size]
  go_wp2
  refine bodyPost_ret (v := .tuple #[.agg #[.int .u64 ((Rx.digits).a.toNat : Int), .int .u64 ((Rx.digits).b.toNat : Int), .int .u64 ((Rx.digits).c.toNat : Int), .int .u64 ((Rx.digits).d.toNat : Int)], .bool true]) (by simp [results, Tryd.results63, go_sem, z0, z1, z2, z3]) rfl ⟨(by have ho := HO.out; exact (by repeat (first | with_reducible exact Only.refl _ _ | with_reducible assumption | with_reducible refine Only.set ?_ (by first | exact Or.inl rfl | (right; dsimp only; omega)) _ | with_reducible refine Only.alloc ?_ _ | with_reducible refine Only.drewN ?_ _ | with_reducible refine Only.drew ?_))), ?_⟩
  rw [HE.out]
  refine ⟨rfl, ?_⟩
  repeat refine Blk.far ?_ (by dsimp only; omega) _
  refine RD.next ?_
  repeat refine Blk.far ?_ (by dsimp only; omega) _
  exact HD1.out
theorem escape_words (s : ByteArray) (rb i op : Nat) (w : World) (h : RD s rb i op w) (hs : s.size ≤ 1000) (hi : i ≤ s.size) (hc : Rx.pk s.data.toList (i + 1) = 119) :
    Calls Tryd.prog 63 #[.pointer (some ⟨rb, 0, none⟩)] w (RetEsc s rb op (Rx.esc s.data.toList i) w) := by
  have HP := hide (fun a (h : RD s rb (i + 1) op a) => peek_any s rb (i + 1) op a h hs (by omega))
  have hA : RD s rb i op (w.alloc (.cells #[.int .u64 0, .int .u64 0, .int .u64 0, .int .u64 0] 25)) := Blk.alloc h _
  have hl : rb < w.heap.size := h.lt
  (have h0 : (w.alloc (.cells #[.int .u64 0, .int .u64 0, .int .u64 0, .int .u64 0] 25)).cell? ⟨rb, 0, none⟩ = some (.string s) := hA.cell 0; have h1 : (w.alloc (.cells #[.int .u64 0, .int .u64 0, .int .u64 0, .int .u64 0] 25)).cell? ⟨rb, 1, none⟩ = some (.int .i64 ((i : Nat) : Int)) := hA.cell 1; have h2 : (w.alloc (.cells #[.int .u64 0, .int .u64 0, .int .u64 0, .int .u64 0] 25)).cell? ⟨rb, 2, none⟩ = some (.int .i64 ((op : Nat) : Int)) := hA.cell 2; have hf : ∀ i, (w.alloc (.cells #[.int .u64 0, .int .u64 0, .int .u64 0, .int .u64 0] 25)).frozen? ⟨rb, i, none⟩ = false := hA.frozen)
  have HD : Hid (RD s rb (i + 1) op (wesc w rb i)) := hid_mk (Blk.alloc h.next _)
  clear h hA
  have HE : Hid (Rx.esc s.data.toList i = .ok (Rx.words, true) (i + 1 + 1)) := hid_mk (by unfold Rx.esc; rw [hc]; rfl)
  rw [hc] at HP
  clear hc
  go_enter Tryd.func63, Tryd.ntmps63
  go_wp2_with fail
  refine (unhide HP _ HD.out).mono ?_
  rintro e w1 ⟨rfl, m1, rfl⟩
  go_wp2_with fail
  refine (words_any _).mono ?_
  rintro e w1 ⟨rfl, hb⟩
  change Below (wesc2 w rb i m1).heap.size (wesc2 w rb i m1) w1 at hb
  have hd1 := Blk.call (wesc_rd HD.out m1) hb
  have hb1 := Blk.call (wesc_b1 w rb i m1) hb
  have hb2 := Blk.call (wesc_b2 w rb i m1) hb
  rw [wesc_size] at hb2
  (have g0 : w1.cell? ⟨rb, 0, none⟩ = some (.string s) := hd1.cell 0; have g1 : w1.cell? ⟨rb, 1, none⟩ = some (.int .i64 (((i+1) : Nat) : Int)) := hd1.cell 1; have g2 : w1.cell? ⟨rb, 2, none⟩ = some (.int .i64 ((op : Nat) : Int)) := hd1.cell 2; have gf : ∀ i, w1.frozen? ⟨rb, i, none⟩ = false := hd1.frozen)
  (have z0 : w1.cell? ⟨w.heap.size, 0, none⟩ = some (.int .u64 0) := hb1.cell 0; have z1 : w1.cell? ⟨w.heap.size, 1, none⟩ = some (.int .u64 0) := hb1.cell 1; have z2 : w1.cell? ⟨w.heap.size, 2, none⟩ = some (.int .u64 0) := hb1.cell 2; have z3 : w1.cell? ⟨w.heap.size, 3, none⟩ = some (.int .u64 0) := hb1.cell 3; have zf : ∀ i, w1.frozen? ⟨w.heap.size, i, none⟩ = false := hb1.frozen)
  (have y0 : w1.cell? ⟨(w.heap.size + 1), 0, none⟩ = some (.int .u64 0) := hb2.cell 0; have y1 : w1.cell? ⟨(w.heap.size + 1), 1, none⟩ = some (.int .u64 0) := hb2.cell 1; have y2 : w1.cell? ⟨(w.heap.size + 1), 2, none⟩ = some (.int .u64 0) := hb2.cell 2; have y3 : w1.cell? ⟨(w.heap.size + 1), 3, none⟩ = some (.int .u64 0) := hb2.cell 3; have yf : ∀ i, w1.frozen? ⟨(w.heap.size + 1), i, none⟩ = false := hb2.frozen)
  have hz1 : w.heap.size + 1 < w1.heap.size := hb2.lt
  have HO : Hid (Only rb w w1) := hid_mk ((wesc_only w rb i m1).call hb)
  have HD1 := hid_mk hd1
  clear hb hd1 hb1 hb2
  rw [wesc_size]
  go_wp2
  refine bodyPost_ret (v := .tuple #[.agg #[.int .u64 ((Rx.words).a.toNat : Int), .int .u64 ((Rx.words).b.toNat : Int), .int .u64 ((Rx.words).c.toNat : Int), .int .u64 ((Rx.words).d.toNat : Int)], .bool true]) (by simp [results, Tryd.results63, go_sem, z0, z1, z2, z3]) rfl ⟨(by have ho := HO.out; exact (by repeat (first | with_reducible exact Only.refl _ _ | with_reducible assumption | with_reducible refine Only.set ?_ (by first | exact Or.inl rfl | (right; dsimp only; omega)) _ | with_reducible refine Only.alloc ?_ _ | with_reducible refine Only.drewN ?_ _ | with_reducible refine Only.drew ?_))), ?_⟩
  rw [HE.out]
  refine ⟨rfl, ?_⟩
  repeat refine Blk.far ?_ (by dsimp only; omega) _
  refine RD.next ?_
  repeat refine Blk.far ?_ (by dsimp only; omega) _
  exact HD1.out
theorem escape_form (s : ByteArray) (rb i op : Nat) (w : World) (h : RD s rb i op w) (hs : s.size ≤ 1000) (hi : i ≤ s.size) (h1 : Rx.pk s.data.toList (i + 1) ≠ -1) (h2 : Rx.pk s.data.toList (i + 1) ≠ 100) (h3 : Rx.pk s.data.toList (i + 1) ≠ 119) (h4 : Rx.pk s.data.toList (i + 1) ≠ 120) (h5 : Rx.plainB (Rx.pk s.data.toList (i + 1)) = false) :
    Calls Tryd.prog 63 #[.pointer (some ⟨rb, 0, none⟩)] w (RetEsc s rb op (Rx.esc s.data.toList i) w) := by
  have HP := hide (fun a (h : RD s rb (i + 1) op a) => peek_any s rb (i + 1) op a h hs (by omega))
  have HE : Hid (Rx.esc s.data.toList i = .bad 2 i) := hid_mk (by unfold Rx.esc; rw [if_neg h1, if_neg h2, if_neg h3, if_neg h4, h5]; rfl)
  have hA : RD s rb i op (w.alloc (.cells #[.int .u64 0, .int .u64 0, .int .u64 0, .int .u64 0] 25)) := Blk.alloc h _
  have hl : rb < w.heap.size := h.lt
  (have k0 : (w.alloc (.cells #[.int .u64 0, .int .u64 0, .int .u64 0, .int .u64 0] 25)).cell? ⟨rb, 0, none⟩ = some (.string s) := hA.cell 0; have k1 : (w.alloc (.cells #[.int .u64 0, .int .u64 0, .int .u64 0, .int .u64 0] 25)).cell? ⟨rb, 1, none⟩ = some (.int .i64 ((i : Nat) : Int)) := hA.cell 1; have k2 : (w.alloc (.cells #[.int .u64 0, .int .u64 0, .int .u64 0, .int .u64 0] 25)).cell? ⟨rb, 2, none⟩ = some (.int .i64 ((op : Nat) : Int)) := hA.cell 2; have kf : ∀ i, (w.alloc (.cells #[.int .u64 0, .int .u64 0, .int .u64 0, .int .u64 0] 25)).frozen? ⟨rb, i, none⟩ = false := hA.frozen)
  have HD : Hid (RD s rb (i + 1) op (wesc w rb i)) := hid_mk (Blk.alloc h.next _)
  clear h hA
  generalize Rx.pk s.data.toList (i + 1) = c at *
  have h6 : c ≠ 92 ∧ c ≠ 46 ∧ c ≠ 91 ∧ c ≠ 93 ∧ c ≠ 40 ∧ c ≠ 41 ∧ c ≠ 123 ∧ c ≠ 125 ∧ c ≠ 124 ∧ c ≠ 42 ∧ c ≠ 43 ∧ c ≠ 63 ∧ c ≠ 45 ∧ c ≠ 94 := by simpa [Rx.plainB] using h5
  clear h5
  obtain ⟨a1, a2, a3, a4, a5, a6, a7, a8, a9, a10, a11, a12, a13, a14⟩ := h6
  go_enter Tryd.func63, Tryd.ntmps63
  go_wp2_with fail
  refine (unhide HP _ HD.out).mono ?_
  rintro e w1 ⟨rfl, m1, rfl⟩
  go_wp2_with fail
  refine (fail_any _ _ _).mono ?_
  rintro e w1 ⟨rfl, rfl⟩
  exact ⟨rfl, wesc_only w rb i m1, by rw [HE.out] <;> exact rfl⟩
end Go.Proofs.YthgcefppeaopkaaDoor
