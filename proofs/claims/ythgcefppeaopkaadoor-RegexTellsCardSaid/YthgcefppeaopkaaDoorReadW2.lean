/- Walks over the pattern reader: hex, digits, words, need, number. -/
import Derived.Test.YthgcefppeaopkaaDoorReadW
import Derived.Test.YthgcefppeaopkaaDoorSetW6
namespace Go.Proofs.YthgcefppeaopkaaDoor
open Go Go.RowKit
set_option maxRecDepth 100000
set_option linter.unusedSimpArgs false
set_option linter.unusedVariables false
set_option maxHeartbeats 1000000
theorem hex_any (b : Int) (w : World) (h0 : -1 ≤ b) (h1 : b ≤ 255) : Calls Tryd.prog 75 #[.int .i64 b] w (Ret (.int .i64 (Rx.hexv b)) w) := by
  have hc : (48 ≤ b ∧ b ≤ 57) ∨ (97 ≤ b ∧ b ≤ 102) ∨ (b < 48) ∨ (57 < b ∧ b < 97) ∨ (102 < b) := by omega
  rcases hc with hc | hc | hc | hc | hc
  · obtain ⟨c1, c2⟩ := hc
    go_enter Tryd.func75, Tryd.ntmps75
    go_wp2
    go_ret
    exact ret_int (by unfold Rx.hexv; rw [if_pos ⟨c1, c2⟩])
  · obtain ⟨c1, c2⟩ := hc
    have d1 : decide (48 ≤ b) = true := by simp; omega
    have d2 : decide (b ≤ 57) = false := by simp; omega
    go_enter Tryd.func75, Tryd.ntmps75
    go_wp2
    go_ret
    exact ret_int (by unfold Rx.hexv; rw [if_neg (by omega), if_pos ⟨c1, c2⟩]; omega)
  · have d1 : decide (48 ≤ b) = false := by simp; omega
    have d2 : decide (97 ≤ b) = false := by simp; omega
    go_enter Tryd.func75, Tryd.ntmps75
    go_wp2
    go_ret
    exact ret_int (by unfold Rx.hexv; rw [if_neg (by omega), if_neg (by omega)])
  · obtain ⟨c1, c2⟩ := hc
    have d1 : decide (48 ≤ b) = true := by simp; omega
    have d2 : decide (b ≤ 57) = false := by simp; omega
    have d3 : decide (97 ≤ b) = false := by simp; omega
    go_enter Tryd.func75, Tryd.ntmps75
    go_wp2
    go_ret
    exact ret_int (by unfold Rx.hexv; rw [if_neg (by omega), if_neg (by omega)])
  · have d1 : decide (48 ≤ b) = true := by simp; omega
    have d2 : decide (b ≤ 57) = false := by simp; omega
    have d3 : decide (97 ≤ b) = true := by simp; omega
    have d4 : decide (b ≤ 102) = false := by simp; omega
    go_enter Tryd.func75, Tryd.ntmps75
    go_wp2
    go_ret
    exact ret_int (by unfold Rx.hexv; rw [if_neg (by omega), if_neg (by omega)])
theorem digits_any (w : World) : Calls Tryd.prog 73 #[] w (RetG (.agg #[.int .u64 ((Rx.digits).a.toNat : Int), .int .u64 ((Rx.digits).b.toNat : Int), .int .u64 ((Rx.digits).c.toNat : Int), .int .u64 ((Rx.digits).d.toNat : Int)]) w) := by
  have HC := hide (fun w => of_any 48 57 (by decide) (by decide) w)
  go_enter Tryd.func73, Tryd.ntmps73
  go_wp2_with fail
  refine (unhide HC _).mono ?_
  rintro e w1 ⟨rfl, hb1⟩
  have hA := (Blk.new w #[.int .u64 0, .int .u64 0, .int .u64 0, .int .u64 0] 25).call hb1
  (have z0 : w1.cell? ⟨w.heap.size, 0, none⟩ = some (.int .u64 0) := hA.cell 0; have z1 : w1.cell? ⟨w.heap.size, 1, none⟩ = some (.int .u64 0) := hA.cell 1; have z2 : w1.cell? ⟨w.heap.size, 2, none⟩ = some (.int .u64 0) := hA.cell 2; have z3 : w1.cell? ⟨w.heap.size, 3, none⟩ = some (.int .u64 0) := hA.cell 3; have zf : ∀ i, w1.frozen? ⟨w.heap.size, i, none⟩ = false := hA.frozen)
  have HB := hid_mk (bthen (B := w.heap.size) (a := w) ((Below.refl _ _).alloc (Nat.le_refl _) _) (by simp) hb1)
  clear hA hb1
  go_wp2
  refine bodyPost_ret (v := .agg #[.int .u64 ((Rx.digits).a.toNat : Int), .int .u64 ((Rx.digits).b.toNat : Int), .int .u64 ((Rx.digits).c.toNat : Int), .int .u64 ((Rx.digits).d.toNat : Int)]) (by simp [results, Tryd.results73, go_sem, z0, z1, z2, z3]; simp [Rx.digits]) rfl ⟨rfl, ?_⟩
  have hb2 := HB.out
  exact (by repeat (first | exact Below.refl _ _ | assumption | refine Below.setCell ?_ (by first | omega | (simp <;> omega)) _ | refine Below.alloc ?_ (by first | omega | (simp <;> omega)) _ | refine below_drewN ?_ _ | refine Below.drew ?_))
theorem words_any (w : World) : Calls Tryd.prog 74 #[] w (RetG (.agg #[.int .u64 ((Rx.words).a.toNat : Int), .int .u64 ((Rx.words).b.toNat : Int), .int .u64 ((Rx.words).c.toNat : Int), .int .u64 ((Rx.words).d.toNat : Int)]) w) := by
  have HC := hide (fun lo hi (h1 : lo < 256) (h2 : hi < 256) w => of_any lo hi h1 h2 w)
  have HO := hide (fun S T w => or_any S T w)
  go_enter Tryd.func74, Tryd.ntmps74
  go_wp2_with fail
  refine (digits_any _).mono ?_
  rintro e w1 ⟨rfl, hb1⟩
  go_wp2_with fail
  refine (unhide HC 65 90 (by decide) (by decide) _).mono ?_
  rintro e w2 ⟨rfl, hb2⟩
  go_wp2_with fail
  refine (unhide HO Rx.digits (CSet.between 65 90) _).mono ?_
  rintro e w3 ⟨rfl, hb3⟩
  go_wp2_with fail
  refine (unhide HC 97 122 (by decide) (by decide) _).mono ?_
  rintro e w4 ⟨rfl, hb4⟩
  go_wp2_with fail
  refine (unhide HC 95 95 (by decide) (by decide) _).mono ?_
  rintro e w5 ⟨rfl, hb5⟩
  go_wp2_with fail
  refine (unhide HO (CSet.between 97 122) (CSet.between 95 95) _).mono ?_
  rintro e w6 ⟨rfl, hb6⟩
  go_wp2_with fail
  refine (unhide HO (Rx.digits.or (CSet.between 65 90)) ((CSet.between 97 122).or (CSet.between 95 95)) _).mono ?_
  rintro e w7 ⟨rfl, hb7⟩
  have hbb := bstep (bstep (bstep (bstep (bstep (bstep hb1 hb2) hb3) hb4) hb5) hb6) hb7
  have hA := (Blk.new w #[.int .u64 0, .int .u64 0, .int .u64 0, .int .u64 0] 25).call hbb
  (have z0 : w7.cell? ⟨w.heap.size, 0, none⟩ = some (.int .u64 0) := hA.cell 0; have z1 : w7.cell? ⟨w.heap.size, 1, none⟩ = some (.int .u64 0) := hA.cell 1; have z2 : w7.cell? ⟨w.heap.size, 2, none⟩ = some (.int .u64 0) := hA.cell 2; have z3 : w7.cell? ⟨w.heap.size, 3, none⟩ = some (.int .u64 0) := hA.cell 3; have zf : ∀ i, w7.frozen? ⟨w.heap.size, i, none⟩ = false := hA.frozen)
  have HB := hid_mk (bthen (B := w.heap.size) (a := w) ((Below.refl _ _).alloc (Nat.le_refl _) _) (by simp) hbb)
  clear hA hb1 hb2 hb3 hb4 hb5 hb6 hb7 hbb
  have hw : Rx.words = (Rx.digits.or (CSet.between 65 90)).or ((CSet.between 97 122).or (CSet.between 95 95)) := rfl
  rw [← hw]
  go_wp2
  refine bodyPost_ret (v := .agg #[.int .u64 ((Rx.words).a.toNat : Int), .int .u64 ((Rx.words).b.toNat : Int), .int .u64 ((Rx.words).c.toNat : Int), .int .u64 ((Rx.words).d.toNat : Int)]) (by simp [results, Tryd.results74, go_sem, z0, z1, z2, z3, hw]) rfl ⟨rfl, ?_⟩
  have hb2 := HB.out
  exact (by repeat (first | exact Below.refl _ _ | assumption | refine Below.setCell ?_ (by first | omega | (simp <;> omega)) _ | refine Below.alloc ?_ (by first | omega | (simp <;> omega)) _ | refine below_drewN ?_ _ | refine Below.drew ?_))
/-- a call that hands back nothing, the reader now at p -/
def RetNeed (s : ByteArray) (rb op : Nat) (r : Res Unit) (w : World) (x : Ending) (w' : World) : Prop :=
  Only rb w w' ∧ match r with
  | .ok _ p => x = .returned (.tuple #[]) ∧ RD s rb p op w'
  | .bad e p => x = .panicked (faultV e p)
  | .out => True
theorem other_eq {α : Type} (s : ByteArray) (i : Nat) : (Rx.other s.data.toList i : Res α) = .bad (if Rx.pk s.data.toList i < 0 then 1 else 2) (if Rx.pk s.data.toList i < 0 then s.size else i) := by
  unfold Rx.other
  split
  · simp
  · rfl
theorem need_any (s : ByteArray) (rb i op b : Nat) (w : World) (h : RD s rb i op w) (hs : s.size ≤ 1000) (hi : i ≤ 1000) (hb : b < 256) :
    Calls Tryd.prog 57 #[.pointer (some ⟨rb, 0, none⟩), .int .u8 b] w (RetNeed s rb op (if Rx.pk s.data.toList i = b then .ok () (i + 1) else Rx.other s.data.toList i) w) := by
  have HP := hide (peek_any s rb i op w h hs (by omega))
  have HW := hide (fun n => wrong_any s rb i op (w.drewN n) h hs (by omega))
  have hr := other_eq (α := Unit) s i
  (have h0 : w.cell? ⟨rb, 0, none⟩ = some (.string s) := h.cell 0; have h1 : w.cell? ⟨rb, 1, none⟩ = some (.int .i64 ((i : Nat) : Int)) := h.cell 1; have h2 : w.cell? ⟨rb, 2, none⟩ = some (.int .i64 ((op : Nat) : Int)) := h.cell 2; have hf : ∀ i, w.frozen? ⟨rb, i, none⟩ = false := h.frozen)
  have HD := hid_mk h
  clear h
  by_cases hc : Rx.pk s.data.toList i = b
  · rw [if_pos hc]
    rw [hc] at HP
    have ht : ((b : Int) != (b : Int)) = false := by simp
    clear hr hc HW
    go_enter Tryd.func57, Tryd.ntmps57
    go_wp2_with fail
    refine (unhide HP).mono ?_
    rintro e w1 ⟨rfl, n, rfl⟩
    go_wp2
    go_end0
    exact ⟨(by repeat (first | exact Only.refl _ _ | assumption | refine Only.set ?_ (by first | exact Or.inl rfl | (right; dsimp only; omega)) _ | refine Only.alloc ?_ _ | refine Only.drewN ?_ _ | refine Only.drew ?_)), rfl, (HD.out.drewN n).put 1 _⟩
  · rw [if_neg hc]
    have HR := hid_mk hr
    clear hr
    generalize Rx.pk s.data.toList i = c at *
    go_enter Tryd.func57, Tryd.ntmps57
    go_wp2_with fail
    refine (unhide HP).mono ?_
    rintro e w1 ⟨rfl, n, rfl⟩
    go_wp2_with fail
    refine (unhide HW _).mono ?_
    rintro e w1 ⟨rfl, ho⟩
    refine ⟨rfl, ((Only.refl _ _).drewN n).step ho, ?_⟩
    rw [HR.out]
    show _ = _
    split <;> rfl
end Go.Proofs.YthgcefppeaopkaaDoor
