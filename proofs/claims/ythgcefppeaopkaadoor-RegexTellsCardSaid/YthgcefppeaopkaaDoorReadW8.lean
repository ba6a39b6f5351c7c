/- Walks over the pattern reader: signs. -/
import Derived.Test.YthgcefppeaopkaaDoorReadW7
namespace Go.Proofs.YthgcefppeaopkaaDoor
open Go Go.RowKit
set_option maxRecDepth 100000
set_option linter.unusedSimpArgs false
set_option linter.unusedVariables false
set_option maxHeartbeats 1000000
/-- behind a place for a set -/
def wset (w : World) : World := w.alloc (.cells #[.int .u64 0, .int .u64 0, .int .u64 0, .int .u64 0] 25)
theorem wset_only (rb : Nat) (w : World) (n : Nat) : Only rb w ((wset w).drewN n) := by unfold wset; exact (by repeat (first | with_reducible exact Only.refl _ _ | with_reducible assumption | with_reducible refine Only.set ?_ (by first | exact Or.inl rfl | (right; dsimp only; omega)) _ | with_reducible refine Only.alloc ?_ _ | with_reducible refine Only.drewN ?_ _ | with_reducible refine Only.drew ?_))
theorem wset_b (w : World) (n : Nat) : Blk ((wset w).drewN n) w.heap.size #[.int .u64 0, .int .u64 0, .int .u64 0, .int .u64 0] 25 := Blk.drewN (Blk.new _ _ _) n
theorem wset_rd {s : ByteArray} {rb i op : Nat} {w : World} (h : RD s rb i op w) (n : Nat) : RD s rb i op ((wset w).drewN n) := Blk.drewN (Blk.alloc h _) n
theorem sign_esc (s : ByteArray) (rb i op : Nat) (w : World) (h : RD s rb i op w) (hs : s.size ≤ 1000) (hi : i ≤ s.size) (hc : Rx.pk s.data.toList i = 92) :
    Calls Tryd.prog 83 #[.pointer (some ⟨rb, 0, none⟩)] w (RetEsc s rb op (Rx.sign s.data.toList i) w) := by
  have HE : Hid (Rx.sign s.data.toList i = Rx.esc s.data.toList i) := hid_mk (by unfold Rx.sign; rw [if_pos hc])
  have HP := hide (peek_any s rb i op (wset w) (wset_rd h 0) hs (by omega))
  have HX := hide (fun n => escape_any s rb i op ((wset w).drewN n) (wset_rd h n) hs hi)
  have hl : rb < w.heap.size := h.lt
  have hfi := fine_esc s.data.toList i
  rw [hc] at HP
  clear h hc
  rw [HE.out]
  clear HE
  generalize Rx.esc s.data.toList i = r at *
  go_enter Tryd.func83, Tryd.ntmps83
  go_wp2_with fail
  refine (unhide HP).mono ?_
  rintro e w1 ⟨rfl, m1, rfl⟩
  go_wp2_with fail
  refine (unhide HX _).mono ?_
  rintro e w1 ⟨ho, h⟩
  cases r with
  | out => exact hfi.elim
  | bad e p =>
    obtain rfl := h
    exact ⟨rfl, (Only.refl rb w).via ho (wset_only _ _ _), rfl⟩
  | ok a p =>
    obtain ⟨S, many⟩ := a
    obtain ⟨rfl, hd⟩ := h
    have hb1 := ho.blk (by omega) (wset_b w m1)
    (have z0 : w1.cell? ⟨w.heap.size, 0, none⟩ = some (.int .u64 0) := hb1.cell 0; have z1 : w1.cell? ⟨w.heap.size, 1, none⟩ = some (.int .u64 0) := hb1.cell 1; have z2 : w1.cell? ⟨w.heap.size, 2, none⟩ = some (.int .u64 0) := hb1.cell 2; have z3 : w1.cell? ⟨w.heap.size, 3, none⟩ = some (.int .u64 0) := hb1.cell 3; have zf : ∀ i, w1.frozen? ⟨w.heap.size, i, none⟩ = false := hb1.frozen)
    have hz1 : w.heap.size < w1.heap.size := hb1.lt
    have HO : Hid (Only rb w w1) := hid_mk ((wset_only rb w m1).step ho)
    have HD := hid_mk hd
    clear ho hd hb1
    go_wp2
    refine bodyPost_ret (v := .tuple #[.agg #[.int .u64 ((S).a.toNat : Int), .int .u64 ((S).b.toNat : Int), .int .u64 ((S).c.toNat : Int), .int .u64 ((S).d.toNat : Int)], .bool many]) (by simp [results, Tryd.results83, go_sem, z0, z1, z2, z3]) rfl ⟨by have ho := HO.out; exact (by repeat (first | with_reducible exact Only.refl _ _ | with_reducible assumption | with_reducible refine Only.set ?_ (by first | exact Or.inl rfl | (right; dsimp only; omega)) _ | with_reducible refine Only.alloc ?_ _ | with_reducible refine Only.drewN ?_ _ | with_reducible refine Only.drew ?_)), rfl, ?_⟩
    repeat refine Blk.far ?_ (by dsimp only; omega) _
    exact HD.out
theorem sign_wrong (s : ByteArray) (rb i op : Nat) (w : World) (h : RD s rb i op w) (hs : s.size ≤ 1000) (hi : i ≤ s.size) (hc : Rx.pk s.data.toList i = -1 ∨ Rx.pk s.data.toList i = 91 ∨ Rx.pk s.data.toList i = 93 ∨ Rx.pk s.data.toList i = 45 ∨ Rx.pk s.data.toList i = 94) :
    Calls Tryd.prog 83 #[.pointer (some ⟨rb, 0, none⟩)] w (RetEsc s rb op (Rx.sign s.data.toList i) w) := by
  have HE : Hid (Rx.sign s.data.toList i = Rx.other s.data.toList i) := hid_mk (by unfold Rx.sign; rw [if_neg (by omega), if_pos hc])
  have HR := hid_mk (other_eq (α := CSet × Bool) s i)
  have HP := hide (peek_any s rb i op (wset w) (wset_rd h 0) hs (by omega))
  have HX := hide (fun n => wrong_any s rb i op ((wset w).drewN n) (wset_rd h n) hs (by omega))
  clear h
  rw [HE.out, HR.out]
  clear HE HR
  rcases hc with hc | hc | hc | hc | hc
  all_goals
    rw [hc] at HP HX ⊢
    clear hc
    go_enter Tryd.func83, Tryd.ntmps83
    go_wp2_with fail
    refine (unhide HP).mono ?_
    rintro e w1 ⟨rfl, m1, rfl⟩
    go_wp2_with fail
    refine (unhide HX _).mono ?_
    rintro e w1 ⟨rfl, ho⟩
    exact ⟨rfl, (Only.refl rb w).via ho (wset_only _ _ _), rfl⟩
theorem sign_one (s : ByteArray) (rb i op : Nat) (w : World) (h : RD s rb i op w) (hs : s.size ≤ 1000) (hi : i ≤ s.size) (h1 : Rx.pk s.data.toList i ≠ 92) (hc : ¬ (Rx.pk s.data.toList i = -1 ∨ Rx.pk s.data.toList i = 91 ∨ Rx.pk s.data.toList i = 93 ∨ Rx.pk s.data.toList i = 45 ∨ Rx.pk s.data.toList i = 94)) :
    Calls Tryd.prog 83 #[.pointer (some ⟨rb, 0, none⟩)] w (RetEsc s rb op (Rx.sign s.data.toList i) w) := by
  obtain ⟨n, hn, hn2⟩ : ∃ n : Nat, Rx.pk s.data.toList i = (n : Int) ∧ n < 256 := by
    have := pk_bd s.data.toList i
    exact ⟨(Rx.pk s.data.toList i).toNat, by omega, by omega⟩
  have HE : Hid (Rx.sign s.data.toList i = .ok (CSet.between n n, false) (i + 1)) := hid_mk (by unfold Rx.sign; rw [if_neg h1, if_neg hc, hn]; rfl)
  have HP := hide (peek_any s rb i op (wset w) (wset_rd h 0) hs (by omega))
  have HD := hide (fun n => wset_rd h n)
  have hl : rb < w.heap.size := h.lt
  rw [HE.out]
  clear HE
  rw [hn] at HP h1 hc
  obtain ⟨a1, a2, a3, a4, a5⟩ : (n : Int) ≠ -1 ∧ (n : Int) ≠ 91 ∧ (n : Int) ≠ 93 ∧ (n : Int) ≠ 45 ∧ (n : Int) ≠ 94 := by omega
  have b1 : n ≠ 92 ∧ n ≠ 91 ∧ n ≠ 93 ∧ n ≠ 45 ∧ n ≠ 94 := by omega
  obtain ⟨b1, b2, b3, b4, b5⟩ := b1
  clear h hn hc
  go_enter Tryd.func83, Tryd.ntmps83
  go_wp2_with fail
  refine (unhide HP).mono ?_
  rintro e w1 ⟨rfl, m1, rfl⟩
  have hd1 : RD s rb i op (wset w) := unhide HD 0
  (have k0 : (wset w).cell? ⟨rb, 0, none⟩ = some (.string s) := hd1.cell 0; have k1 : (wset w).cell? ⟨rb, 1, none⟩ = some (.int .i64 ((i : Nat) : Int)) := hd1.cell 1; have k2 : (wset w).cell? ⟨rb, 2, none⟩ = some (.int .i64 ((op : Nat) : Int)) := hd1.cell 2; have kf : ∀ i, (wset w).frozen? ⟨rb, i, none⟩ = false := hd1.frozen)
  clear hd1
  go_wp2_with fail
  refine (of_any n n hn2 hn2 _).mono ?_
  rintro e w1 ⟨rfl, hb⟩
  change Below (((wset w).drewN m1).setCell ⟨rb, 1, none⟩ (.int .i64 ((i : Int) + 1))).heap.size (((wset w).drewN m1).setCell ⟨rb, 1, none⟩ (.int .i64 ((i : Int) + 1))) w1 at hb
  have hb1 := Blk.call ((wset_b w m1).far (p := ⟨rb, 1, none⟩) (by dsimp only; omega) _) hb
  have hd1 := Blk.call (RD.next (unhide HD m1)) hb
  (have z0 : w1.cell? ⟨w.heap.size, 0, none⟩ = some (.int .u64 0) := hb1.cell 0; have z1 : w1.cell? ⟨w.heap.size, 1, none⟩ = some (.int .u64 0) := hb1.cell 1; have z2 : w1.cell? ⟨w.heap.size, 2, none⟩ = some (.int .u64 0) := hb1.cell 2; have z3 : w1.cell? ⟨w.heap.size, 3, none⟩ = some (.int .u64 0) := hb1.cell 3; have zf : ∀ i, w1.frozen? ⟨w.heap.size, i, none⟩ = false := hb1.frozen)
  have hz1 : w.heap.size < w1.heap.size := hb1.lt
  have HO : Hid (Only rb w w1) := hid_mk (((wset_only rb w m1).set (Or.inl rfl) _).call hb)
  have HD1 := hid_mk hd1
  clear hb hd1 hb1
  go_wp2
  refine bodyPost_ret (v := .tuple #[.agg #[.int .u64 ((CSet.between n n).a.toNat : Int), .int .u64 ((CSet.between n n).b.toNat : Int), .int .u64 ((CSet.between n n).c.toNat : Int), .int .u64 ((CSet.between n n).d.toNat : Int)], .bool false]) (by simp [results, Tryd.results83, go_sem, z0, z1, z2, z3]) rfl ⟨by have ho := HO.out; exact (by repeat (first | with_reducible exact Only.refl _ _ | with_reducible assumption | with_reducible refine Only.set ?_ (by first | exact Or.inl rfl | (right; dsimp only; omega)) _ | with_reducible refine Only.alloc ?_ _ | with_reducible refine Only.drewN ?_ _ | with_reducible refine Only.drew ?_)), rfl, ?_⟩
  repeat refine Blk.far ?_ (by dsimp only; omega) _
  exact HD1.out
theorem sign_any (s : ByteArray) (rb i op : Nat) (w : World) (h : RD s rb i op w) (hs : s.size ≤ 1000) (hi : i ≤ s.size) :
    Calls Tryd.prog 83 #[.pointer (some ⟨rb, 0, none⟩)] w (RetEsc s rb op (Rx.sign s.data.toList i) w) := by
  by_cases h1 : Rx.pk s.data.toList i = 92
  · exact sign_esc s rb i op w h hs hi h1
  · by_cases hc : Rx.pk s.data.toList i = -1 ∨ Rx.pk s.data.toList i = 91 ∨ Rx.pk s.data.toList i = 93 ∨ Rx.pk s.data.toList i = 45 ∨ Rx.pk s.data.toList i = 94
    · exact sign_wrong s rb i op w h hs hi hc
    · exact sign_one s rb i op w h hs hi h1 hc
end Go.Proofs.YthgcefppeaopkaaDoor
