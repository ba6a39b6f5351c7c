/- Walks over the pattern reader: hexadecimal escapes. -/
import Derived.Test.YthgcefppeaopkaaDoorReadW6
namespace Go.Proofs.YthgcefppeaopkaaDoor
open Go Go.RowKit
set_option maxRecDepth 100000
set_option linter.unusedSimpArgs false
set_option linter.unusedVariables false
set_option maxHeartbeats 1000000
theorem hexv_bd {b : Int} : -1 ≤ Rx.hexv b ∧ Rx.hexv b ≤ 15 := by
  unfold Rx.hexv
  split
  · omega
  · split <;> omega
/-- what the digits so far come to -/
def hx (c1 c2 : Int) : Nat → Int
  | 0 => 0
  | 1 => Rx.hexv c1
  | _ => 16 * Rx.hexv c1 + Rx.hexv c2
theorem escape_x (s : ByteArray) (rb i op : Nat) (w : World) (h : RD s rb i op w) (hs : s.size ≤ 1000) (hi : i ≤ s.size) (hc : Rx.pk s.data.toList (i + 1) = 120) :
    Calls Tryd.prog 63 #[.pointer (some ⟨rb, 0, none⟩)] w (RetEsc s rb op (Rx.esc s.data.toList i) w) := by
  have hb1 := pk_bd s.data.toList (i + 1 + 1)
  have hb2 := pk_bd s.data.toList (i + 1 + 1 + 1)
  have HE : Hid (Rx.esc s.data.toList i = if Rx.pk s.data.toList (i + 1 + 1) = -1 then .bad 1 s.size
    else if Rx.hexv (Rx.pk s.data.toList (i + 1 + 1)) < 0 then .bad 2 i
    else if Rx.pk s.data.toList (i + 1 + 1 + 1) = -1 then .bad 1 s.size
    else if Rx.hexv (Rx.pk s.data.toList (i + 1 + 1 + 1)) < 0 then .bad 2 i
    else .ok (Rx.one (16 * Rx.hexv (Rx.pk s.data.toList (i + 1 + 1)) + Rx.hexv (Rx.pk s.data.toList (i + 1 + 1 + 1))), false) (i + 1 + 1 + 1 + 1)) := hid_mk (by unfold Rx.esc; rw [hc, if_neg (by decide), if_neg (by decide), if_neg (by decide), if_pos rfl, len_data])
  have HP := hide (fun a (h : RD s rb (i + 1) op a) => peek_any s rb (i + 1) op a h hs (by omega))
  have HP2 := hide (fun a (h : RD s rb (i + 1 + 1) op a) => peek_any s rb (i + 1 + 1) op a h hs (by omega))
  have HP3 := hide (fun a (h : RD s rb (i + 1 + 1 + 1) op a) => peek_any s rb (i + 1 + 1 + 1) op a h hs (by omega))
  have HW := hide (fun a (h : RD s rb (i + 1 + 1) op a) hd => wrong_end s rb (i + 1 + 1) op a h hs (by omega) hd)
  have HW3 := hide (fun a (h : RD s rb (i + 1 + 1 + 1) op a) hd => wrong_end s rb (i + 1 + 1 + 1) op a h hs (by omega) hd)
  have hA : RD s rb i op (w.alloc (.cells #[.int .u64 0, .int .u64 0, .int .u64 0, .int .u64 0] 25)) := Blk.alloc h _
  have hl : rb < w.heap.size := h.lt
  (have k0 : (w.alloc (.cells #[.int .u64 0, .int .u64 0, .int .u64 0, .int .u64 0] 25)).cell? ⟨rb, 0, none⟩ = some (.string s) := hA.cell 0; have k1 : (w.alloc (.cells #[.int .u64 0, .int .u64 0, .int .u64 0, .int .u64 0] 25)).cell? ⟨rb, 1, none⟩ = some (.int .i64 ((i : Nat) : Int)) := hA.cell 1; have k2 : (w.alloc (.cells #[.int .u64 0, .int .u64 0, .int .u64 0, .int .u64 0] 25)).cell? ⟨rb, 2, none⟩ = some (.int .i64 ((op : Nat) : Int)) := hA.cell 2; have kf : ∀ i, (w.alloc (.cells #[.int .u64 0, .int .u64 0, .int .u64 0, .int .u64 0] 25)).frozen? ⟨rb, i, none⟩ = false := hA.frozen)
  have HD : Hid (RD s rb (i + 1) op (wesc w rb i)) := hid_mk (Blk.alloc h.next _)
  clear h hA
  rw [hc] at HP
  clear hc
  generalize Rx.pk s.data.toList (i + 1 + 1) = c1 at *
  generalize Rx.pk s.data.toList (i + 1 + 1 + 1) = c2 at *
  have hx1 := hexv_bd (b := c1)
  have hx2 := hexv_bd (b := c2)
  have HQ : Hid (RetEsc s rb op (Rx.esc s.data.toList i) w = RetEsc s rb op (Rx.esc s.data.toList i) w) := hid_mk rfl
  generalize hG : RetEsc s rb op (Rx.esc s.data.toList i) w = G at HQ ⊢
  have HG := hid_mk hG
  clear hG HQ
  go_enter Tryd.func63, Tryd.ntmps63
  go_wp2_with fail
  refine (unhide HP _ HD.out).mono ?_
  rintro e w1 ⟨rfl, m1, rfl⟩
  go_wp2
  go_loopw [8, 52] (fun v u wr => ∃ j : Nat, j ≤ 2 ∧ v = .int .i64 (hx c1 c2 j) ∧ u = .int .i64 (j : Nat) ∧ RD s rb (i + 1 + j) op wr ∧ Only rb w wr ∧
    Blk wr w.heap.size #[.int .u64 0, .int .u64 0, .int .u64 0, .int .u64 0] 25 ∧ Blk wr (w.heap.size + 1) #[.int .u64 0, .int .u64 0, .int .u64 0, .int .u64 0] 25 ∧
    (1 ≤ j → c1 ≠ -1 ∧ ¬ Rx.hexv c1 < 0) ∧ (2 ≤ j → c2 ≠ -1 ∧ ¬ Rx.hexv c2 < 0)) (fun _ u wr => s.size + 10 - posOf rb wr)
  case atStart =>
    have hb2 := wesc_b2 w rb i m1
    rw [wesc_size] at hb2
    exact ⟨0, by omega, rfl, rfl, wesc_rd HD.out m1, wesc_only w rb i m1, wesc_b1 w rb i m1, hb2, fun h => by omega, fun h => by omega⟩
  case round =>
    obtain ⟨j, hj, rfl, rfl, hd, ho, hz, hy, hj1, hj2⟩ := hrel
    (have g0 : wr.cell? ⟨rb, 0, none⟩ = some (.string s) := hd.cell 0; have g1 : wr.cell? ⟨rb, 1, none⟩ = some (.int .i64 (((i+1+j) : Nat) : Int)) := hd.cell 1; have g2 : wr.cell? ⟨rb, 2, none⟩ = some (.int .i64 ((op : Nat) : Int)) := hd.cell 2; have gf : ∀ i, wr.frozen? ⟨rb, i, none⟩ = false := hd.frozen)
    (have z0 : wr.cell? ⟨w.heap.size, 0, none⟩ = some (.int .u64 0) := hz.cell 0; have z1 : wr.cell? ⟨w.heap.size, 1, none⟩ = some (.int .u64 0) := hz.cell 1; have z2 : wr.cell? ⟨w.heap.size, 2, none⟩ = some (.int .u64 0) := hz.cell 2; have z3 : wr.cell? ⟨w.heap.size, 3, none⟩ = some (.int .u64 0) := hz.cell 3; have zf : ∀ i, wr.frozen? ⟨w.heap.size, i, none⟩ = false := hz.frozen)
    (have y0 : wr.cell? ⟨(w.heap.size + 1), 0, none⟩ = some (.int .u64 0) := hy.cell 0; have y1 : wr.cell? ⟨(w.heap.size + 1), 1, none⟩ = some (.int .u64 0) := hy.cell 1; have y2 : wr.cell? ⟨(w.heap.size + 1), 2, none⟩ = some (.int .u64 0) := hy.cell 2; have y3 : wr.cell? ⟨(w.heap.size + 1), 3, none⟩ = some (.int .u64 0) := hy.cell 3; have yf : ∀ i, wr.frozen? ⟨(w.heap.size + 1), i, none⟩ = false := hy.frozen)
    have HR := hid_mk hd
    have HO := hid_mk ho
    have HZ := hid_mk hz
    have HY := hid_mk hy
    clear hd ho hz hy
    rcases (show j = 0 ∨ j = 1 ∨ j = 2 by omega) with rfl | rfl | rfl
    · by_cases e1 : c1 = -1
      · have HF : Hid (Rx.esc s.data.toList i = .bad 1 s.size) := hid_mk (by rw [HE.out, if_pos e1])
        clear HE hj1 hj2
        rw [e1] at HP2
        go_wp2_with fail
        refine (unhide HP2 _ (RD.next HR.out)).mono ?_
        rintro e w1 ⟨rfl, m2, rfl⟩
        go_wp2_with fail
        refine (unhide HW _ (RD.drewN (RD.next HR.out) m2) e1).mono ?_
        rintro e w1 ⟨rfl, ho⟩
        refine ⟨rfl, ?_⟩
        rw [← HG.out, HF.out]
        exact ⟨HO.out.via ho (by repeat (first | with_reducible exact Only.refl _ _ | with_reducible assumption | with_reducible refine Only.set ?_ (by first | exact Or.inl rfl | (right; dsimp only; omega)) _ | with_reducible refine Only.alloc ?_ _ | with_reducible refine Only.drewN ?_ _ | with_reducible refine Only.drew ?_)), rfl⟩
      · have e2 : decide (c1 < 0) = false := by simp; omega
        by_cases e3 : Rx.hexv c1 < 0
        · have HF : Hid (Rx.esc s.data.toList i = .bad 2 i) := hid_mk (by rw [HE.out, if_neg e1, if_pos e3])
          clear HE hj1 hj2
          go_wp2_with fail
          refine (unhide HP2 _ (RD.next HR.out)).mono ?_
          rintro e w1 ⟨rfl, m2, rfl⟩
          go_wp2_with fail
          refine (unhide HP2 _ (RD.drewN (RD.next HR.out) m2)).mono ?_
          rintro e w1 ⟨rfl, m3, rfl⟩
          go_wp2_with fail
          refine (hex_any c1 _ (by omega) (by omega)).mono ?_
          rintro e w1 ⟨rfl, rfl⟩
          go_wp2_with fail
          refine (fail_any _ _ _).mono ?_
          rintro e w1 ⟨rfl, rfl⟩
          refine ⟨rfl, ?_⟩
          rw [← HG.out, HF.out]
          exact ⟨by have ho := HO.out; exact (by repeat (first | with_reducible exact Only.refl _ _ | with_reducible assumption | with_reducible refine Only.set ?_ (by first | exact Or.inl rfl | (right; dsimp only; omega)) _ | with_reducible refine Only.alloc ?_ _ | with_reducible refine Only.drewN ?_ _ | with_reducible refine Only.drew ?_)), rfl⟩
        · have HJ : Hid (c1 ≠ -1 ∧ ¬ Rx.hexv c1 < 0) := hid_mk ⟨e1, e3⟩
          have hx0 : hx c1 c2 0 = 0 := rfl
          rw [hx0]
          have HX1 : Hid (hx c1 c2 1 = Rx.hexv c1) := hid_mk rfl
          clear hj1 hj2 hx0
          go_wp2_with fail
          refine (unhide HP2 _ (RD.next HR.out)).mono ?_
          rintro e w1 ⟨rfl, m2, rfl⟩
          go_wp2_with fail
          refine (unhide HP2 _ (RD.drewN (RD.next HR.out) m2)).mono ?_
          rintro e w1 ⟨rfl, m3, rfl⟩
          go_wp2_with fail
          refine (hex_any c1 _ (by omega) (by omega)).mono ?_
          rintro e w1 ⟨rfl, rfl⟩
          go_wp2
          go_roundw
          case rel => exact ⟨1, by omega, by rw [HX1.out], rfl, RD.drewN (RD.next HR.out) _, by have ho := HO.out; exact (by repeat (first | with_reducible exact Only.refl _ _ | with_reducible assumption | with_reducible refine Only.set ?_ (by first | exact Or.inl rfl | (right; dsimp only; omega)) _ | with_reducible refine Only.alloc ?_ _ | with_reducible refine Only.drewN ?_ _ | with_reducible refine Only.drew ?_)), HZ.out.far (by dsimp only; omega) _, HY.out.far (by dsimp only; omega) _, fun _ => (by have := HJ.out; omega), fun h => by omega⟩
          case measure => 
            have a1 := posOf_eq HR.out
            have a2 := posOf_eq (s := s) (op := op) (i := i + 1 + 1) (w := (wr.setCell ⟨rb, 1, none⟩ (.int .i64 ((i : Int) + 1 + 1))).drewN (m2 + m3)) (RD.drewN (RD.next HR.out) (m2 + m3))
            simp only [Nat.add_zero] at a1
            rw [a1, a2]
            omega
    · obtain ⟨e1, e3⟩ := hj1 (by omega)
      clear hj1 hj2
      by_cases e4 : c2 = -1
      · have HF : Hid (Rx.esc s.data.toList i = .bad 1 s.size) := hid_mk (by rw [HE.out, if_neg e1, if_neg e3, if_pos e4])
        clear HE
        rw [e4] at HP3
        go_wp2_with fail
        refine (unhide HP3 _ (RD.next HR.out)).mono ?_
        rintro e w1 ⟨rfl, m2, rfl⟩
        go_wp2_with fail
        refine (unhide HW3 _ (RD.drewN (RD.next HR.out) m2) e4).mono ?_
        rintro e w1 ⟨rfl, ho⟩
        refine ⟨rfl, ?_⟩
        rw [← HG.out, HF.out]
        exact ⟨HO.out.via ho (by repeat (first | with_reducible exact Only.refl _ _ | with_reducible assumption | with_reducible refine Only.set ?_ (by first | exact Or.inl rfl | (right; dsimp only; omega)) _ | with_reducible refine Only.alloc ?_ _ | with_reducible refine Only.drewN ?_ _ | with_reducible refine Only.drew ?_)), rfl⟩
      · have e2 : decide (c2 < 0) = false := by simp; omega
        by_cases e5 : Rx.hexv c2 < 0
        · have HF : Hid (Rx.esc s.data.toList i = .bad 2 i) := hid_mk (by rw [HE.out, if_neg e1, if_neg e3, if_neg e4, if_pos e5])
          clear HE
          go_wp2_with fail
          refine (unhide HP3 _ (RD.next HR.out)).mono ?_
          rintro e w1 ⟨rfl, m2, rfl⟩
          go_wp2_with fail
          refine (unhide HP3 _ (RD.drewN (RD.next HR.out) m2)).mono ?_
          rintro e w1 ⟨rfl, m3, rfl⟩
          go_wp2_with fail
          refine (hex_any c2 _ (by omega) (by omega)).mono ?_
          rintro e w1 ⟨rfl, rfl⟩
          go_wp2_with fail
          refine (fail_any _ _ _).mono ?_
          rintro e w1 ⟨rfl, rfl⟩
          refine ⟨rfl, ?_⟩
          rw [← HG.out, HF.out]
          exact ⟨by have ho := HO.out; exact (by repeat (first | with_reducible exact Only.refl _ _ | with_reducible assumption | with_reducible refine Only.set ?_ (by first | exact Or.inl rfl | (right; dsimp only; omega)) _ | with_reducible refine Only.alloc ?_ _ | with_reducible refine Only.drewN ?_ _ | with_reducible refine Only.drew ?_)), rfl⟩
        · have HJ : Hid (c1 ≠ -1 ∧ ¬ Rx.hexv c1 < 0) := hid_mk ⟨e1, e3⟩
          have HJ2 : Hid (c2 ≠ -1 ∧ ¬ Rx.hexv c2 < 0) := hid_mk ⟨e4, e5⟩
          have hx0 : hx c1 c2 1 = Rx.hexv c1 := rfl
          rw [hx0]
          have HX1 : Hid (hx c1 c2 2 = 16 * Rx.hexv c1 + Rx.hexv c2) := hid_mk rfl
          clear hx0
          go_wp2_with fail
          refine (unhide HP3 _ (RD.next HR.out)).mono ?_
          rintro e w1 ⟨rfl, m2, rfl⟩
          go_wp2_with fail
          refine (unhide HP3 _ (RD.drewN (RD.next HR.out) m2)).mono ?_
          rintro e w1 ⟨rfl, m3, rfl⟩
          go_wp2_with fail
          refine (hex_any c2 _ (by omega) (by omega)).mono ?_
          rintro e w1 ⟨rfl, rfl⟩
          go_wp2
          go_roundw
          case rel => exact ⟨2, by omega, by rw [HX1.out], rfl, RD.drewN (RD.next HR.out) _, by have ho := HO.out; exact (by repeat (first | with_reducible exact Only.refl _ _ | with_reducible assumption | with_reducible refine Only.set ?_ (by first | exact Or.inl rfl | (right; dsimp only; omega)) _ | with_reducible refine Only.alloc ?_ _ | with_reducible refine Only.drewN ?_ _ | with_reducible refine Only.drew ?_)), HZ.out.far (by dsimp only; omega) _, HY.out.far (by dsimp only; omega) _, fun _ => (by have := HJ.out; omega), fun _ => (by have := HJ2.out; omega)⟩
          case measure => 
            have a1 := posOf_eq HR.out
            have a2 := posOf_eq (s := s) (op := op) (i := i + 1 + 1 + 1) (w := (wr.setCell ⟨rb, 1, none⟩ (.int .i64 ((i : Int) + 1 + 1 + 1))).drewN (m2 + m3)) (RD.drewN (RD.next HR.out) (m2 + m3))
            rw [a1, a2]
            omega
    · obtain ⟨e1, e3⟩ := hj1 (by omega)
      obtain ⟨e4, e5⟩ := hj2 (by omega)
      clear hj1 hj2
      have hx0 : hx c1 c2 2 = 16 * Rx.hexv c1 + Rx.hexv c2 := rfl
      rw [hx0]
      have HF : Hid (Rx.esc s.data.toList i = .ok (Rx.one (16 * Rx.hexv c1 + Rx.hexv c2), false) (i + 1 + 1 + 1 + 1)) := hid_mk (by rw [HE.out, if_neg e1, if_neg e3, if_neg e4, if_neg e5])
      clear HE hx0
      obtain ⟨n, hn, hn2⟩ : ∃ n : Nat, 16 * Rx.hexv c1 + Rx.hexv c2 = (n : Int) ∧ n < 256 := ⟨(16 * Rx.hexv c1 + Rx.hexv c2).toNat, by omega, by omega⟩
      rw [hn] at HF
      rw [hn]
      clear hn hx1 hx2 e1 e3 e4 e5
      go_wp2_with fail
      refine (of_any n n hn2 hn2 _).mono ?_
      rintro e w1 ⟨rfl, hb⟩
      have hd1 := Blk.call HR.out hb
      have hb1 := Blk.call HZ.out hb
      have hb2 := Blk.call HY.out hb
      clear z0 z1 z2 z3 zf y0 y1 y2 y3 yf
      (have g0 : w1.cell? ⟨rb, 0, none⟩ = some (.string s) := hd1.cell 0; have g1 : w1.cell? ⟨rb, 1, none⟩ = some (.int .i64 (((i+1+2) : Nat) : Int)) := hd1.cell 1; have g2 : w1.cell? ⟨rb, 2, none⟩ = some (.int .i64 ((op : Nat) : Int)) := hd1.cell 2; have gf : ∀ i, w1.frozen? ⟨rb, i, none⟩ = false := hd1.frozen)
      (have z0 : w1.cell? ⟨w.heap.size, 0, none⟩ = some (.int .u64 0) := hb1.cell 0; have z1 : w1.cell? ⟨w.heap.size, 1, none⟩ = some (.int .u64 0) := hb1.cell 1; have z2 : w1.cell? ⟨w.heap.size, 2, none⟩ = some (.int .u64 0) := hb1.cell 2; have z3 : w1.cell? ⟨w.heap.size, 3, none⟩ = some (.int .u64 0) := hb1.cell 3; have zf : ∀ i, w1.frozen? ⟨w.heap.size, i, none⟩ = false := hb1.frozen)
      (have y0 : w1.cell? ⟨(w.heap.size + 1), 0, none⟩ = some (.int .u64 0) := hb2.cell 0; have y1 : w1.cell? ⟨(w.heap.size + 1), 1, none⟩ = some (.int .u64 0) := hb2.cell 1; have y2 : w1.cell? ⟨(w.heap.size + 1), 2, none⟩ = some (.int .u64 0) := hb2.cell 2; have y3 : w1.cell? ⟨(w.heap.size + 1), 3, none⟩ = some (.int .u64 0) := hb2.cell 3; have yf : ∀ i, w1.frozen? ⟨(w.heap.size + 1), i, none⟩ = false := hb2.frozen)
      have hz1 : w.heap.size + 1 < w1.heap.size := hb2.lt
      have HO1 : Hid (Only rb w w1) := hid_mk (HO.out.call hb)
      have HD1 := hid_mk hd1
      clear hb hd1 hb1 hb2
      rw [wesc_size]
      go_wp2
      refine bodyPost_ret (v := .tuple #[.agg #[.int .u64 ((CSet.between n n).a.toNat : Int), .int .u64 ((CSet.between n n).b.toNat : Int), .int .u64 ((CSet.between n n).c.toNat : Int), .int .u64 ((CSet.between n n).d.toNat : Int)], .bool false]) (by simp [results, Tryd.results63, go_sem, z0, z1, z2, z3]) rfl ?_
      rw [← HG.out, HF.out]
      refine ⟨by have ho := HO1.out; exact (by repeat (first | with_reducible exact Only.refl _ _ | with_reducible assumption | with_reducible refine Only.set ?_ (by first | exact Or.inl rfl | (right; dsimp only; omega)) _ | with_reducible refine Only.alloc ?_ _ | with_reducible refine Only.drewN ?_ _ | with_reducible refine Only.drew ?_)), rfl, ?_⟩
      repeat refine Blk.far ?_ (by dsimp only; omega) _
      refine RD.next ?_
      repeat refine Blk.far ?_ (by dsimp only; omega) _
      exact HD1.out
theorem escape_any (s : ByteArray) (rb i op : Nat) (w : World) (h : RD s rb i op w) (hs : s.size ≤ 1000) (hi : i ≤ s.size) :
    Calls Tryd.prog 63 #[.pointer (some ⟨rb, 0, none⟩)] w (RetEsc s rb op (Rx.esc s.data.toList i) w) := by
  by_cases h1 : Rx.pk s.data.toList (i + 1) = -1
  · exact escape_end s rb i op w h hs hi h1
  · by_cases h2 : Rx.pk s.data.toList (i + 1) = 100
    · exact escape_digits s rb i op w h hs hi h2
    · by_cases h3 : Rx.pk s.data.toList (i + 1) = 119
      · exact escape_words s rb i op w h hs hi h3
      · by_cases h4 : Rx.pk s.data.toList (i + 1) = 120
        · exact escape_x s rb i op w h hs hi h4
        · cases h5 : Rx.plainB (Rx.pk s.data.toList (i + 1)) with
          | true => exact escape_plain s rb i op w h hs hi h5
          | false => exact escape_form s rb i op w h hs hi h1 h2 h3 h4 h5
/-- behind a place for a set -/
def wset (w : World) : World := w.alloc (.cells #[.int .u64 0, .int .u64 0, .int .u64 0, .int .u64 0] 25)
theorem wset_only (rb : Nat) (w : World) (n : Nat) : Only rb w ((wset w).drewN n) := by unfold wset; exact (by repeat (first | with_reducible exact Only.refl _ _ | with_reducible assumption | with_reducible refine Only.set ?_ (by first | exact Or.inl rfl | (right; dsimp only; omega)) _ | with_reducible refine Only.alloc ?_ _ | with_reducible refine Only.drewN ?_ _ | with_reducible refine Only.drew ?_))
theorem wset_b (w : World) (n : Nat) : Blk ((wset w).drewN n) w.heap.size #[.int .u64 0, .int .u64 0, .int .u64 0, .int .u64 0] 25 := Blk.drewN (Blk.new _ _ _) n
theorem wset_rd {s : ByteArray} {rb i op : Nat} {w : World} (h : RD s rb i op w) (n : Nat) : RD s rb i op ((wset w).drewN n) := Blk.drewN (Blk.alloc h _) n
theorem sign_esc (s : ByteArray) (rb i op : Nat) (w : World) (h : RD s rb i op w) (hs : s.size ≤ 1000) (hi : i ≤ s.size) (hc : Rx.pk s.data.toList i = 92) :
    Calls Tryd.prog 83 #[.pointer (some ⟨rb, 0, none⟩)] w (RetEsc s rb op (Rx.sign s.data.toList i) w) := by
  have HE : Hid (Rx.sign s.data.toList i = Rx.esc s.data.toList i) := hid_mk (by unfold Rx.sign; rw [if_pos hc])
  have HP := hide (peek_any s rb i op (wset w) (wset_rd h 0) hs (by omega))
  have HX := hide (fun n => escape_any s rb i op ((wset w).drewN n) (wset_rd h n) hs hi)
  have hl : rb < w.heap.size := h.lt
  have hfi := fine_esc s.data.toList i
  rw [hc] at HP
  clear h hc
  rw [HE.out]
  clear HE
  generalize Rx.esc s.data.toList i = r at *
  go_enter Tryd.func83, Tryd.ntmps83
  go_wp2_with fail
  refine (unhide HP).mono ?_
  rintro e w1 ⟨rfl, m1, rfl⟩
  go_wp2_with fail
  refine (unhide HX _).mono ?_
  rintro e w1 ⟨ho, h⟩
  cases r with
  | out => exact hfi.elim
  | bad e p =>
    obtain rfl := h
    exact ⟨rfl, (Only.refl rb w).via ho (wset_only _ _ _), rfl⟩
  | ok a p =>
    obtain ⟨S, many⟩ := a
    obtain ⟨rfl, hd⟩ := h
    have hb1 := ho.blk (by omega) (wset_b w m1)
    (have z0 : w1.cell? ⟨w.heap.size, 0, none⟩ = some (.int .u64 0) := hb1.cell 0; have z1 : w1.cell? ⟨w.heap.size, 1, none⟩ = some (.int .u64 0) := hb1.cell 1; have z2 : w1.cell? ⟨w.heap.size, 2, none⟩ = some (.int .u64 0) := hb1.cell 2; have z3 : w1.cell? ⟨w.heap.size, 3, none⟩ = some (.int .u64 0) := hb1.cell 3; have zf : ∀ i, w1.frozen? ⟨w.heap.size, i, none⟩ = false := hb1.frozen)
    have hz1 : w.heap.size < w1.heap.size := hb1.lt
    have HO : Hid (Only rb w w1) := hid_mk ((wset_only rb w m1).step ho)
    have HD := hid_mk hd
    clear ho hd hb1
    go_wp2
    refine bodyPost_ret (v := .tuple #[.agg #[.int .u64 ((S).a.toNat : Int), .int .u64 ((S).b.toNat : Int), .int .u64 ((S).c.toNat : Int), .int .u64 ((S).d.toNat : Int)], .bool many]) (by simp [results, Tryd.results83, go_sem, z0, z1, z2, z3]) rfl ⟨by have ho := HO.out; exact (by repeat (first | with_reducible exact Only.refl _ _ | with_reducible assumption | with_reducible refine Only.set ?_ (by first | exact Or.inl rfl | (right; dsimp only; omega)) _ | with_reducible refine Only.alloc ?_ _ | with_reducible refine Only.drewN ?_ _ | with_reducible refine Only.drew ?_)), rfl, ?_⟩
    repeat refine Blk.far ?_ (by dsimp only; omega) _
    exact HD.out
theorem sign_wrong (s : ByteArray) (rb i op : Nat) (w : World) (h : RD s rb i op w) (hs : s.size ≤ 1000) (hi : i ≤ s.size) (hc : Rx.pk s.data.toList i = -1 ∨ Rx.pk s.data.toList i = 91 ∨ Rx.pk s.data.toList i = 93 ∨ Rx.pk s.data.toList i = 45 ∨ Rx.pk s.data.toList i = 94) :
    Calls Tryd.prog 83 #[.pointer (some ⟨rb, 0, none⟩)] w (RetEsc s rb op (Rx.sign s.data.toList i) w) := by
  have HE : Hid (Rx.sign s.data.toList i = Rx.other s.data.toList i) := hid_mk (by unfold Rx.sign; rw [if_neg (by omega), if_pos hc])
  have HR := hid_mk (other_eq (α := CSet × Bool) s i)
  have HP := hide (peek_any s rb i op (wset w) (wset_rd h 0) hs (by omega))
  have HX := hide (fun n => wrong_any s rb i op ((wset w).drewN n) (wset_rd h n) hs (by omega))
  clear h
  rw [HE.out, HR.out]
  clear HE HR
  rcases hc with hc | hc | hc | hc | hc
  all_goals
    rw [hc] at HP HX ⊢
    clear hc
    go_enter Tryd.func83, Tryd.ntmps83
    go_wp2_with fail
    refine (unhide HP).mono ?_
    rintro e w1 ⟨rfl, m1, rfl⟩
    go_wp2_with fail
    refine (unhide HX _).mono ?_
    rintro e w1 ⟨rfl, ho⟩
    exact ⟨rfl, (Only.refl rb w).via ho (wset_only _ _ _), rfl⟩
theorem sign_one (s : ByteArray) (rb i op : Nat) (w : World) (h : RD s rb i op w) (hs : s.size ≤ 1000) (hi : i ≤ s.size) (h1 : Rx.pk s.data.toList i ≠ 92) (hc : ¬ (Rx.pk s.data.toList i = -1 ∨ Rx.pk s.data.toList i = 91 ∨ Rx.pk s.data.toList i = 93 ∨ Rx.pk s.data.toList i = 45 ∨ Rx.pk s.data.toList i = 94)) :
    Calls Tryd.prog 83 #[.pointer (some ⟨rb, 0, none⟩)] w (RetEsc s rb op (Rx.sign s.data.toList i) w) := by
  obtain ⟨n, hn, hn2⟩ : ∃ n : Nat, Rx.pk s.data.toList i = (n : Int) ∧ n < 256 := by
    have := pk_bd s.data.toList i
    exact ⟨(Rx.pk s.data.toList i).toNat, by omega, by omega⟩
  have HE : Hid (Rx.sign s.data.toList i = .ok (CSet.between n n, false) (i + 1)) := hid_mk (by unfold Rx.sign; rw [if_neg h1, if_neg hc, hn]; rfl)
  have HP := hide (peek_any s rb i op (wset w) (wset_rd h 0) hs (by omega))
  have HD := hide (fun n => wset_rd h n)
  have hl : rb < w.heap.size := h.lt
  rw [HE.out]
  clear HE
  rw [hn] at HP h1 hc
  obtain ⟨a1, a2, a3, a4, a5⟩ : (n : Int) ≠ -1 ∧ (n : Int) ≠ 91 ∧ (n : Int) ≠ 93 ∧ (n : Int) ≠ 45 ∧ (n : Int) ≠ 94 := by omega
  have b1 : n ≠ 92 ∧ n ≠ 91 ∧ n ≠ 93 ∧ n ≠ 45 ∧ n ≠ 94 := by omega
  obtain ⟨b1, b2, b3, b4, b5⟩ := b1
  clear h hn hc
  go_enter Tryd.func83, Tryd.ntmps83
  go_wp2_with fail
  refine (unhide HP).mono ?_
  rintro e w1 ⟨rfl, m1, rfl⟩
  have hd1 : RD s rb i op (wset w) := unhide HD 0
  (have k0 : (wset w).cell? ⟨rb, 0, none⟩ = some (.string s) := hd1.cell 0; have k1 : (wset w).cell? ⟨rb, 1, none⟩ = some (.int .i64 ((i : Nat) : Int)) := hd1.cell 1; have k2 : (wset w).cell? ⟨rb, 2, none⟩ = some (.int .i64 ((op : Nat) : Int)) := hd1.cell 2; have kf : ∀ i, (wset w).frozen? ⟨rb, i, none⟩ = false := hd1.frozen)
  clear hd1
  go_wp2_with fail
  refine (of_any n n hn2 hn2 _).mono ?_
  rintro e w1 ⟨rfl, hb⟩
  change Below (((wset w).drewN m1).setCell ⟨rb, 1, none⟩ (.int .i64 ((i : Int) + 1))).heap.size (((wset w).drewN m1).setCell ⟨rb, 1, none⟩ (.int .i64 ((i : Int) + 1))) w1 at hb
  have hb1 := Blk.call ((wset_b w m1).far (p := ⟨rb, 1, none⟩) (by dsimp only; omega) _) hb
  have hd1 := Blk.call (RD.next (unhide HD m1)) hb
  (have z0 : w1.cell? ⟨w.heap.size, 0, none⟩ = some (.int .u64 0) := hb1.cell 0; have z1 : w1.cell? ⟨w.heap.size, 1, none⟩ = some (.int .u64 0) := hb1.cell 1; have z2 : w1.cell? ⟨w.heap.size, 2, none⟩ = some (.int .u64 0) := hb1.cell 2; have z3 : w1.cell? ⟨w.heap.size, 3, none⟩ = some (.int .u64 0) := hb1.cell 3; have zf : ∀ i, w1.frozen? ⟨w.heap.size, i, none⟩ = false := hb1.frozen)
  have hz1 : w.heap.size < w1.heap.size := hb1.lt
  have HO : Hid (Only rb w w1) := hid_mk (((wset_only rb w m1).set (Or.inl rfl) _).call hb)
  have HD1 := hid_mk hd1
  clear hb hd1 hb1
  go_wp2
  refine bodyPost_ret (v := .tuple #[.agg #[.int .u64 ((CSet.between n n).a.toNat : Int), .int .u64 ((CSet.between n n).b.toNat : Int), .int .u64 ((CSet.between n n).c.toNat : Int), .int .u64 ((CSet.between n n).d.toNat : Int)], .bool false]) (by simp [results, Tryd.results83, go_sem, z0, z1, z2, z3]) rfl ⟨by have ho := HO.out; exact (by repeat (first | with_reducible exact Only.refl _ _ | with_reducible assumption | with_reducible refine Only.set ?_ (by first | exact Or.inl rfl | (right; dsimp only; omega)) _ | with_reducible refine Only.alloc ?_ _ | with_reducible refine Only.drewN ?_ _ | with_reducible refine Only.drew ?_)), rfl, ?_⟩
  repeat refine Blk.far ?_ (by dsimp only; omega) _
  exact HD1.out
theorem sign_any (s : ByteArray) (rb i op : Nat) (w : World) (h : RD s rb i op w) (hs : s.size ≤ 1000) (hi : i ≤ s.size) :
    Calls Tryd.prog 83 #[.pointer (some ⟨rb, 0, none⟩)] w (RetEsc s rb op (Rx.sign s.data.toList i) w) := by
  by_cases h1 : Rx.pk s.data.toList i = 92
  · exact sign_esc s rb i op w h hs hi h1
  · by_cases hc : Rx.pk s.data.toList i = -1 ∨ Rx.pk s.data.toList i = 91 ∨ Rx.pk s.data.toList i = 93 ∨ Rx.pk s.data.toList i = 45 ∨ Rx.pk s.data.toList i = 94
    · exact sign_wrong s rb i op w h hs hi hc
    · exact sign_one s rb i op w h hs hi h1 hc
end Go.Proofs.YthgcefppeaopkaaDoor
