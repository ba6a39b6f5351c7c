/- Walks over the pattern reader: plain escapes. -/
import Derived.Test.YthgcefppeaopkaaDoorReadW2
namespace Go.Proofs.YthgcefppeaopkaaDoor
open Go Go.RowKit
set_option maxRecDepth 100000
set_option linter.unusedSimpArgs false
set_option linter.unusedVariables false
set_option maxHeartbeats 4000000
theorem escape_plain (s : ByteArray) (rb i op : Nat) (w : World) (h : RD s rb i op w) (hs : s.size ≤ 1000) (hi : i ≤ s.size) (hp : Rx.plainB (Rx.pk s.data.toList (i + 1)) = true) :
    Calls Tryd.prog 63 #[.pointer (some ⟨rb, 0, none⟩)] w (RetEsc s rb op (Rx.esc s.data.toList i) w) := by
  have HP := hide (fun a (h : RD s rb (i + 1) op a) => peek_any s rb (i + 1) op a h hs (by omega))
  have hA : RD s rb i op (w.alloc (.cells #[.int .u64 0, .int .u64 0, .int .u64 0, .int .u64 0] 25)) := Blk.alloc h _
  have hl : rb < w.heap.size := h.lt
  (have h0 : (w.alloc (.cells #[.int .u64 0, .int .u64 0, .int .u64 0, .int .u64 0] 25)).cell? ⟨rb, 0, none⟩ = some (.string s) := hA.cell 0; have h1 : (w.alloc (.cells #[.int .u64 0, .int .u64 0, .int .u64 0, .int .u64 0] 25)).cell? ⟨rb, 1, none⟩ = some (.int .i64 ((i : Nat) : Int)) := hA.cell 1; have h2 : (w.alloc (.cells #[.int .u64 0, .int .u64 0, .int .u64 0, .int .u64 0] 25)).cell? ⟨rb, 2, none⟩ = some (.int .i64 ((op : Nat) : Int)) := hA.cell 2; have hf : ∀ i, (w.alloc (.cells #[.int .u64 0, .int .u64 0, .int .u64 0, .int .u64 0] 25)).frozen? ⟨rb, i, none⟩ = false := hA.frozen)
  have HD : Hid (RD s rb (i + 1) op (wesc w rb i)) := hid_mk (Blk.alloc h.next _)
  clear h hA
  have HO2 := hide (fun n (h : n < 256) w => of_any n n h h w)
  have hq : Rx.pk s.data.toList (i + 1) = 92 ∨ Rx.pk s.data.toList (i + 1) = 46 ∨ Rx.pk s.data.toList (i + 1) = 91 ∨ Rx.pk s.data.toList (i + 1) = 93 ∨ Rx.pk s.data.toList (i + 1) = 40 ∨ Rx.pk s.data.toList (i + 1) = 41 ∨ Rx.pk s.data.toList (i + 1) = 123 ∨ Rx.pk s.data.toList (i + 1) = 125 ∨ Rx.pk s.data.toList (i + 1) = 124 ∨ Rx.pk s.data.toList (i + 1) = 42 ∨ Rx.pk s.data.toList (i + 1) = 43 ∨ Rx.pk s.data.toList (i + 1) = 63 ∨ Rx.pk s.data.toList (i + 1) = 45 ∨ Rx.pk s.data.toList (i + 1) = 94 := by
    simpa [Rx.plainB] using hp
  clear hp
  have HX : ∀ n : Nat, Rx.pk s.data.toList (i + 1) = (n : Int) → Rx.plainB (n : Int) = true → Hid (Rx.esc s.data.toList i = .ok (CSet.between n n, false) (i + 1 + 1)) := fun n hc hp => by
    have : (n : Int) ≠ -1 ∧ (n : Int) ≠ 100 ∧ (n : Int) ≠ 119 ∧ (n : Int) ≠ 120 := by
      refine ⟨?_, ?_, ?_, ?_⟩ <;> (intro e; rw [e] at hp; simp [Rx.plainB] at hp)
    unfold Rx.esc
    rw [hc, if_neg this.1, if_neg this.2.1, if_neg this.2.2.1, if_neg this.2.2.2, if_pos hp]
    exact hid_mk rfl
  rcases hq with hc | hc | hc | hc | hc | hc | hc | hc | hc | hc | hc | hc | hc | hc
  · have HE : Hid (Rx.esc s.data.toList i = .ok ((CSet.between 92 92), false) (i + 1 + 1)) := HX 92 hc (by decide)
    clear HX
    rw [hc] at HP
    clear hc
    go_enter Tryd.func63, Tryd.ntmps63
    go_wp2_with fail
    refine (unhide HP _ HD.out).mono ?_
    rintro e w1 ⟨rfl, m1, rfl⟩
    go_wp2_with fail
    refine (unhide HO2 92 (by decide) _).mono ?_
    rintro e w1 ⟨rfl, hb⟩
    change Below (wesc2 w rb i m1).heap.size (wesc2 w rb i m1) w1 at hb
    have hd1 := Blk.call (wesc_rd HD.out m1) hb
    have hb1 := Blk.call (wesc_b1 w rb i m1) hb
    have hb2 := Blk.call (wesc_b2 w rb i m1) hb
    rw [wesc_size] at hb2
    (have g0 : w1.cell? ⟨rb, 0, none⟩ = some (.string s) := hd1.cell 0; have g1 : w1.cell? ⟨rb, 1, none⟩ = some (.int .i64 (((i+1) : Nat) : Int)) := hd1.cell 1; have g2 : w1.cell? ⟨rb, 2, none⟩ = some (.int .i64 ((op : Nat) : Int)) := hd1.cell 2; have gf : ∀ i, w1.frozen? ⟨rb, i, none⟩ = false := hd1.frozen)
    (have z0 : w1.cell? ⟨w.heap.size, 0, none⟩ = some (.int .u64 0) := hb1.cell 0; have z1 : w1.cell? ⟨w.heap.size, 1, none⟩ = some (.int .u64 0) := hb1.cell 1; have z2 : w1.cell? ⟨w.heap.size, 2, none⟩ = some (.int .u64 0) := hb1.cell 2; have z3 : w1.cell? ⟨w.heap.size, 3, none⟩ = some (.int .u64 0) := hb1.cell 3; have zf : ∀ i, w1.frozen? ⟨w.heap.size, i, none⟩ = false := hb1.frozen)
    (have y0 : w1.cell? ⟨(w.heap.size + 1), 0, none⟩ = some (.int .u64 0) := hb2.cell 0; have y1 : w1.cell? ⟨(w.heap.size + 1), 1, none⟩ = some (.int .u64 0) := hb2.cell 1; have y2 : w1.cell? ⟨(w.heap.size + 1), 2, none⟩ = some (.int .u64 0) := hb2.cell 2; have y3 : w1.cell? ⟨(w.heap.size + 1), 3, none⟩ = some (.int .u64 0) := hb2.cell 3; have yf : ∀ i, w1.frozen? ⟨(w.heap.size + 1), i, none⟩ = false := hb2.frozen)
    have hz1 : w.heap.size + 1 < w1.heap.size := hb2.lt
    have HO : Hid (Only rb w w1) := hid_mk ((wesc_only w rb i m1).call hb)
    have HD1 := hid_mk hd1
    clear hb hd1 hb1 hb2
    rw [wesc_size]
    go_wp2
    refine bodyPost_ret (v := .tuple #[.agg #[.int .u64 (((CSet.between 92 92)).a.toNat : Int), .int .u64 (((CSet.between 92 92)).b.toNat : Int), .int .u64 (((CSet.between 92 92)).c.toNat : Int), .int .u64 (((CSet.between 92 92)).d.toNat : Int)], .bool false]) (by simp [results, Tryd.results63, go_sem, z0, z1, z2, z3]) rfl ⟨(by have ho := HO.out; exact (by repeat (first | with_reducible exact Only.refl _ _ | with_reducible assumption | with_reducible refine Only.set ?_ (by first | exact Or.inl rfl | (right; dsimp only; omega)) _ | with_reducible refine Only.alloc ?_ _ | with_reducible refine Only.drewN ?_ _ | with_reducible refine Only.drew ?_))), ?_⟩
    rw [HE.out]
    refine ⟨rfl, ?_⟩
    repeat refine Blk.far ?_ (by dsimp only; omega) _
    refine RD.next ?_
    repeat refine Blk.far ?_ (by dsimp only; omega) _
    exact HD1.out
  · have HE : Hid (Rx.esc s.data.toList i = .ok ((CSet.between 46 46), false) (i + 1 + 1)) := HX 46 hc (by decide)
    clear HX
    rw [hc] at HP
    clear hc
    go_enter Tryd.func63, Tryd.ntmps63
    go_wp2_with fail
    refine (unhide HP _ HD.out).mono ?_
    rintro e w1 ⟨rfl, m1, rfl⟩
    go_wp2_with fail
    refine (unhide HO2 46 (by decide) _).mono ?_
    rintro e w1 ⟨rfl, hb⟩
    change Below (wesc2 w rb i m1).heap.size (wesc2 w rb i m1) w1 at hb
    have hd1 := Blk.call (wesc_rd HD.out m1) hb
    have hb1 := Blk.call (wesc_b1 w rb i m1) hb
    have hb2 := Blk.call (wesc_b2 w rb i m1) hb
    rw [wesc_size] at hb2
    (have g0 : w1.cell? ⟨rb, 0, none⟩ = some (.string s) := hd1.cell 0; have g1 : w1.cell? ⟨rb, 1, none⟩ = some (.int .i64 (((i+1) : Nat) : Int)) := hd1.cell 1; have g2 : w1.cell? ⟨rb, 2, none⟩ = some (.int .i64 ((op : Nat) : Int)) := hd1.cell 2; have gf : ∀ i, w1.frozen? ⟨rb, i, none⟩ = false := hd1.frozen)
    (have z0 : w1.cell? ⟨w.heap.size, 0, none⟩ = some (.int .u64 0) := hb1.cell 0; have z1 : w1.cell? ⟨w.heap.size, 1, none⟩ = some (.int .u64 0) := hb1.cell 1; have z2 : w1.cell? ⟨w.heap.size, 2, none⟩ = some (.int .u64 0) := hb1.cell 2; have z3 : w1.cell? ⟨w.heap.size, 3, none⟩ = some (.int .u64 0) := hb1.cell 3; have zf : ∀ i, w1.frozen? ⟨w.heap.size, i, none⟩ = false := hb1.frozen)
    (have y0 : w1.cell? ⟨(w.heap.size + 1), 0, none⟩ = some (.int .u64 0) := hb2.cell 0; have y1 : w1.cell? ⟨(w.heap.size + 1), 1, none⟩ = some (.int .u64 0) := hb2.cell 1; have y2 : w1.cell? ⟨(w.heap.size + 1), 2, none⟩ = some (.int .u64 0) := hb2.cell 2; have y3 : w1.cell? ⟨(w.heap.size + 1), 3, none⟩ = some (.int .u64 0) := hb2.cell 3; have yf : ∀ i, w1.frozen? ⟨(w.heap.size + 1), i, none⟩ = false := hb2.frozen)
    have hz1 : w.heap.size + 1 < w1.heap.size := hb2.lt
    have HO : Hid (Only rb w w1) := hid_mk ((wesc_only w rb i m1).call hb)
    have HD1 := hid_mk hd1
    clear hb hd1 hb1 hb2
    rw [wesc_size]
    go_wp2
    refine bodyPost_ret (v := .tuple #[.agg #[.int .u64 (((CSet.between 46 46)).a.toNat : Int), .int .u64 (((CSet.between 46 46)).b.toNat : Int), .int .u64 (((CSet.between 46 46)).c.toNat : Int), .int .u64 (((CSet.between 46 46)).d.toNat : Int)], .bool false]) (by simp [results, Tryd.results63, go_sem, z0, z1, z2, z3]) rfl ⟨(by have ho := HO.out; exact (by repeat (first | with_reducible exact Only.refl _ _ | with_reducible assumption | with_reducible refine Only.set ?_ (by first | exact Or.inl rfl | (right; dsimp only; omega)) _ | with_reducible refine Only.alloc ?_ _ | with_reducible refine Only.drewN ?_ _ | with_reducible refine Only.drew ?_))), ?_⟩
    rw [HE.out]
    refine ⟨rfl, ?_⟩
    repeat refine Blk.far ?_ (by dsimp only; omega) _
    refine RD.next ?_
    repeat refine Blk.far ?_ (by dsimp only; omega) _
    exact HD1.out
  · have HE : Hid (Rx.esc s.data.toList i = .ok ((CSet.between 91 91), false) (i + 1 + 1)) := HX 91 hc (by decide)
    clear HX
    rw [hc] at HP
    clear hc
    go_enter Tryd.func63, Tryd.ntmps63
    go_wp2_with fail
    refine (unhide HP _ HD.out).mono ?_
    rintro e w1 ⟨rfl, m1, rfl⟩
    go_wp2_with fail
    refine (unhide HO2 91 (by decide) _).mono ?_
    rintro e w1 ⟨rfl, hb⟩
    change Below (wesc2 w rb i m1).heap.size (wesc2 w rb i m1) w1 at hb
    have hd1 := Blk.call (wesc_rd HD.out m1) hb
    have hb1 := Blk.call (wesc_b1 w rb i m1) hb
    have hb2 := Blk.call (wesc_b2 w rb i m1) hb
    rw [wesc_size] at hb2
    (have g0 : w1.cell? ⟨rb, 0, none⟩ = some (.string s) := hd1.cell 0; have g1 : w1.cell? ⟨rb, 1, none⟩ = some (.int .i64 (((i+1) : Nat) : Int)) := hd1.cell 1; have g2 : w1.cell? ⟨rb, 2, none⟩ = some (.int .i64 ((op : Nat) : Int)) := hd1.cell 2; have gf : ∀ i, w1.frozen? ⟨rb, i, none⟩ = false := hd1.frozen)
    (have z0 : w1.cell? ⟨w.heap.size, 0, none⟩ = some (.int .u64 0) := hb1.cell 0; have z1 : w1.cell? ⟨w.heap.size, 1, none⟩ = some (.int .u64 0) := hb1.cell 1; have z2 : w1.cell? ⟨w.heap.size, 2, none⟩ = some (.int .u64 0) := hb1.cell 2; have z3 : w1.cell? ⟨w.heap.size, 3, none⟩ = some (.int .u64 0) := hb1.cell 3; have zf : ∀ i, w1.frozen? ⟨w.heap.size, i, none⟩ = false := hb1.frozen)
    (have y0 : w1.cell? ⟨(w.heap.size + 1), 0, none⟩ = some (.int .u64 0) := hb2.cell 0; have y1 : w1.cell? ⟨(w.heap.size + 1), 1, none⟩ = some (.int .u64 0) := hb2.cell 1; have y2 : w1.cell? ⟨(w.heap.size + 1), 2, none⟩ = some (.int .u64 0) := hb2.cell 2; have y3 : w1.cell? ⟨(w.heap.size + 1), 3, none⟩ = some (.int .u64 0) := hb2.cell 3; have yf : ∀ i, w1.frozen? ⟨(w.heap.size + 1), i, none⟩ = false := hb2.frozen)
    have hz1 : w.heap.size + 1 < w1.heap.size := hb2.lt
    have HO : Hid (Only rb w w1) := hid_mk ((wesc_only w rb i m1).call hb)
    have HD1 := hid_mk hd1
    clear hb hd1 hb1 hb2
    rw [wesc_size]
    go_wp2
    refine bodyPost_ret (v := .tuple #[.agg #[.int .u64 (((CSet.between 91 91)).a.toNat : Int), .int .u64 (((CSet.between 91 91)).b.toNat : Int), .int .u64 (((CSet.between 91 91)).c.toNat : Int), .int .u64 (((CSet.between 91 91)).d.toNat : Int)], .bool false]) (by simp [results, Tryd.results63, go_sem, z0, z1, z2, z3]) rfl ⟨(by have ho := HO.out; exact (by repeat (first | with_reducible exact Only.refl _ _ | with_reducible assumption | with_reducible refine Only.set ?_ (by first | exact Or.inl rfl | (right; dsimp only; omega)) _ | with_reducible refine Only.alloc ?_ _ | with_reducible refine Only.drewN ?_ _ | with_reducible refine Only.drew ?_))), ?_⟩
    rw [HE.out]
    refine ⟨rfl, ?_⟩
    repeat refine Blk.far ?_ (by dsimp only; omega) _
    refine RD.next ?_
    repeat refine Blk.far ?_ (by dsimp only; omega) _
    exact HD1.out
  · have HE : Hid (Rx.esc s.data.toList i = .ok ((CSet.between 93 93), false) (i + 1 + 1)) := HX 93 hc (by decide)
    clear HX
    rw [hc] at HP
    clear hc
    go_enter Tryd.func63, Tryd.ntmps63
    go_wp2_with fail
    refine (unhide HP _ HD.out).mono ?_
    rintro e w1 ⟨rfl, m1, rfl⟩
    go_wp2_with fail
    refine (unhide HO2 93 (by decide) _).mono ?_
    rintro e w1 ⟨rfl, hb⟩
    change Below (wesc2 w rb i m1).heap.size (wesc2 w rb i m1) w1 at hb
    have hd1 := Blk.call (wesc_rd HD.out m1) hb
    have hb1 := Blk.call (wesc_b1 w rb i m1) hb
    have hb2 := Blk.call (wesc_b2 w rb i m1) hb
    rw [wesc_size] at hb2
    (have g0 : w1.cell? ⟨rb, 0, none⟩ = some (.string s) := hd1.cell 0; have g1 : w1.cell? ⟨rb, 1, none⟩ = some (.int .i64 (((i+1) : Nat) : Int)) := hd1.cell 1; have g2 : w1.cell? ⟨rb, 2, none⟩ = some (.int .i64 ((op : Nat) : Int)) := hd1.cell 2; have gf : ∀ i, w1.frozen? ⟨rb, i, none⟩ = false := hd1.frozen)
    (have z0 : w1.cell? ⟨w.heap.size, 0, none⟩ = some (.int .u64 0) := hb1.cell 0; have z1 : w1.cell? ⟨w.heap.size, 1, none⟩ = some (.int .u64 0) := hb1.cell 1; have z2 : w1.cell? ⟨w.heap.size, 2, none⟩ = some (.int .u64 0) := hb1.cell 2; have z3 : w1.cell? ⟨w.heap.size, 3, none⟩ = some (.int .u64 0) := hb1.cell 3; have zf : ∀ i, w1.frozen? ⟨w.heap.size, i, none⟩ = false := hb1.frozen)
    (have y0 : w1.cell? ⟨(w.heap.size + 1), 0, none⟩ = some (.int .u64 0) := hb2.cell 0; have y1 : w1.cell? ⟨(w.heap.size + 1), 1, none⟩ = some (.int .u64 0) := hb2.cell 1; have y2 : w1.cell? ⟨(w.heap.size + 1), 2, none⟩ = some (.int .u64 0) := hb2.cell 2; have y3 : w1.cell? ⟨(w.heap.size + 1), 3, none⟩ = some (.int .u64 0) := hb2.cell 3; have yf : ∀ i, w1.frozen? ⟨(w.heap.size + 1), i, none⟩ = false := hb2.frozen)
    have hz1 : w.heap.size + 1 < w1.heap.size := hb2.lt
    have HO : Hid (Only rb w w1) := hid_mk ((wesc_only w rb i m1).call hb)
    have HD1 := hid_mk hd1
    clear hb hd1 hb1 hb2
    rw [wesc_size]
    go_wp2
    refine bodyPost_ret (v := .tuple #[.agg #[.int .u64 (((CSet.between 93 93)).a.toNat : Int), .int .u64 (((CSet.between 93 93)).b.toNat : Int), .int .u64 (((CSet.between 93 93)).c.toNat : Int), .int .u64 (((CSet.between 93 93)).d.toNat : Int)], .bool false]) (by simp [results, Tryd.results63, go_sem, z0, z1, z2, z3]) rfl ⟨(by have ho := HO.out; exact (by repeat (first | with_reducible exact Only.refl _ _ | with_reducible assumption | with_reducible refine Only.set ?_ (by first | exact Or.inl rfl | (right; dsimp only; omega)) _ | with_reducible refine Only.alloc ?_ _ | with_reducible refine Only.drewN ?_ _ | with_reducible refine Only.drew ?_))), ?_⟩
    rw [HE.out]
    refine ⟨rfl, ?_⟩
    repeat refine Blk.far ?_ (by dsimp only; omega) _
    refine RD.next ?_
    repeat refine Blk.far ?_ (by dsimp only; omega) _
    exact HD1.out
  · have HE : Hid (Rx.esc s.data.toList i = .ok ((CSet.between 40 40), false) (i + 1 + 1)) := HX 40 hc (by decide)
    clear HX
    rw [hc] at HP
    clear hc
    go_enter Tryd.func63, Tryd.ntmps63
    go_wp2_with fail
    refine (unhide HP _ HD.out).mono ?_
    rintro e w1 ⟨rfl, m1, rfl⟩
    go_wp2_with fail
    refine (unhide HO2 40 (by decide) _).mono ?_
    rintro e w1 ⟨rfl, hb⟩
    change Below (wesc2 w rb i m1).heap.size (wesc2 w rb i m1) w1 at hb
    have hd1 := Blk.call (wesc_rd HD.out m1) hb
    have hb1 := Blk.call (wesc_b1 w rb i m1) hb
    have hb2 := Blk.call (wesc_b2 w rb i m1) hb
    rw [wesc_size] at hb2
    (have g0 : w1.cell? ⟨rb, 0, none⟩ = some (.string s) := hd1.cell 0; have g1 : w1.cell? ⟨rb, 1, none⟩ = some (.int .i64 (((i+1) : Nat) : Int)) := hd1.cell 1; have g2 : w1.cell? ⟨rb, 2, none⟩ = some (.int .i64 ((op : Nat) : Int)) := hd1.cell 2; have gf : ∀ i, w1.frozen? ⟨rb, i, none⟩ = false := hd1.frozen)
    (have z0 : w1.cell? ⟨w.heap.size, 0, none⟩ = some (.int .u64 0) := hb1.cell 0; have z1 : w1.cell? ⟨w.heap.size, 1, none⟩ = some (.int .u64 0) := hb1.cell 1; have z2 : w1.cell? ⟨w.heap.size, 2, none⟩ = some (.int .u64 0) := hb1.cell 2; have z3 : w1.cell? ⟨w.heap.size, 3, none⟩ = some (.int .u64 0) := hb1.cell 3; have zf : ∀ i, w1.frozen? ⟨w.heap.size, i, none⟩ = false := hb1.frozen)
    (have y0 : w1.cell? ⟨(w.heap.size + 1), 0, none⟩ = some (.int .u64 0) := hb2.cell 0; have y1 : w1.cell? ⟨(w.heap.size + 1), 1, none⟩ = some (.int .u64 0) := hb2.cell 1; have y2 : w1.cell? ⟨(w.heap.size + 1), 2, none⟩ = some (.int .u64 0) := hb2.cell 2; have y3 : w1.cell? ⟨(w.heap.size + 1), 3, none⟩ = some (.int .u64 0) := hb2.cell 3; have yf : ∀ i, w1.frozen? ⟨(w.heap.size + 1), i, none⟩ = false := hb2.frozen)
    have hz1 : w.heap.size + 1 < w1.heap.size := hb2.lt
    have HO : Hid (Only rb w w1) := hid_mk ((wesc_only w rb i m1).call hb)
    have HD1 := hid_mk hd1
    clear hb hd1 hb1 hb2
    rw [wesc_size]
    go_wp2
    refine bodyPost_ret (v := .tuple #[.agg #[.int .u64 (((CSet.between 40 40)).a.toNat : Int), .int .u64 (((CSet.between 40 40)).b.toNat : Int), .int .u64 (((CSet.between 40 40)).c.toNat : Int), .int .u64 (((CSet.between 40 40)).d.toNat : Int)], .bool false]) (by simp [results, Tryd.results63, go_sem, z0, z1, z2, z3]) rfl ⟨(by have ho := HO.out; exact (by repeat (first | with_reducible exact Only.refl _ _ | with_reducible assumption | with_reducible refine Only.set ?_ (by first | exact Or.inl rfl | (right; dsimp only; omega)) _ | with_reducible refine Only.alloc ?_ _ | with_reducible refine Only.drewN ?_ _ | with_reducible refine Only.drew ?_))), ?_⟩
    rw [HE.out]
    refine ⟨rfl, ?_⟩
    repeat refine Blk.far ?_ (by dsimp only; omega) _
    refine RD.next ?_
    repeat refine Blk.far ?_ (by dsimp only; omega) _
    exact HD1.out
  · have HE : Hid (Rx.esc s.data.toList i = .ok ((CSet.between 41 41), false) (i + 1 + 1)) := HX 41 hc (by decide)
    clear HX
    rw [hc] at HP
    clear hc
    go_enter Tryd.func63, Tryd.ntmps63
    go_wp2_with fail
    refine (unhide HP _ HD.out).mono ?_
    rintro e w1 ⟨rfl, m1, rfl⟩
    go_wp2_with fail
    refine (unhide HO2 41 (by decide) _).mono ?_
    rintro e w1 ⟨rfl, hb⟩
    change Below (wesc2 w rb i m1).heap.size (wesc2 w rb i m1) w1 at hb
    have hd1 := Blk.call (wesc_rd HD.out m1) hb
    have hb1 := Blk.call (wesc_b1 w rb i m1) hb
    have hb2 := Blk.call (wesc_b2 w rb i m1) hb
    rw [wesc_size] at hb2
    (have g0 : w1.cell? ⟨rb, 0, none⟩ = some (.string s) := hd1.cell 0; have g1 : w1.cell? ⟨rb, 1, none⟩ = some (.int .i64 (((i+1) : Nat) : Int)) := hd1.cell 1; have g2 : w1.cell? ⟨rb, 2, none⟩ = some (.int .i64 ((op : Nat) : Int)) := hd1.cell 2; have gf : ∀ i, w1.frozen? ⟨rb, i, none⟩ = false := hd1.frozen)
    (have z0 : w1.cell? ⟨w.heap.size, 0, none⟩ = some (.int .u64 0) := hb1.cell 0; have z1 : w1.cell? ⟨w.heap.size, 1, none⟩ = some (.int .u64 0) := hb1.cell 1; have z2 : w1.cell? ⟨w.heap.size, 2, none⟩ = some (.int .u64 0) := hb1.cell 2; have z3 : w1.cell? ⟨w.heap.size, 3, none⟩ = some (.int .u64 0) := hb1.cell 3; have zf : ∀ i, w1.frozen? ⟨w.heap.size, i, none⟩ = false := hb1.frozen)
    (have y0 : w1.cell? ⟨(w.heap.size + 1), 0, none⟩ = some (.int .u64 0) := hb2.cell 0; have y1 : w1.cell? ⟨(w.heap.size + 1), 1, none⟩ = some (.int .u64 0) := hb2.cell 1; have y2 : w1.cell? ⟨(w.heap.size + 1), 2, none⟩ = some (.int .u64 0) := hb2.cell 2; have y3 : w1.cell? ⟨(w.heap.size + 1), 3, none⟩ = some (.int .u64 0) := hb2.cell 3; have yf : ∀ i, w1.frozen? ⟨(w.heap.size + 1), i, none⟩ = false := hb2.frozen)
    have hz1 : w.heap.size + 1 < w1.heap.size := hb2.lt
    have HO : Hid (Only rb w w1) := hid_mk ((wesc_only w rb i m1).call hb)
    have HD1 := hid_mk hd1
    clear hb hd1 hb1 hb2
    rw [wesc_size]
    go_wp2
    refine bodyPost_ret (v := .tuple #[.agg #[.int .u64 (((CSet.between 41 41)).a.toNat : Int), .int .u64 (((CSet.between 41 41)).b.toNat : Int), .int .u64 (((CSet.between 41 41)).c.toNat : Int), .int .u64 (((CSet.between 41 41)).d.toNat : Int)], .bool false]) (by simp [results, Tryd.results63, go_sem, z0, z1, z2, z3]) rfl ⟨(by have ho := HO.out; exact (by repeat (first | with_reducible exact Only.refl _ _ | with_reducible assumption | with_reducible refine Only.set ?_ (by first | exact Or.inl rfl | (right; dsimp only; omega)) _ | with_reducible refine Only.alloc ?_ _ | with_reducible refine Only.drewN ?_ _ | with_reducible refine Only.drew ?_))), ?_⟩
    rw [HE.out]
    refine ⟨rfl, ?_⟩
    repeat refine Blk.far ?_ (by dsimp only; omega) _
    refine RD.next ?_
    repeat refine Blk.far ?_ (by dsimp only; omega) _
    exact HD1.out
  · have HE : Hid (Rx.esc s.data.toList i = .ok ((CSet.between 123 123), false) (i + 1 + 1)) := HX 123 hc (by decide)
    clear HX
    rw [hc] at HP
    clear hc
    go_enter Tryd.func63, Tryd.ntmps63
    go_wp2_with fail
    refine (unhide HP _ HD.out).mono ?_
    rintro e w1 ⟨rfl, m1, rfl⟩
    go_wp2_with fail
    refine (unhide HO2 123 (by decide) _).mono ?_
    rintro e w1 ⟨rfl, hb⟩
    change Below (wesc2 w rb i m1).heap.size (wesc2 w rb i m1) w1 at hb
    have hd1 := Blk.call (wesc_rd HD.out m1) hb
    have hb1 := Blk.call (wesc_b1 w rb i m1) hb
    have hb2 := Blk.call (wesc_b2 w rb i m1) hb
    rw [wesc_size] at hb2
    (have g0 : w1.cell? ⟨rb, 0, none⟩ = some (.string s) := hd1.cell 0; have g1 : w1.cell? ⟨rb, 1, none⟩ = some (.int .i64 (((i+1) : Nat) : Int)) := hd1.cell 1; have g2 : w1.cell? ⟨rb, 2, none⟩ = some (.int .i64 ((op : Nat) : Int)) := hd1.cell 2; have gf : ∀ i, w1.frozen? ⟨rb, i, none⟩ = false := hd1.frozen)
    (have z0 : w1.cell? ⟨w.heap.size, 0, none⟩ = some (.int .u64 0) := hb1.cell 0; have z1 : w1.cell? ⟨w.heap.size, 1, none⟩ = some (.int .u64 0) := hb1.cell 1; have z2 : w1.cell? ⟨w.heap.size, 2, none⟩ = some (.int .u64 0) := hb1.cell 2; have z3 : w1.cell? ⟨w.heap.size, 3, none⟩ = some (.int .u64 0) := hb1.cell 3; have zf : ∀ i, w1.frozen? ⟨w.heap.size, i, none⟩ = false := hb1.frozen)
    (have y0 : w1.cell? ⟨(w.heap.size + 1), 0, none⟩ = some (.int .u64 0) := hb2.cell 0; have y1 : w1.cell? ⟨(w.heap.size + 1), 1, none⟩ = some (.int .u64 0) := hb2.cell 1; have y2 : w1.cell? ⟨(w.heap.size + 1), 2, none⟩ = some (.int .u64 0) := hb2.cell 2; have y3 : w1.cell? ⟨(w.heap.size + 1), 3, none⟩ = some (.int .u64 0) := hb2.cell 3; have yf : ∀ i, w1.frozen? ⟨(w.heap.size + 1), i, none⟩ = false := hb2.frozen)
    have hz1 : w.heap.size + 1 < w1.heap.size := hb2.lt
    have HO : Hid (Only rb w w1) := hid_mk ((wesc_only w rb i m1).call hb)
    have HD1 := hid_mk hd1
    clear hb hd1 hb1 hb2
    rw [wesc_size]
    go_wp2
    refine bodyPost_ret (v := .tuple #[.agg #[.int .u64 (((CSet.between 123 123)).a.toNat : Int), .int .u64 (((CSet.between 123 123)).b.toNat : Int), .int .u64 (((CSet.between 123 123)).c.toNat : Int), .int .u64 (((CSet.between 123 123)).d.toNat : Int)], .bool false]) (by simp [results, Tryd.results63, go_sem, z0, z1, z2, z3]) rfl ⟨(by have ho := HO.out; exact (by repeat (first | with_reducible exact Only.refl _ _ | with_reducible assumption | with_reducible refine Only.set ?_ (by first | exact Or.inl rfl | (right; dsimp only; omega)) _ | with_reducible refine Only.alloc ?_ _ | with_reducible refine Only.drewN ?_ _ | with_reducible refine Only.drew ?_))), ?_⟩
    rw [HE.out]
    refine ⟨rfl, ?_⟩
    repeat refine Blk.far ?_ (by dsimp only; omega) _
    refine RD.next ?_
    repeat refine Blk.far ?_ (by dsimp only; omega) _
    exact HD1.out
  · have HE : Hid (Rx.esc s.data.toList i = .ok ((CSet.between 125 125), false) (i + 1 + 1)) := HX 125 hc (by decide)
    clear HX
    rw [hc] at HP
    clear hc
    go_enter Tryd.func63, Tryd.ntmps63
    go_wp2_with fail
    refine (unhide HP _ HD.out).mono ?_
    rintro e w1 ⟨rfl, m1, rfl⟩
    go_wp2_with fail
    refine (unhide HO2 125 (by decide) _).mono ?_
    rintro e w1 ⟨rfl, hb⟩
    change Below (wesc2 w rb i m1).heap.size (wesc2 w rb i m1) w1 at hb
    have hd1 := Blk.call (wesc_rd HD.out m1) hb
    have hb1 := Blk.call (wesc_b1 w rb i m1) hb
    have hb2 := Blk.call (wesc_b2 w rb i m1) hb
    rw [wesc_size] at hb2
    (have g0 : w1.cell? ⟨rb, 0, none⟩ = some (.string s) := hd1.cell 0; have g1 : w1.cell? ⟨rb, 1, none⟩ = some (.int .i64 (((i+1) : Nat) : Int)) := hd1.cell 1; have g2 : w1.cell? ⟨rb, 2, none⟩ = some (.int .i64 ((op : Nat) : Int)) := hd1.cell 2; have gf : ∀ i, w1.frozen? ⟨rb, i, none⟩ = false := hd1.frozen)
    (have z0 : w1.cell? ⟨w.heap.size, 0, none⟩ = some (.int .u64 0) := hb1.cell 0; have z1 : w1.cell? ⟨w.heap.size, 1, none⟩ = some (.int .u64 0) := hb1.cell 1; have z2 : w1.cell? ⟨w.heap.size, 2, none⟩ = some (.int .u64 0) := hb1.cell 2; have z3 : w1.cell? ⟨w.heap.size, 3, none⟩ = some (.int .u64 0) := hb1.cell 3; have zf : ∀ i, w1.frozen? ⟨w.heap.size, i, none⟩ = false := hb1.frozen)
    (have y0 : w1.cell? ⟨(w.heap.size + 1), 0, none⟩ = some (.int .u64 0) := hb2.cell 0; have y1 : w1.cell? ⟨(w.heap.size + 1), 1, none⟩ = some (.int .u64 0) := hb2.cell 1; have y2 : w1.cell? ⟨(w.heap.size + 1), 2, none⟩ = some (.int .u64 0) := hb2.cell 2; have y3 : w1.cell? ⟨(w.heap.size + 1), 3, none⟩ = some (.int .u64 0) := hb2.cell 3; have yf : ∀ i, w1.frozen? ⟨(w.heap.size + 1), i, none⟩ = false := hb2.frozen)
    have hz1 : w.heap.size + 1 < w1.heap.size := hb2.lt
    have HO : Hid (Only rb w w1) := hid_mk ((wesc_only w rb i m1).call hb)
    have HD1 := hid_mk hd1
    clear hb hd1 hb1 hb2
    rw [wesc_size]
    go_wp2
    refine bodyPost_ret (v := .tuple #[.agg #[.int .u64 (((CSet.between 125 125)).a.toNat : Int), .int .u64 (((CSet.between 125 125)).b.toNat : Int), .int .u64 (((CSet.between 125 125)).c.toNat : Int), .int .u64 (((CSet.between 125 125)).d.toNat : Int)], .bool false]) (by simp [results, Tryd.results63, go_sem, z0, z1, z2, z3]) rfl ⟨(by have ho := HO.out; exact (by repeat (first | with_reducible exact Only.refl _ _ | with_reducible assumption | with_reducible refine Only.set ?_ (by first | exact Or.inl rfl | (right; dsimp only; omega)) _ | with_reducible refine Only.alloc ?_ _ | with_reducible refine Only.drewN ?_ _ | with_reducible refine Only.drew ?_))), ?_⟩
    rw [HE.out]
    refine ⟨rfl, ?_⟩
    repeat refine Blk.far ?_ (by dsimp only; omega) _
    refine RD.next ?_
    repeat refine Blk.far ?_ (by dsimp only; omega) _
    exact HD1.out
  · have HE : Hid (Rx.esc s.data.toList i = .ok ((CSet.between 124 124), false) (i + 1 + 1)) := HX 124 hc (by decide)
    clear HX
    rw [hc] at HP
    clear hc
    go_enter Tryd.func63, Tryd.ntmps63
    go_wp2_with fail
    refine (unhide HP _ HD.out).mono ?_
    rintro e w1 ⟨rfl, m1, rfl⟩
    go_wp2_with fail
    refine (unhide HO2 124 (by decide) _).mono ?_
    rintro e w1 ⟨rfl, hb⟩
    change Below (wesc2 w rb i m1).heap.size (wesc2 w rb i m1) w1 at hb
    have hd1 := Blk.call (wesc_rd HD.out m1) hb
    have hb1 := Blk.call (wesc_b1 w rb i m1) hb
    have hb2 := Blk.call (wesc_b2 w rb i m1) hb
    rw [wesc_size] at hb2
    (have g0 : w1.cell? ⟨rb, 0, none⟩ = some (.string s) := hd1.cell 0; have g1 : w1.cell? ⟨rb, 1, none⟩ = some (.int .i64 (((i+1) : Nat) : Int)) := hd1.cell 1; have g2 : w1.cell? ⟨rb, 2, none⟩ = some (.int .i64 ((op : Nat) : Int)) := hd1.cell 2; have gf : ∀ i, w1.frozen? ⟨rb, i, none⟩ = false := hd1.frozen)
    (have z0 : w1.cell? ⟨w.heap.size, 0, none⟩ = some (.int .u64 0) := hb1.cell 0; have z1 : w1.cell? ⟨w.heap.size, 1, none⟩ = some (.int .u64 0) := hb1.cell 1; have z2 : w1.cell? ⟨w.heap.size, 2, none⟩ = some (.int .u64 0) := hb1.cell 2; have z3 : w1.cell? ⟨w.heap.size, 3, none⟩ = some (.int .u64 0) := hb1.cell 3; have zf : ∀ i, w1.frozen? ⟨w.heap.size, i, none⟩ = false := hb1.frozen)
    (have y0 : w1.cell? ⟨(w.heap.size + 1), 0, none⟩ = some (.int .u64 0) := hb2.cell 0; have y1 : w1.cell? ⟨(w.heap.size + 1), 1, none⟩ = some (.int .u64 0) := hb2.cell 1; have y2 : w1.cell? ⟨(w.heap.size + 1), 2, none⟩ = some (.int .u64 0) := hb2.cell 2; have y3 : w1.cell? ⟨(w.heap.size + 1), 3, none⟩ = some (.int .u64 0) := hb2.cell 3; have yf : ∀ i, w1.frozen? ⟨(w.heap.size + 1), i, none⟩ = false := hb2.frozen)
    have hz1 : w.heap.size + 1 < w1.heap.size := hb2.lt
    have HO : Hid (Only rb w w1) := hid_mk ((wesc_only w rb i m1).call hb)
    have HD1 := hid_mk hd1
    clear hb hd1 hb1 hb2
    rw [wesc_size]
    go_wp2
    refine bodyPost_ret (v := .tuple #[.agg #[.int .u64 (((CSet.between 124 124)).a.toNat : Int), .int .u64 (((CSet.between 124 124)).b.toNat : Int), .int .u64 (((CSet.between 124 124)).c.toNat : Int), .int .u64 (((CSet.between 124 124)).d.toNat : Int)], .bool false]) (by simp [results, Tryd.results63, go_sem, z0, z1, z2, z3]) rfl ⟨(by have ho := HO.out; exact (by repeat (first | with_reducible exact Only.refl _ _ | with_reducible assumption | with_reducible refine Only.set ?_ (by first | exact Or.inl rfl | (right; dsimp only; omega)) _ | with_reducible refine Only.alloc ?_ _ | with_reducible refine Only.drewN ?_ _ | with_reducible refine Only.drew ?_))), ?_⟩
    rw [HE.out]
    refine ⟨rfl, ?_⟩
    repeat refine Blk.far ?_ (by dsimp only; omega) _
    refine RD.next ?_
    repeat refine Blk.far ?_ (by dsimp only; omega) _
    exact HD1.out
  · have HE : Hid (Rx.esc s.data.toList i = .ok ((CSet.between 42 42), false) (i + 1 + 1)) := HX 42 hc (by decide)
    clear HX
    rw [hc] at HP
    clear hc
    go_enter Tryd.func63, Tryd.ntmps63
    go_wp2_with fail
    refine (unhide HP _ HD.out).mono ?_
    rintro e w1 ⟨rfl, m1, rfl⟩
    go_wp2_with fail
    refine (unhide HO2 42 (by decide) _).mono ?_
    rintro e w1 ⟨rfl, hb⟩
    change Below (wesc2 w rb i m1).heap.size (wesc2 w rb i m1) w1 at hb
    have hd1 := Blk.call (wesc_rd HD.out m1) hb
    have hb1 := Blk.call (wesc_b1 w rb i m1) hb
    have hb2 := Blk.call (wesc_b2 w rb i m1) hb
    rw [wesc_size] at hb2
    (have g0 : w1.cell? ⟨rb, 0, none⟩ = some (.string s) := hd1.cell 0; have g1 : w1.cell? ⟨rb, 1, none⟩ = some (.int .i64 (((i+1) : Nat) : Int)) := hd1.cell 1; have g2 : w1.cell? ⟨rb, 2, none⟩ = some (.int .i64 ((op : Nat) : Int)) := hd1.cell 2; have gf : ∀ i, w1.frozen? ⟨rb, i, none⟩ = false := hd1.frozen)
    (have z0 : w1.cell? ⟨w.heap.size, 0, none⟩ = some (.int .u64 0) := hb1.cell 0; have z1 : w1.cell? ⟨w.heap.size, 1, none⟩ = some (.int .u64 0) := hb1.cell 1; have z2 : w1.cell? ⟨w.heap.size, 2, none⟩ = some (.int .u64 0) := hb1.cell 2; have z3 : w1.cell? ⟨w.heap.size, 3, none⟩ = some (.int .u64 0) := hb1.cell 3; have zf : ∀ i, w1.frozen? ⟨w.heap.size, i, none⟩ = false := hb1.frozen)
    (have y0 : w1.cell? ⟨(w.heap.size + 1), 0, none⟩ = some (.int .u64 0) := hb2.cell 0; have y1 : w1.cell? ⟨(w.heap.size + 1), 1, none⟩ = some (.int .u64 0) := hb2.cell 1; have y2 : w1.cell? ⟨(w.heap.size + 1), 2, none⟩ = some (.int .u64 0) := hb2.cell 2; have y3 : w1.cell? ⟨(w.heap.size + 1), 3, none⟩ = some (.int .u64 0) := hb2.cell 3; have yf : ∀ i, w1.frozen? ⟨(w.heap.size + 1), i, none⟩ = false := hb2.frozen)
    have hz1 : w.heap.size + 1 < w1.heap.size := hb2.lt
    have HO : Hid (Only rb w w1) := hid_mk ((wesc_only w rb i m1).call hb)
    have HD1 := hid_mk hd1
    clear hb hd1 hb1 hb2
    rw [wesc_size]
    go_wp2
    refine bodyPost_ret (v := .tuple #[.agg #[.int .u64 (((CSet.between 42 42)).a.toNat : Int), .int .u64 (((CSet.between 42 42)).b.toNat : Int), .int .u64 (((CSet.between 42 42)).c.toNat : Int), .int .u64 (((CSet.between 42 42)).d.toNat : Int)], .bool false]) (by simp [results, Tryd.results63, go_sem, z0, z1, z2, z3]) rfl ⟨(by have ho := HO.out; exact (by repeat (first | with_reducible exact Only.refl _ _ | with_reducible assumption | with_reducible refine Only.set ?_ (by first | exact Or.inl rfl | (right; dsimp only; omega)) _ | with_reducible refine Only.alloc ?_ _ | with_reducible refine Only.drewN ?_ _ | with_reducible refine Only.drew ?_))), ?_⟩
    rw [HE.out]
    refine ⟨rfl, ?_⟩
    repeat refine Blk.far ?_ (by dsimp only; omega) _
    refine RD.next ?_
    repeat refine Blk.far ?_ (by dsimp only; omega) _
    exact HD1.out
  · have HE : Hid (Rx.esc s.data.toList i = .ok ((CSet.between 43 43), false) (i + 1 + 1)) := HX 43 hc (by decide)
    clear HX
    rw [hc] at HP
    clear hc
    go_enter Tryd.func63, Tryd.ntmps63
    go_wp2_with fail
    refine (unhide HP _ HD.out).mono ?_
    rintro e w1 ⟨rfl, m1, rfl⟩
    go_wp2_with fail
    refine (unhide HO2 43 (by decide) _).mono ?_
    rintro e w1 ⟨rfl, hb⟩
    change Below (wesc2 w rb i m1).heap.size (wesc2 w rb i m1) w1 at hb
    have hd1 := Blk.call (wesc_rd HD.out m1) hb
    have hb1 := Blk.call (wesc_b1 w rb i m1) hb
    have hb2 := Blk.call (wesc_b2 w rb i m1) hb
    rw [wesc_size] at hb2
    (have g0 : w1.cell? ⟨rb, 0, none⟩ = some (.string s) := hd1.cell 0; have g1 : w1.cell? ⟨rb, 1, none⟩ = some (.int .i64 (((i+1) : Nat) : Int)) := hd1.cell 1; have g2 : w1.cell? ⟨rb, 2, none⟩ = some (.int .i64 ((op : Nat) : Int)) := hd1.cell 2; have gf : ∀ i, w1.frozen? ⟨rb, i, none⟩ = false := hd1.frozen)
    (have z0 : w1.cell? ⟨w.heap.size, 0, none⟩ = some (.int .u64 0) := hb1.cell 0; have z1 : w1.cell? ⟨w.heap.size, 1, none⟩ = some (.int .u64 0) := hb1.cell 1; have z2 : w1.cell? ⟨w.heap.size, 2, none⟩ = some (.int .u64 0) := hb1.cell 2; have z3 : w1.cell? ⟨w.heap.size, 3, none⟩ = some (.int .u64 0) := hb1.cell 3; have zf : ∀ i, w1.frozen? ⟨w.heap.size, i, none⟩ = false := hb1.frozen)
    (have y0 : w1.cell? ⟨(w.heap.size + 1), 0, none⟩ = some (.int .u64 0) := hb2.cell 0; have y1 : w1.cell? ⟨(w.heap.size + 1), 1, none⟩ = some (.int .u64 0) := hb2.cell 1; have y2 : w1.cell? ⟨(w.heap.size + 1), 2, none⟩ = some (.int .u64 0) := hb2.cell 2; have y3 : w1.cell? ⟨(w.heap.size + 1), 3, none⟩ = some (.int .u64 0) := hb2.cell 3; have yf : ∀ i, w1.frozen? ⟨(w.heap.size + 1), i, none⟩ = false := hb2.frozen)
    have hz1 : w.heap.size + 1 < w1.heap.size := hb2.lt
    have HO : Hid (Only rb w w1) := hid_mk ((wesc_only w rb i m1).call hb)
    have HD1 := hid_mk hd1
    clear hb hd1 hb1 hb2
    rw [wesc_size]
    go_wp2
    refine bodyPost_ret (v := .tuple #[.agg #[.int .u64 (((CSet.between 43 43)).a.toNat : Int), .int .u64 (((CSet.between 43 43)).b.toNat : Int), .int .u64 (((CSet.between 43 43)).c.toNat : Int), .int .u64 (((CSet.between 43 43)).d.toNat : Int)], .bool false]) (by simp [results, Tryd.results63, go_sem, z0, z1, z2, z3]) rfl ⟨(by have ho := HO.out; exact (by repeat (first | with_reducible exact Only.refl _ _ | with_reducible assumption | with_reducible refine Only.set ?_ (by first | exact Or.inl rfl | (right; dsimp only; omega)) _ | with_reducible refine Only.alloc ?_ _ | with_reducible refine Only.drewN ?_ _ | with_reducible refine Only.drew ?_))), ?_⟩
    rw [HE.out]
    refine ⟨rfl, ?_⟩
    repeat refine Blk.far ?_ (by dsimp only; omega) _
    refine RD.next ?_
    repeat refine Blk.far ?_ (by dsimp only; omega) _
    exact HD1.out
  · have HE : Hid (Rx.esc s.data.toList i = .ok ((CSet.between 63 63), false) (i + 1 + 1)) := HX 63 hc (by decide)
    clear HX
    rw [hc] at HP
    clear hc
    go_enter Tryd.func63, Tryd.ntmps63
    go_wp2_with fail
    refine (unhide HP _ HD.out).mono ?_
    rintro e w1 ⟨rfl, m1, rfl⟩
    go_wp2_with fail
    refine (unhide HO2 63 (by decide) _).mono ?_
    rintro e w1 ⟨rfl, hb⟩
    change Below (wesc2 w rb i m1).heap.size (wesc2 w rb i m1) w1 at hb
    have hd1 := Blk.call (wesc_rd HD.out m1) hb
    have hb1 := Blk.call (wesc_b1 w rb i m1) hb
    have hb2 := Blk.call (wesc_b2 w rb i m1) hb
    rw [wesc_size] at hb2
    (have g0 : w1.cell? ⟨rb, 0, none⟩ = some (.string s) := hd1.cell 0; have g1 : w1.cell? ⟨rb, 1, none⟩ = some (.int .i64 (((i+1) : Nat) : Int)) := hd1.cell 1; have g2 : w1.cell? ⟨rb, 2, none⟩ = some (.int .i64 ((op : Nat) : Int)) := hd1.cell 2; have gf : ∀ i, w1.frozen? ⟨rb, i, none⟩ = false := hd1.frozen)
    (have z0 : w1.cell? ⟨w.heap.size, 0, none⟩ = some (.int .u64 0) := hb1.cell 0; have z1 : w1.cell? ⟨w.heap.size, 1, none⟩ = some (.int .u64 0) := hb1.cell 1; have z2 : w1.cell? ⟨w.heap.size, 2, none⟩ = some (.int .u64 0) := hb1.cell 2; have z3 : w1.cell? ⟨w.heap.size, 3, none⟩ = some (.int .u64 0) := hb1.cell 3; have zf : ∀ i, w1.frozen? ⟨w.heap.size, i, none⟩ = false := hb1.frozen)
    (have y0 : w1.cell? ⟨(w.heap.size + 1), 0, none⟩ = some (.int .u64 0) := hb2.cell 0; have y1 : w1.cell? ⟨(w.heap.size + 1), 1, none⟩ = some (.int .u64 0) := hb2.cell 1; have y2 : w1.cell? ⟨(w.heap.size + 1), 2, none⟩ = some (.int .u64 0) := hb2.cell 2; have y3 : w1.cell? ⟨(w.heap.size + 1), 3, none⟩ = some (.int .u64 0) := hb2.cell 3; have yf : ∀ i, w1.frozen? ⟨(w.heap.size + 1), i, none⟩ = false := hb2.frozen)
    have hz1 : w.heap.size + 1 < w1.heap.size := hb2.lt
    have HO : Hid (Only rb w w1) := hid_mk ((wesc_only w rb i m1).call hb)
    have HD1 := hid_mk hd1
    clear hb hd1 hb1 hb2
    rw [wesc_size]
    go_wp2
    refine bodyPost_ret (v := .tuple #[.agg #[.int .u64 (((CSet.between 63 63)).a.toNat : Int), .int .u64 (((CSet.between 63 63)).b.toNat : Int), .int .u64 (((CSet.between 63 63)).c.toNat : Int), .int .u64 (((CSet.between 63 63)).d.toNat : Int)], .bool false]) (by simp [results, Tryd.results63, go_sem, z0, z1, z2, z3]) rfl ⟨(by have ho := HO.out; exact (by repeat (first | with_reducible exact Only.refl _ _ | with_reducible assumption | with_reducible refine Only.set ?_ (by first | exact Or.inl rfl | (right; dsimp only; omega)) _ | with_reducible refine Only.alloc ?_ _ | with_reducible refine Only.drewN ?_ _ | with_reducible refine Only.drew ?_))), ?_⟩
    rw [HE.out]
    refine ⟨rfl, ?_⟩
    repeat refine Blk.far ?_ (by dsimp only; omega) _
    refine RD.next ?_
    repeat refine Blk.far ?_ (by dsimp only; omega) _
    exact HD1.out
  · have HE : Hid (Rx.esc s.data.toList i = .ok ((CSet.between 45 45), false) (i + 1 + 1)) := HX 45 hc (by decide)
    clear HX
    rw [hc] at HP
    clear hc
    go_enter Tryd.func63, Tryd.ntmps63
    go_wp2_with fail
    refine (unhide HP _ HD.out).mono ?_
    rintro e w1 ⟨rfl, m1, rfl⟩
    go_wp2_with fail
    refine (unhide HO2 45 (by decide) _).mono ?_
    rintro e w1 ⟨rfl, hb⟩
    change Below (wesc2 w rb i m1).heap.size (wesc2 w rb i m1) w1 at hb
    have hd1 := Blk.call (wesc_rd HD.out m1) hb
    have hb1 := Blk.call (wesc_b1 w rb i m1) hb
    have hb2 := Blk.call (wesc_b2 w rb i m1) hb
    rw [wesc_size] at hb2
    (have g0 : w1.cell? ⟨rb, 0, none⟩ = some (.string s) := hd1.cell 0; have g1 : w1.cell? ⟨rb, 1, none⟩ = some (.int .i64 (((i+1) : Nat) : Int)) := hd1.cell 1; have g2 : w1.cell? ⟨rb, 2, none⟩ = some (.int .i64 ((op : Nat) : Int)) := hd1.cell 2; have gf : ∀ i, w1.frozen? ⟨rb, i, none⟩ = false := hd1.frozen)
    (have z0 : w1.cell? ⟨w.heap.size, 0, none⟩ = some (.int .u64 0) := hb1.cell 0; have z1 : w1.cell? ⟨w.heap.size, 1, none⟩ = some (.int .u64 0) := hb1.cell 1; have z2 : w1.cell? ⟨w.heap.size, 2, none⟩ = some (.int .u64 0) := hb1.cell 2; have z3 : w1.cell? ⟨w.heap.size, 3, none⟩ = some (.int .u64 0) := hb1.cell 3; have zf : ∀ i, w1.frozen? ⟨w.heap.size, i, none⟩ = false := hb1.frozen)
    (have y0 : w1.cell? ⟨(w.heap.size + 1), 0, none⟩ = some (.int .u64 0) := hb2.cell 0; have y1 : w1.cell? ⟨(w.heap.size + 1), 1, none⟩ = some (.int .u64 0) := hb2.cell 1; have y2 : w1.cell? ⟨(w.heap.size + 1), 2, none⟩ = some (.int .u64 0) := hb2.cell 2; have y3 : w1.cell? ⟨(w.heap.size + 1), 3, none⟩ = some (.int .u64 0) := hb2.cell 3; have yf : ∀ i, w1.frozen? ⟨(w.heap.size + 1), i, none⟩ = false := hb2.frozen)
    have hz1 : w.heap.size + 1 < w1.heap.size := hb2.lt
    have HO : Hid (Only rb w w1) := hid_mk ((wesc_only w rb i m1).call hb)
    have HD1 := hid_mk hd1
    clear hb hd1 hb1 hb2
    rw [wesc_size]
    go_wp2
    refine bodyPost_ret (v := .tuple #[.agg #[.int .u64 (((CSet.between 45 45)).a.toNat : Int), .int .u64 (((CSet.between 45 45)).b.toNat : Int), .int .u64 (((CSet.between 45 45)).c.toNat : Int), .int .u64 (((CSet.between 45 45)).d.toNat : Int)], .bool false]) (by simp [results, Tryd.results63, go_sem, z0, z1, z2, z3]) rfl ⟨(by have ho := HO.out; exact (by repeat (first | with_reducible exact Only.refl _ _ | with_reducible assumption | with_reducible refine Only.set ?_ (by first | exact Or.inl rfl | (right; dsimp only; omega)) _ | with_reducible refine Only.alloc ?_ _ | with_reducible refine Only.drewN ?_ _ | with_reducible refine Only.drew ?_))), ?_⟩
    rw [HE.out]
    refine ⟨rfl, ?_⟩
    repeat refine Blk.far ?_ (by dsimp only; omega) _
    refine RD.next ?_
    repeat refine Blk.far ?_ (by dsimp only; omega) _
    exact HD1.out
  · have HE : Hid (Rx.esc s.data.toList i = .ok ((CSet.between 94 94), false) (i + 1 + 1)) := HX 94 hc (by decide)
    clear HX
    rw [hc] at HP
    clear hc
    go_enter Tryd.func63, Tryd.ntmps63
    go_wp2_with fail
    refine (unhide HP _ HD.out).mono ?_
    rintro e w1 ⟨rfl, m1, rfl⟩
    go_wp2_with fail
    refine (unhide HO2 94 (by decide) _).mono ?_
    rintro e w1 ⟨rfl, hb⟩
    change Below (wesc2 w rb i m1).heap.size (wesc2 w rb i m1) w1 at hb
    have hd1 := Blk.call (wesc_rd HD.out m1) hb
    have hb1 := Blk.call (wesc_b1 w rb i m1) hb
    have hb2 := Blk.call (wesc_b2 w rb i m1) hb
    rw [wesc_size] at hb2
    (have g0 : w1.cell? ⟨rb, 0, none⟩ = some (.string s) := hd1.cell 0; have g1 : w1.cell? ⟨rb, 1, none⟩ = some (.int .i64 (((i+1) : Nat) : Int)) := hd1.cell 1; have g2 : w1.cell? ⟨rb, 2, none⟩ = some (.int .i64 ((op : Nat) : Int)) := hd1.cell 2; have gf : ∀ i, w1.frozen? ⟨rb, i, none⟩ = false := hd1.frozen)
    (have z0 : w1.cell? ⟨w.heap.size, 0, none⟩ = some (.int .u64 0) := hb1.cell 0; have z1 : w1.cell? ⟨w.heap.size, 1, none⟩ = some (.int .u64 0) := hb1.cell 1; have z2 : w1.cell? ⟨w.heap.size, 2, none⟩ = some (.int .u64 0) := hb1.cell 2; have z3 : w1.cell? ⟨w.heap.size, 3, none⟩ = some (.int .u64 0) := hb1.cell 3; have zf : ∀ i, w1.frozen? ⟨w.heap.size, i, none⟩ = false := hb1.frozen)
    (have y0 : w1.cell? ⟨(w.heap.size + 1), 0, none⟩ = some (.int .u64 0) := hb2.cell 0; have y1 : w1.cell? ⟨(w.heap.size + 1), 1, none⟩ = some (.int .u64 0) := hb2.cell 1; have y2 : w1.cell? ⟨(w.heap.size + 1), 2, none⟩ = some (.int .u64 0) := hb2.cell 2; have y3 : w1.cell? ⟨(w.heap.size + 1), 3, none⟩ = some (.int .u64 0) := hb2.cell 3; have yf : ∀ i, w1.frozen? ⟨(w.heap.size + 1), i, none⟩ = false := hb2.frozen)
    have hz1 : w.heap.size + 1 < w1.heap.size := hb2.lt
    have HO : Hid (Only rb w w1) := hid_mk ((wesc_only w rb i m1).call hb)
    have HD1 := hid_mk hd1
    clear hb hd1 hb1 hb2
    rw [wesc_size]
    go_wp2
    refine bodyPost_ret (v := .tuple #[.agg #[.int .u64 (((CSet.between 94 94)).a.toNat : Int), .int .u64 (((CSet.between 94 94)).b.toNat : Int), .int .u64 (((CSet.between 94 94)).c.toNat : Int), .int .u64 (((CSet.between 94 94)).d.toNat : Int)], .bool false]) (by simp [results, Tryd.results63, go_sem, z0, z1, z2, z3]) rfl ⟨(by have ho := HO.out; exact (by repeat (first | with_reducible exact Only.refl _ _ | with_reducible assumption | with_reducible refine Only.set ?_ (by first | exact Or.inl rfl | (right; dsimp only; omega)) _ | with_reducible refine Only.alloc ?_ _ | with_reducible refine Only.drewN ?_ _ | with_reducible refine Only.drew ?_))), ?_⟩
    rw [HE.out]
    refine ⟨rfl, ?_⟩
    repeat refine Blk.far ?_ (by dsimp only; omega) _
    refine RD.next ?_
    repeat refine Blk.far ?_ (by dsimp only; omega) _
    exact HD1.out
end Go.Proofs.YthgcefppeaopkaaDoor
