/- Walks over the pattern reader: escapes. -/
import Derived.Test.YthgcefppeaopkaaDoorReadW4
namespace Go.Proofs.YthgcefppeaopkaaDoor
open Go Go.RowKit
set_option maxRecDepth 100000
set_option linter.unusedSimpArgs false
set_option linter.unusedVariables false
set_option maxHeartbeats 1000000
def RetEsc (s : ByteArray) (rb op : Nat) (r : Res (CSet × Bool)) (w : World) (x : Ending) (w' : World) : Prop :=
  Only rb w w' ∧ match r with
  | .ok (S, many) p => x = .returned (.tuple #[.agg #[.int .u64 ((S).a.toNat : Int), .int .u64 ((S).b.toNat : Int), .int .u64 ((S).c.toNat : Int), .int .u64 ((S).d.toNat : Int)], .bool many]) ∧ RD s rb p op w'
  | .bad e p => x = .panicked (faultV e p)
  | .out => True
theorem wrong_end (s : ByteArray) (rb i op : Nat) (w : World) (h : RD s rb i op w) (hs : s.size ≤ 1000) (hi : i ≤ 2000) (hc : Rx.pk s.data.toList i = -1) : Calls Tryd.prog 28 #[.pointer (some ⟨rb, 0, none⟩)] w
    (RetBad rb 1 (s.size : Nat) w) := by
  have := wrong_any s rb i op w h hs hi
  rwa [hc] at this
theorem wrong_form (s : ByteArray) (rb i op : Nat) (w : World) (h : RD s rb i op w) (hs : s.size ≤ 1000) (hi : i ≤ 2000) (hc : 0 ≤ Rx.pk s.data.toList i) : Calls Tryd.prog 28 #[.pointer (some ⟨rb, 0, none⟩)] w
    (RetBad rb 2 i w) := by
  have := wrong_any s rb i op w h hs hi
  rwa [if_neg (by omega), if_neg (by omega)] at this
theorem Blk.new2 (w : World) (p : Addr) (u : Value) (cs : Array Value) (t : TypeId) : Blk ((w.setCell p u).alloc (.cells cs t)) w.heap.size cs t := by
  have := Blk.new (w.setCell p u) cs t
  rwa [show (w.setCell p u).heap.size = w.heap.size by simp [World.setCell]] at this
/-- behind the first steps of escape -/
def wesc (w : World) (rb i : Nat) : World := (w.setCell ⟨rb, 1, none⟩ (.int .i64 ((i : Int) + 1))).alloc (.cells #[.int .u64 0, .int .u64 0, .int .u64 0, .int .u64 0] 25)
/-- behind the byte -/
def wesc2 (w : World) (rb i m : Nat) : World := ((wesc w rb i).alloc (.cells #[.int .u64 0, .int .u64 0, .int .u64 0, .int .u64 0] 25)).drewN m
theorem wesc_size (w : World) (rb i : Nat) : (wesc w rb i).heap.size = w.heap.size + 1 := by simp [wesc, World.setCell, World.alloc]
theorem wesc_rd {s : ByteArray} {rb i op : Nat} {w : World} (h : RD s rb (i + 1) op (wesc w rb i)) (m : Nat) : RD s rb (i + 1) op (wesc2 w rb i m) := Blk.drewN (Blk.alloc h _) m
theorem wesc_b1 (w : World) (rb i m : Nat) : Blk (wesc2 w rb i m) w.heap.size #[.int .u64 0, .int .u64 0, .int .u64 0, .int .u64 0] 25 := Blk.drewN (Blk.alloc (Blk.new2 _ _ _ _ _) _) m
theorem wesc_b2 (w : World) (rb i m : Nat) : Blk (wesc2 w rb i m) (wesc w rb i).heap.size #[.int .u64 0, .int .u64 0, .int .u64 0, .int .u64 0] 25 := Blk.drewN (Blk.new _ _ _) m
theorem wesc_only (w : World) (rb i m : Nat) : Only rb w (wesc2 w rb i m) := by unfold wesc2 wesc; exact (by repeat (first | exact Only.refl _ _ | assumption | refine Only.set ?_ (by first | exact Or.inl rfl | (right; dsimp only; omega)) _ | refine Only.alloc ?_ _ | refine Only.drewN ?_ _ | refine Only.drew ?_))
theorem escape_end (s : ByteArray) (rb i op : Nat) (w : World) (h : RD s rb i op w) (hs : s.size ≤ 1000) (hi : i ≤ s.size) (hc : Rx.pk s.data.toList (i + 1) = -1) :
    Calls Tryd.prog 63 #[.pointer (some ⟨rb, 0, none⟩)] w (RetEsc s rb op (Rx.esc s.data.toList i) w) := by
  have HE : Hid (Rx.esc s.data.toList i = .bad 1 s.size) := hid_mk (by unfold Rx.esc; rw [if_pos hc, len_data])
  have HP := hide (fun a (h : RD s rb (i + 1) op a) => peek_any s rb (i + 1) op a h hs (by omega))
  have HW := hide (fun a (h : RD s rb (i + 1) op a) => wrong_end s rb (i + 1) op a h hs (by omega) hc)
  rw [hc] at HP
  clear hc
  have hA : RD s rb i op (w.alloc (.cells #[.int .u64 0, .int .u64 0, .int .u64 0, .int .u64 0] 25)) := Blk.alloc h _
  have hl : rb < w.heap.size := h.lt
  (have h0 : (w.alloc (.cells #[.int .u64 0, .int .u64 0, .int .u64 0, .int .u64 0] 25)).cell? ⟨rb, 0, none⟩ = some (.string s) := hA.cell 0; have h1 : (w.alloc (.cells #[.int .u64 0, .int .u64 0, .int .u64 0, .int .u64 0] 25)).cell? ⟨rb, 1, none⟩ = some (.int .i64 ((i : Nat) : Int)) := hA.cell 1; have h2 : (w.alloc (.cells #[.int .u64 0, .int .u64 0, .int .u64 0, .int .u64 0] 25)).cell? ⟨rb, 2, none⟩ = some (.int .i64 ((op : Nat) : Int)) := hA.cell 2; have hf : ∀ i, (w.alloc (.cells #[.int .u64 0, .int .u64 0, .int .u64 0, .int .u64 0] 25)).frozen? ⟨rb, i, none⟩ = false := hA.frozen)
  have HD : Hid (RD s rb (i + 1) op (wesc w rb i)) := hid_mk (Blk.alloc h.next _)
  clear h hA
  go_enter Tryd.func63, Tryd.ntmps63
  go_wp2_with fail
  refine (unhide HP _ HD.out).mono ?_
  rintro e w1 ⟨rfl, m1, rfl⟩
  go_wp2_with fail
  refine (unhide HW _ (wesc_rd HD.out _)).mono ?_
  rintro e w1 ⟨rfl, ho⟩
  exact ⟨rfl, (Only.refl rb w).via ho (wesc_only _ _ _ _), by rw [HE.out] <;> exact rfl⟩
theorem escape_digits (s : ByteArray) (rb i op : Nat) (w : World) (h : RD s rb i op w) (hs : s.size ≤ 1000) (hi : i ≤ s.size) (hc : Rx.pk s.data.toList (i + 1) = 100) :
    Calls Tryd.prog 63 #[.pointer (some ⟨rb, 0, none⟩)] w (RetEsc s rb op (Rx.esc s.data.toList i) w) := by
  have HP := hide (fun a (h : RD s rb (i + 1) op a) => peek_any s rb (i + 1) op a h hs (by omega))
  have hA : RD s rb i op (w.alloc (.cells #[.int .u64 0, .int .u64 0, .int .u64 0, .int .u64 0] 25)) := Blk.alloc h _
  have hl : rb < w.heap.size := h.lt
  (have h0 : (w.alloc (.cells #[.int .u64 0, .int .u64 0, .int .u64 0, .int .u64 0] 25)).cell? ⟨rb, 0, none⟩ = some (.string s) := hA.cell 0; have h1 : (w.alloc (.cells #[.int .u64 0, .int .u64 0, .int .u64 0, .int .u64 0] 25)).cell? ⟨rb, 1, none⟩ = some (.int .i64 ((i : Nat) : Int)) := hA.cell 1; have h2 : (w.alloc (.cells #[.int .u64 0, .int .u64 0, .int .u64 0, .int .u64 0] 25)).cell? ⟨rb, 2, none⟩ = some (.int .i64 ((op : Nat) : Int)) := hA.cell 2; have hf : ∀ i, (w.alloc (.cells #[.int .u64 0, .int .u64 0, .int .u64 0, .int .u64 0] 25)).frozen? ⟨rb, i, none⟩ = false := hA.frozen)
  have HD : Hid (RD s rb (i + 1) op (wesc w rb i)) := hid_mk (Blk.alloc h.next _)
  clear h hA
  have HE : Hid (Rx.esc s.data.toList i = .ok (Rx.digits, true) (i + 1 + 1)) := hid_mk (by unfold Rx.esc; rw [hc]; rfl)
  rw [hc] at HP
  clear hc
  go_enter Tryd.func63, Tryd.ntmps63
  go_wp2_with fail
  refine (unhide HP _ HD.out).mono ?_
  rintro e w1 ⟨rfl, m1, rfl⟩
  go_wp2_with fail
  refine (digits_any _).mono ?_
  rintro e w1 ⟨rfl, hb⟩
  change Below (wesc2 w rb i m1).heap.size (wesc2 w rb i m1) w1 at hb
  have hd1 := Blk.call (wesc_rd HD.out m1) hb
  have hb1 := Blk.call (wesc_b1 w rb i m1) hb
  have hb2 := Blk.call (wesc_b2 w rb i m1) hb
  rw [wesc_size] at hb2
  (have g0 : w1.cell? ⟨rb, 0, none⟩ = some (.string s) := hd1.cell 0; have g1 : w1.cell? ⟨rb, 1, none⟩ = some (.int .i64 (((i+1) : Nat) : Int)) := hd1.cell 1; have g2 : w1.cell? ⟨rb, 2, none⟩ = some (.int .i64 ((op : Nat) : Int)) := hd1.cell 2; have gf : ∀ i, w1.frozen? ⟨rb, i, none⟩ = false := hd1.frozen)
  (have z0 : w1.cell? ⟨w.heap.size, 0, none⟩ = some (.int .u64 0) := hb1.cell 0; have z1 : w1.cell? ⟨w.heap.size, 1, none⟩ = some (.int .u64 0) := hb1.cell 1; have z2 : w1.cell? ⟨w.heap.size, 2, none⟩ = some (.int .u64 0) := hb1.cell 2; have z3 : w1.cell? ⟨w.heap.size, 3, none⟩ = some (.int .u64 0) := hb1.cell 3; have zf : ∀ i, w1.frozen? ⟨w.heap.size, i, none⟩ = false := hb1.frozen)
  (have y0 : w1.cell? ⟨(w.heap.size + 1), 0, none⟩ = some (.int .u64 0) := hb2.cell 0; have y1 : w1.cell? ⟨(w.heap.size + 1), 1, none⟩ = some (.int .u64 0) := hb2.cell 1; have y2 : w1.cell? ⟨(w.heap.size + 1), 2, none⟩ = some (.int .u64 0) := hb2.cell 2; have y3 : w1.cell? ⟨(w.heap.size + 1), 3, none⟩ = some (.int .u64 0) := hb2.cell 3; have yf : ∀ i, w1.frozen? ⟨(w.heap.size + 1), i, none⟩ = false := hb2.frozen)
  have hz1 : w.heap.size + 1 < w1.heap.size := hb2.lt
  have HO : Hid (Only rb w w1) := hid_mk ((wesc_only w rb i m1).call hb)
  have HD1 := hid_mk hd1
  clear hb hd1 hb1 hb2
  rw [wesc_size]
  go_wp2
  refine bodyPost_ret (v := .tuple #[.agg #[.int .u64 ((Rx.digits).a.toNat : Int), .int .u64 ((Rx.digits).b.toNat : Int), .int .u64 ((Rx.digits).c.toNat : Int), .int .u64 ((Rx.digits).d.toNat : Int)], .bool true]) (by simp [results, Tryd.results63, go_sem, z0, z1, z2, z3]) rfl ⟨(by have ho := HO.out; exact (by repeat (first | with_reducible exact Only.refl _ _ | with_reducible assumption | with_reducible refine Only.set ?_ (by first | exact Or.inl rfl | (right; dsimp only; omega)) _ | with_reducible refine Only.alloc ?_ _ | with_reducible refine Only.drewN ?_ _ | with_reducible refine Only.drew ?_))), ?_⟩
  rw [HE.out]
  refine ⟨rfl, ?_⟩
  repeat refine Blk.far ?_ (by dsimp only; omega) _
  refine RD.next ?_
  repeat refine Blk.far ?_ (by dsimp only; omega) _
  exact HD1.out
theorem escape_words (s : ByteArray) (rb i op : Nat) (w : World) (h : RD s rb i op w) (hs : s.size ≤ 1000) (hi : i ≤ s.size) (hc : Rx.pk s.data.toList (i + 1) = 119) :
    Calls Tryd.prog 63 #[.pointer (some ⟨rb, 0, none⟩)] w (RetEsc s rb op (Rx.esc s.data.toList i) w) := by
  have HP := hide (fun a (h : RD s rb (i + 1) op a) => peek_any s rb (i + 1) op a h hs (by omega))
  have hA : RD s rb i op (w.alloc (.cells #[.int .u64 0, .int .u64 0, .int .u64 0, .int .u64 0] 25)) := Blk.alloc h _
  have hl : rb < w.heap.size := h.lt
  (have h0 : (w.alloc (.cells #[.int .u64 0, .int .u64 0, .int .u64 0, .int .u64 0] 25)).cell? ⟨rb, 0, none⟩ = some (.string s) := hA.cell 0; have h1 : (w.alloc (.cells #[.int .u64 0, .int .u64 0, .int .u64 0, .int .u64 0] 25)).cell? ⟨rb, 1, none⟩ = some (.int .i64 ((i : Nat) : Int)) := hA.cell 1; have h2 : (w.alloc (.cells #[.int .u64 0, .int .u64 0, .int .u64 0, .int .u64 0] 25)).cell? ⟨rb, 2, none⟩ = some (.int .i64 ((op : Nat) : Int)) := hA.cell 2; have hf : ∀ i, (w.alloc (.cells #[.int .u64 0, .int .u64 0, .int .u64 0, .int .u64 0] 25)).frozen? ⟨rb, i, none⟩ = false := hA.frozen)
  have HD : Hid (RD s rb (i + 1) op (wesc w rb i)) := hid_mk (Blk.alloc h.next _)
  clear h hA
  have HE : Hid (Rx.esc s.data.toList i = .ok (Rx.words, true) (i + 1 + 1)) := hid_mk (by unfold Rx.esc; rw [hc]; rfl)
  rw [hc] at HP
  clear hc
  go_enter Tryd.func63, Tryd.ntmps63
  go_wp2_with fail
  refine (unhide HP _ HD.out).mono ?_
  rintro e w1 ⟨rfl, m1, rfl⟩
  go_wp2_with fail
  refine (words_any _).mono ?_
  rintro e w1 ⟨rfl, hb⟩
  change Below (wesc2 w rb i m1).heap.size (wesc2 w rb i m1) w1 at hb
  have hd1 := Blk.call (wesc_rd HD.out m1) hb
  have hb1 := Blk.call (wesc_b1 w rb i m1) hb
  have hb2 := Blk.call (wesc_b2 w rb i m1) hb
  rw [wesc_size] at hb2
  (have g0 : w1.cell? ⟨rb, 0, none⟩ = some (.string s) := hd1.cell 0; have g1 : w1.cell? ⟨rb, 1, none⟩ = some (.int .i64 (((i+1) : Nat) : Int)) := hd1.cell 1; have g2 : w1.cell? ⟨rb, 2, none⟩ = some (.int .i64 ((op : Nat) : Int)) := hd1.cell 2; have gf : ∀ i, w1.frozen? ⟨rb, i, none⟩ = false := hd1.frozen)
  (have z0 : w1.cell? ⟨w.heap.size, 0, none⟩ = some (.int .u64 0) := hb1.cell 0; have z1 : w1.cell? ⟨w.heap.size, 1, none⟩ = some (.int .u64 0) := hb1.cell 1; have z2 : w1.cell? ⟨w.heap.size, 2, none⟩ = some (.int .u64 0) := hb1.cell 2; have z3 : w1.cell? ⟨w.heap.size, 3, none⟩ = some (.int .u64 0) := hb1.cell 3; have zf : ∀ i, w1.frozen? ⟨w.heap.size, i, none⟩ = false := hb1.frozen)
  (have y0 : w1.cell? ⟨(w.heap.size + 1), 0, none⟩ = some (.int .u64 0) := hb2.cell 0; have y1 : w1.cell? ⟨(w.heap.size + 1), 1, none⟩ = some (.int .u64 0) := hb2.cell 1; have y2 : w1.cell? ⟨(w.heap.size + 1), 2, none⟩ = some (.int .u64 0) := hb2.cell 2; have y3 : w1.cell? ⟨(w.heap.size + 1), 3, none⟩ = some (.int .u64 0) := hb2.cell 3; have yf : ∀ i, w1.frozen? ⟨(w.heap.size + 1), i, none⟩ = false := hb2.frozen)
  have hz1 : w.heap.size + 1 < w1.heap.size := hb2.lt
  have HO : Hid (Only rb w w1) := hid_mk ((wesc_only w rb i m1).call hb)
  have HD1 := hid_mk hd1
  clear hb hd1 hb1 hb2
  rw [wesc_size]
  go_wp2
  refine bodyPost_ret (v := .tuple #[.agg #[.int .u64 ((Rx.words).a.toNat : Int), .int .u64 ((Rx.words).b.toNat : Int), .int .u64 ((Rx.words).c.toNat : Int), .int .u64 ((Rx.words).d.toNat : Int)], .bool true]) (by simp [results, Tryd.results63, go_sem, z0, z1, z2, z3]) rfl ⟨(by have ho := HO.out; exact (by repeat (first | with_reducible exact Only.refl _ _ | with_reducible assumption | with_reducible refine Only.set ?_ (by first | exact Or.inl rfl | (right; dsimp only; omega)) _ | with_reducible refine Only.alloc ?_ _ | with_reducible refine Only.drewN ?_ _ | with_reducible refine Only.drew ?_))), ?_⟩
  rw [HE.out]
  refine ⟨rfl, ?_⟩
  repeat refine Blk.far ?_ (by dsimp only; omega) _
  refine RD.next ?_
  repeat refine Blk.far ?_ (by dsimp only; omega) _
  exact HD1.out
theorem escape_form (s : ByteArray) (rb i op : Nat) (w : World) (h : RD s rb i op w) (hs : s.size ≤ 1000) (hi : i ≤ s.size) (h1 : Rx.pk s.data.toList (i + 1) ≠ -1) (h2 : Rx.pk s.data.toList (i + 1) ≠ 100) (h3 : Rx.pk s.data.toList (i + 1) ≠ 119) (h4 : Rx.pk s.data.toList (i + 1) ≠ 120) (h5 : Rx.plainB (Rx.pk s.data.toList (i + 1)) = false) :
    Calls Tryd.prog 63 #[.pointer (some ⟨rb, 0, none⟩)] w (RetEsc s rb op (Rx.esc s.data.toList i) w) := by
  have HP := hide (fun a (h : RD s rb (i + 1) op a) => peek_any s rb (i + 1) op a h hs (by omega))
  have HE : Hid (Rx.esc s.data.toList i = .bad 2 i) := hid_mk (by unfold Rx.esc; rw [if_neg h1, if_neg h2, if_neg h3, if_neg h4, h5]; rfl)
  have hA : RD s rb i op (w.alloc (.cells #[.int .u64 0, .int .u64 0, .int .u64 0, .int .u64 0] 25)) := Blk.alloc h _
  have hl : rb < w.heap.size := h.lt
  (have k0 : (w.alloc (.cells #[.int .u64 0, .int .u64 0, .int .u64 0, .int .u64 0] 25)).cell? ⟨rb, 0, none⟩ = some (.string s) := hA.cell 0; have k1 : (w.alloc (.cells #[.int .u64 0, .int .u64 0, .int .u64 0, .int .u64 0] 25)).cell? ⟨rb, 1, none⟩ = some (.int .i64 ((i : Nat) : Int)) := hA.cell 1; have k2 : (w.alloc (.cells #[.int .u64 0, .int .u64 0, .int .u64 0, .int .u64 0] 25)).cell? ⟨rb, 2, none⟩ = some (.int .i64 ((op : Nat) : Int)) := hA.cell 2; have kf : ∀ i, (w.alloc (.cells #[.int .u64 0, .int .u64 0, .int .u64 0, .int .u64 0] 25)).frozen? ⟨rb, i, none⟩ = false := hA.frozen)
  have HD : Hid (RD s rb (i + 1) op (wesc w rb i)) := hid_mk (Blk.alloc h.next _)
  clear h hA
  generalize Rx.pk s.data.toList (i + 1) = c at *
  have h6 : c ≠ 92 ∧ c ≠ 46 ∧ c ≠ 91 ∧ c ≠ 93 ∧ c ≠ 40 ∧ c ≠ 41 ∧ c ≠ 123 ∧ c ≠ 125 ∧ c ≠ 124 ∧ c ≠ 42 ∧ c ≠ 43 ∧ c ≠ 63 ∧ c ≠ 45 ∧ c ≠ 94 := by simpa [Rx.plainB] using h5
  clear h5
  obtain ⟨a1, a2, a3, a4, a5, a6, a7, a8, a9, a10, a11, a12, a13, a14⟩ := h6
  go_enter Tryd.func63, Tryd.ntmps63
  go_wp2_with fail
  refine (unhide HP _ HD.out).mono ?_
  rintro e w1 ⟨rfl, m1, rfl⟩
  go_wp2_with fail
  refine (fail_any _ _ _).mono ?_
  rintro e w1 ⟨rfl, rfl⟩
  exact ⟨rfl, wesc_only w rb i m1, by rw [HE.out] <;> exact rfl⟩
end Go.Proofs.YthgcefppeaopkaaDoor
