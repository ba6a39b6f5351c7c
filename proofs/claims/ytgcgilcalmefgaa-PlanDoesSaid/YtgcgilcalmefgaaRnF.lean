/- Walks: has a change a form (program and reference). -/
import Derived.Test.YtgcgilcalmefgaaRnW2
import Derived.Test.YtgcgilcalmefgaaWordR
namespace Go.Proofs.Ytgcgilcalmefgaa
open Go Go.RowKit Go.Sort
open Nm (word_any rword_any isEmpty_yes isEmpty_no)
set_option maxRecDepth 100000
set_option linter.unusedSimpArgs false
set_option linter.unusedVariables false
set_option maxHeartbeats 2000000
theorem empty_tests (x : ByteArray) : ((x.toList == []) = decide (x.size = 0)) ∧ ((x.toList != []) = !decide (x.size = 0)) ∧ (x.toList.isEmpty = decide (x.size = 0)) := by
  have h1 : (x.toList == []) = decide (x.size = 0) ∧ x.toList.isEmpty = decide (x.size = 0) := by
    by_cases h : x.size = 0
    · have := isEmpty_yes h
      constructor
      · rw [List.isEmpty_iff.1 this]; simp [h]
      · rw [this]; simp [h]
    · have h1 := isEmpty_no (s := x) (by omega)
      constructor
      · have : ¬ x.toList = [] := fun e => by rw [e] at h1; simp at h1
        simp [this, h]
      · rw [h1]; simp [h]
  exact ⟨h1.1, by rw [bne, h1.1], h1.2⟩
theorem zero_tests (n : Int) : ((n == 0) = decide (n = 0)) ∧ ((n != 0) = !decide (n = 0)) := ⟨by rw [Bool.eq_iff_iff]; simp, by rw [bne, Bool.eq_iff_iff]; simp⟩
theorem tt_tests (n : Nat) : (((n : Int) == 32) = decide (n = 32)) ∧ (((n : Int) != 32) = !decide (n = 32)) := by
  have h1 : ((n : Int) == 32) = decide (n = 32) := by rw [Bool.eq_iff_iff]; simp; omega
  exact ⟨h1, by rw [bne, h1]⟩
theorem form_other {e : Rn.E} (h1 : ¬ e.kind = 1) (h2 : ¬ e.kind = 2) (h3 : ¬ e.kind = 3) (h4 : ¬ e.kind = 4) : Rn.form e = false := by unfold Rn.form; rw [if_neg h1, if_neg h2, if_neg h3, if_neg h4]
theorem pform_1 (e : Rn.E) (w : World) (hn : e.ten.size ≤ maxLen) (hk : e.kind = 1) : Calls Try.prog 15 #[.agg #[.int .i64 (e).kind, .string (e).ten, .int .i64 (e).num, .int .i64 (e).epoch, .string (e).txt]] w (RetG (.bool (Rn.form e)) w) := by
  have HE : Hid (Rn.form e = (Nm.wordB e.ten.data.toList && Rn.fromB e.epoch 0 && Rn.fromB e.num 1 && decide (e.txt.size = 0))) := hid_mk (by unfold Rn.form; rw [if_pos hk])
  have hb0 : Below w.heap.size w (w.alloc (.cells #[.int .i64 (e).kind, .string (e).ten, .int .i64 (e).num, .int .i64 (e).epoch, .string (e).txt] 26)) := (Below.refl _ _).alloc (Nat.le_refl _) _
  have HWD := hide (word_any e.ten (w.alloc (.cells #[.int .i64 (e).kind, .string (e).ten, .int .i64 (e).num, .int .i64 (e).epoch, .string (e).txt] 26)) hn)
  have HF0 := hide (fun w => from_any e.epoch 0 w)
  have HF1 := hide (fun w => from_any e.num 1 w)
  have HB0 := hid_mk hb0
  have HX0 := hid_mk (Blk.new w #[.int .i64 (e).kind, .string (e).ten, .int .i64 (e).num, .int .i64 (e).epoch, .string (e).txt] 26)
  obtain ⟨k, t, n, ep, x⟩ := e
  dsimp only at *
  subst hk
  rw [HE.out]
  clear HE hb0 hn
  obtain ⟨tx1, tx2, tx3⟩ := empty_tests x
  generalize Nm.wordB t.data.toList = b0 at *
  generalize Rn.fromB ep 0 = b1 at *
  generalize Rn.fromB n 1 = b2 at *
  generalize decide (x.size = 0) = b3 at *
  go_enter Try.func15, Try.ntmps15
  go_wp2_with fail
  refine (unhide HWD).mono ?_
  rintro e w1 ⟨rfl, hb1⟩
  have HB1 := hid_mk (HB0.out.trans (hb1.mono HB0.out.size))
  have hx := HX0.out.call hb1
  (have y0 : w1.cell? ⟨w.heap.size, 0, none⟩ = some (.int .i64 1) := hx.cell 0; have y1 : w1.cell? ⟨w.heap.size, 1, none⟩ = some (.string t) := hx.cell 1; have y2 : w1.cell? ⟨w.heap.size, 2, none⟩ = some (.int .i64 n) := hx.cell 2; have y3 : w1.cell? ⟨w.heap.size, 3, none⟩ = some (.int .i64 ep) := hx.cell 3; have y4 : w1.cell? ⟨w.heap.size, 4, none⟩ = some (.string x) := hx.cell 4; have yf : ∀ i, w1.frozen? ⟨w.heap.size, i, none⟩ = false := hx.frozen)
  clear hb1 hx HX0
  cases b0 <;> cases b1 <;> cases b2 <;> cases b3
  all_goals
    (go_wp2_with (first | (go_at_call 35; (first | (with_reducible refine (unhide HF0 _).mono ?_) | (with_reducible refine (unhide HF1 _).mono ?_)); rintro e w2 ⟨rfl, rfl⟩)))
  all_goals first | exact bodyPost_ret (v := .bool false) (by simp [results, Try.results15, go_sem]) rfl ⟨rfl, HB1.out⟩ | exact bodyPost_ret (v := .bool true) (by simp [results, Try.results15, go_sem]) rfl ⟨rfl, HB1.out⟩
theorem pform_2 (e : Rn.E) (w : World) (hn : e.ten.size ≤ maxLen) (hk : e.kind = 2) : Calls Try.prog 15 #[.agg #[.int .i64 (e).kind, .string (e).ten, .int .i64 (e).num, .int .i64 (e).epoch, .string (e).txt]] w (RetG (.bool (Rn.form e)) w) := by
  have HE : Hid (Rn.form e = (Nm.wordB e.ten.data.toList && decide (e.epoch = 0) && Rn.fromB e.num 1 && decide (e.txt.size = 32))) := hid_mk (by unfold Rn.form; rw [if_neg (by rw [hk]; decide)]; rw [if_pos hk])
  have hb0 : Below w.heap.size w (w.alloc (.cells #[.int .i64 (e).kind, .string (e).ten, .int .i64 (e).num, .int .i64 (e).epoch, .string (e).txt] 26)) := (Below.refl _ _).alloc (Nat.le_refl _) _
  have HWD := hide (word_any e.ten (w.alloc (.cells #[.int .i64 (e).kind, .string (e).ten, .int .i64 (e).num, .int .i64 (e).epoch, .string (e).txt] 26)) hn)
  have HF0 := hide (fun w => from_any e.num 1 w)
  have HB0 := hid_mk hb0
  have HX0 := hid_mk (Blk.new w #[.int .i64 (e).kind, .string (e).ten, .int .i64 (e).num, .int .i64 (e).epoch, .string (e).txt] 26)
  obtain ⟨k, t, n, ep, x⟩ := e
  dsimp only at *
  subst hk
  rw [HE.out]
  clear HE hb0 hn
  obtain ⟨te1, te2⟩ := zero_tests ep
  obtain ⟨ts1, ts2⟩ := tt_tests x.size
  generalize Nm.wordB t.data.toList = b0 at *
  generalize decide (ep = 0) = b1 at *
  generalize Rn.fromB n 1 = b2 at *
  generalize decide (x.size = 32) = b3 at *
  go_enter Try.func15, Try.ntmps15
  go_wp2_with fail
  refine (unhide HWD).mono ?_
  rintro e w1 ⟨rfl, hb1⟩
  have HB1 := hid_mk (HB0.out.trans (hb1.mono HB0.out.size))
  have hx := HX0.out.call hb1
  (have y0 : w1.cell? ⟨w.heap.size, 0, none⟩ = some (.int .i64 2) := hx.cell 0; have y1 : w1.cell? ⟨w.heap.size, 1, none⟩ = some (.string t) := hx.cell 1; have y2 : w1.cell? ⟨w.heap.size, 2, none⟩ = some (.int .i64 n) := hx.cell 2; have y3 : w1.cell? ⟨w.heap.size, 3, none⟩ = some (.int .i64 ep) := hx.cell 3; have y4 : w1.cell? ⟨w.heap.size, 4, none⟩ = some (.string x) := hx.cell 4; have yf : ∀ i, w1.frozen? ⟨w.heap.size, i, none⟩ = false := hx.frozen)
  clear hb1 hx HX0
  cases b0 <;> cases b1 <;> cases b2 <;> cases b3
  all_goals
    (go_wp2_with (first | (go_at_call 35; (first | (with_reducible refine (unhide HF0 _).mono ?_)); rintro e w2 ⟨rfl, rfl⟩)))
  all_goals first | exact bodyPost_ret (v := .bool false) (by simp [results, Try.results15, go_sem]) rfl ⟨rfl, HB1.out⟩ | exact bodyPost_ret (v := .bool true) (by simp [results, Try.results15, go_sem]) rfl ⟨rfl, HB1.out⟩
theorem pform_3 (e : Rn.E) (w : World) (hn : e.ten.size ≤ maxLen) (hk : e.kind = 3) : Calls Try.prog 15 #[.agg #[.int .i64 (e).kind, .string (e).ten, .int .i64 (e).num, .int .i64 (e).epoch, .string (e).txt]] w (RetG (.bool (Rn.form e)) w) := by
  have HE : Hid (Rn.form e = (Nm.wordB e.ten.data.toList && decide (e.epoch = 0) && Rn.fromB e.num 1 && decide (e.txt.size = 0))) := hid_mk (by unfold Rn.form; rw [if_neg (by rw [hk]; decide)]; rw [if_neg (by rw [hk]; decide)]; rw [if_pos hk])
  have hb0 : Below w.heap.size w (w.alloc (.cells #[.int .i64 (e).kind, .string (e).ten, .int .i64 (e).num, .int .i64 (e).epoch, .string (e).txt] 26)) := (Below.refl _ _).alloc (Nat.le_refl _) _
  have HWD := hide (word_any e.ten (w.alloc (.cells #[.int .i64 (e).kind, .string (e).ten, .int .i64 (e).num, .int .i64 (e).epoch, .string (e).txt] 26)) hn)
  have HF0 := hide (fun w => from_any e.num 1 w)
  have HB0 := hid_mk hb0
  have HX0 := hid_mk (Blk.new w #[.int .i64 (e).kind, .string (e).ten, .int .i64 (e).num, .int .i64 (e).epoch, .string (e).txt] 26)
  obtain ⟨k, t, n, ep, x⟩ := e
  dsimp only at *
  subst hk
  rw [HE.out]
  clear HE hb0 hn
  obtain ⟨tx1, tx2, tx3⟩ := empty_tests x
  obtain ⟨te1, te2⟩ := zero_tests ep
  generalize Nm.wordB t.data.toList = b0 at *
  generalize decide (ep = 0) = b1 at *
  generalize Rn.fromB n 1 = b2 at *
  generalize decide (x.size = 0) = b3 at *
  go_enter Try.func15, Try.ntmps15
  go_wp2_with fail
  refine (unhide HWD).mono ?_
  rintro e w1 ⟨rfl, hb1⟩
  have HB1 := hid_mk (HB0.out.trans (hb1.mono HB0.out.size))
  have hx := HX0.out.call hb1
  (have y0 : w1.cell? ⟨w.heap.size, 0, none⟩ = some (.int .i64 3) := hx.cell 0; have y1 : w1.cell? ⟨w.heap.size, 1, none⟩ = some (.string t) := hx.cell 1; have y2 : w1.cell? ⟨w.heap.size, 2, none⟩ = some (.int .i64 n) := hx.cell 2; have y3 : w1.cell? ⟨w.heap.size, 3, none⟩ = some (.int .i64 ep) := hx.cell 3; have y4 : w1.cell? ⟨w.heap.size, 4, none⟩ = some (.string x) := hx.cell 4; have yf : ∀ i, w1.frozen? ⟨w.heap.size, i, none⟩ = false := hx.frozen)
  clear hb1 hx HX0
  cases b0 <;> cases b1 <;> cases b2 <;> cases b3
  all_goals
    (go_wp2_with (first | (go_at_call 35; (first | (with_reducible refine (unhide HF0 _).mono ?_)); rintro e w2 ⟨rfl, rfl⟩)))
  all_goals first | exact bodyPost_ret (v := .bool false) (by simp [results, Try.results15, go_sem]) rfl ⟨rfl, HB1.out⟩ | exact bodyPost_ret (v := .bool true) (by simp [results, Try.results15, go_sem]) rfl ⟨rfl, HB1.out⟩
theorem pform_4 (e : Rn.E) (w : World) (hn : e.ten.size ≤ maxLen) (hk : e.kind = 4) : Calls Try.prog 15 #[.agg #[.int .i64 (e).kind, .string (e).ten, .int .i64 (e).num, .int .i64 (e).epoch, .string (e).txt]] w (RetG (.bool (Rn.form e)) w) := by
  have HE : Hid (Rn.form e = (decide (e.ten.size = 0) && decide (e.epoch = 0) && Rn.fromB e.num 0 && decide (e.txt.size = 0))) := hid_mk (by unfold Rn.form; rw [if_neg (by rw [hk]; decide)]; rw [if_neg (by rw [hk]; decide)]; rw [if_neg (by rw [hk]; decide)]; rw [if_pos hk])
  have hb0 : Below w.heap.size w (w.alloc (.cells #[.int .i64 (e).kind, .string (e).ten, .int .i64 (e).num, .int .i64 (e).epoch, .string (e).txt] 26)) := (Below.refl _ _).alloc (Nat.le_refl _) _
  have HF0 := hide (fun w => from_any e.num 0 w)
  have HB0 := hid_mk hb0
  have HX0 := hid_mk (Blk.new w #[.int .i64 (e).kind, .string (e).ten, .int .i64 (e).num, .int .i64 (e).epoch, .string (e).txt] 26)
  obtain ⟨k, t, n, ep, x⟩ := e
  dsimp only at *
  subst hk
  rw [HE.out]
  clear HE hb0 hn
  obtain ⟨tx1, tx2, tx3⟩ := empty_tests x
  obtain ⟨tt1, tt2, tt3⟩ := empty_tests t
  obtain ⟨te1, te2⟩ := zero_tests ep
  generalize decide (t.size = 0) = b0 at *
  generalize decide (ep = 0) = b1 at *
  generalize Rn.fromB n 0 = b2 at *
  generalize decide (x.size = 0) = b3 at *
  go_enter Try.func15, Try.ntmps15
  have HB1 := HB0
  clear HX0
  cases b0 <;> cases b1 <;> cases b2 <;> cases b3
  all_goals
    (go_wp2_with (first | (go_at_call 35; (first | (with_reducible refine (unhide HF0 _).mono ?_)); rintro e w2 ⟨rfl, rfl⟩)))
  all_goals first | exact bodyPost_ret (v := .bool false) (by simp [results, Try.results15, go_sem]) rfl ⟨rfl, HB1.out⟩ | exact bodyPost_ret (v := .bool true) (by simp [results, Try.results15, go_sem]) rfl ⟨rfl, HB1.out⟩
theorem pform_o (e : Rn.E) (w : World) (h1 : ¬ e.kind = 1) (h2 : ¬ e.kind = 2) (h3 : ¬ e.kind = 3) (h4 : ¬ e.kind = 4) : Calls Try.prog 15 #[.agg #[.int .i64 (e).kind, .string (e).ten, .int .i64 (e).num, .int .i64 (e).epoch, .string (e).txt]] w (RetG (.bool (Rn.form e)) w) := by
  rw [form_other h1 h2 h3 h4]
  have hb0 : Below w.heap.size w (w.alloc (.cells #[.int .i64 (e).kind, .string (e).ten, .int .i64 (e).num, .int .i64 (e).epoch, .string (e).txt] 26)) := (Below.refl _ _).alloc (Nat.le_refl _) _
  have HB0 := hid_mk hb0
  obtain ⟨k, t, n, ep, x⟩ := e
  dsimp only at *
  clear hb0
  have e1 : (k == 1) = false := by simpa using h1
  have e2 : (k == 2) = false := by simpa using h2
  have e3 : (k == 3) = false := by simpa using h3
  have e4 : (k == 4) = false := by simpa using h4
  have l1 : k < 1 ∨ 4 < k := by omega
  have HL := hid_mk l1
  clear h1 h2 h3 h4 l1
  go_enter Try.func15, Try.ntmps15
  go_wp2
  exact bodyPost_ret (v := .bool false) (by simp [results, Try.results15, go_sem]) rfl ⟨rfl, HB0.out⟩
theorem pform_any (e : Rn.E) (w : World) (hn : e.ten.size ≤ maxLen) : Calls Try.prog 15 #[.agg #[.int .i64 (e).kind, .string (e).ten, .int .i64 (e).num, .int .i64 (e).epoch, .string (e).txt]] w (RetG (.bool (Rn.form e)) w) := by
  by_cases h1 : e.kind = 1
  · exact pform_1 e w hn h1
  by_cases h2 : e.kind = 2
  · exact pform_2 e w hn h2
  by_cases h3 : e.kind = 3
  · exact pform_3 e w hn h3
  by_cases h4 : e.kind = 4
  · exact pform_4 e w hn h4
  exact pform_o e w h1 h2 h3 h4
theorem rform_1 (e : Rn.E) (w : World) (hn : e.ten.size ≤ maxLen) (hk : e.kind = 1) : Calls Try.prog 16 #[.agg #[.int .i64 (e).kind, .string (e).ten, .int .i64 (e).num, .int .i64 (e).epoch, .string (e).txt]] w (RetG (.bool (Rn.form e)) w) := by
  have HE : Hid (Rn.form e = (Nm.wordB e.ten.data.toList && Rn.fromB e.epoch 0 && Rn.fromB e.num 1 && decide (e.txt.size = 0))) := hid_mk (by unfold Rn.form; rw [if_pos hk])
  have hb0 : Below w.heap.size w (w.alloc (.cells #[.int .i64 (e).kind, .string (e).ten, .int .i64 (e).num, .int .i64 (e).epoch, .string (e).txt] 26)) := (Below.refl _ _).alloc (Nat.le_refl _) _
  have HWD := hide (fun w => rword_any e.ten w hn)
  have HF0 := hide (fun w => in_any e.epoch 0 w)
  have HF1 := hide (fun w => in_any e.num 1 w)
  have HB0 := hid_mk hb0
  obtain ⟨k, t, n, ep, x⟩ := e
  dsimp only at *
  subst hk
  rw [HE.out]
  clear HE hb0 hn
  obtain ⟨tx1, tx2, tx3⟩ := empty_tests x
  generalize Nm.wordB t.data.toList = b0 at *
  generalize Rn.fromB ep 0 = b1 at *
  generalize Rn.fromB n 1 = b2 at *
  generalize decide (x.size = 0) = b3 at *
  cases b0 <;> cases b1 <;> cases b2 <;> cases b3
  all_goals
    go_enter Try.func16, Try.ntmps16
    go_wp2_with (first | (go_at_call 40; (with_reducible refine (unhide HWD _).mono ?_); rintro e w2 ⟨rfl, rfl⟩) | (go_at_call 39; (first | (with_reducible refine (unhide HF0 _).mono ?_) | (with_reducible refine (unhide HF1 _).mono ?_)); rintro e w2 ⟨rfl, rfl⟩))
  all_goals first | exact bodyPost_ret (v := .bool false) (by simp [results, Try.results16, go_sem]) rfl ⟨rfl, HB0.out⟩ | exact bodyPost_ret (v := .bool true) (by simp [results, Try.results16, go_sem]) rfl ⟨rfl, HB0.out⟩
theorem rform_2 (e : Rn.E) (w : World) (hn : e.ten.size ≤ maxLen) (hk : e.kind = 2) : Calls Try.prog 16 #[.agg #[.int .i64 (e).kind, .string (e).ten, .int .i64 (e).num, .int .i64 (e).epoch, .string (e).txt]] w (RetG (.bool (Rn.form e)) w) := by
  have HE : Hid (Rn.form e = (Nm.wordB e.ten.data.toList && decide (e.epoch = 0) && Rn.fromB e.num 1 && decide (e.txt.size = 32))) := hid_mk (by unfold Rn.form; rw [if_neg (by rw [hk]; decide)]; rw [if_pos hk])
  have hb0 : Below w.heap.size w (w.alloc (.cells #[.int .i64 (e).kind, .string (e).ten, .int .i64 (e).num, .int .i64 (e).epoch, .string (e).txt] 26)) := (Below.refl _ _).alloc (Nat.le_refl _) _
  have HWD := hide (fun w => rword_any e.ten w hn)
  have HF0 := hide (fun w => in_any e.num 1 w)
  have HFY := hide (fun w => in_any 0 0 w)
  rw [show Rn.fromB 0 0 = true from rfl] at HFY
  have HB0 := hid_mk hb0
  obtain ⟨k, t, n, ep, x⟩ := e
  dsimp only at *
  subst hk
  rw [HE.out]
  clear HE hb0 hn
  by_cases hz : ep = 0
  · subst hz
    rw [show decide ((0 : Int) = 0) = true from rfl]
    obtain ⟨ts1, ts2⟩ := tt_tests x.size
    generalize Nm.wordB t.data.toList = b0 at *
    generalize Rn.fromB n 1 = b2 at *
    generalize decide (x.size = 32) = b3 at *
    cases b0 <;> cases b2 <;> cases b3
    all_goals
      go_enter Try.func16, Try.ntmps16
      go_wp2_with (first | (go_at_call 40; (with_reducible refine (unhide HWD _).mono ?_); rintro e w2 ⟨rfl, rfl⟩) | (go_at_call 39; (first | (with_reducible refine (unhide HF0 _).mono ?_) | (with_reducible refine (unhide HFY _).mono ?_)); rintro e w2 ⟨rfl, rfl⟩))
    all_goals first | exact bodyPost_ret (v := .bool false) (by simp [results, Try.results16, go_sem]) rfl ⟨rfl, HB0.out⟩ | exact bodyPost_ret (v := .bool true) (by simp [results, Try.results16, go_sem]) rfl ⟨rfl, HB0.out⟩
  · have z1 : (ep == 0) = false := by simpa using hz
    have z2 : (ep != 0) = true := by simpa using hz
    rw [decide_eq_false hz]
    clear hz
    obtain ⟨ts1, ts2⟩ := tt_tests x.size
    generalize Nm.wordB t.data.toList = b0 at *
    generalize Rn.fromB n 1 = b2 at *
    generalize decide (x.size = 32) = b3 at *
    cases b0 <;> cases b2 <;> cases b3
    all_goals
      go_enter Try.func16, Try.ntmps16
      go_wp2_with (first | (go_at_call 40; (with_reducible refine (unhide HWD _).mono ?_); rintro e w2 ⟨rfl, rfl⟩) | (go_at_call 39; (first | (with_reducible refine (unhide HF0 _).mono ?_) | (with_reducible refine (unhide HFY _).mono ?_)); rintro e w2 ⟨rfl, rfl⟩))
    all_goals first | exact bodyPost_ret (v := .bool false) (by simp [results, Try.results16, go_sem]) rfl ⟨rfl, HB0.out⟩ | exact bodyPost_ret (v := .bool true) (by simp [results, Try.results16, go_sem]) rfl ⟨rfl, HB0.out⟩
theorem rform_3 (e : Rn.E) (w : World) (hn : e.ten.size ≤ maxLen) (hk : e.kind = 3) : Calls Try.prog 16 #[.agg #[.int .i64 (e).kind, .string (e).ten, .int .i64 (e).num, .int .i64 (e).epoch, .string (e).txt]] w (RetG (.bool (Rn.form e)) w) := by
  have HE : Hid (Rn.form e = (Nm.wordB e.ten.data.toList && decide (e.epoch = 0) && Rn.fromB e.num 1 && decide (e.txt.size = 0))) := hid_mk (by unfold Rn.form; rw [if_neg (by rw [hk]; decide)]; rw [if_neg (by rw [hk]; decide)]; rw [if_pos hk])
  have hb0 : Below w.heap.size w (w.alloc (.cells #[.int .i64 (e).kind, .string (e).ten, .int .i64 (e).num, .int .i64 (e).epoch, .string (e).txt] 26)) := (Below.refl _ _).alloc (Nat.le_refl _) _
  have HWD := hide (fun w => rword_any e.ten w hn)
  have HF0 := hide (fun w => in_any e.num 1 w)
  have HFY := hide (fun w => in_any 0 0 w)
  rw [show Rn.fromB 0 0 = true from rfl] at HFY
  have HB0 := hid_mk hb0
  obtain ⟨k, t, n, ep, x⟩ := e
  dsimp only at *
  subst hk
  rw [HE.out]
  clear HE hb0 hn
  by_cases hz : ep = 0
  · subst hz
    rw [show decide ((0 : Int) = 0) = true from rfl]
    obtain ⟨tx1, tx2, tx3⟩ := empty_tests x
    generalize Nm.wordB t.data.toList = b0 at *
    generalize Rn.fromB n 1 = b2 at *
    generalize decide (x.size = 0) = b3 at *
    cases b0 <;> cases b2 <;> cases b3
    all_goals
      go_enter Try.func16, Try.ntmps16
      go_wp2_with (first | (go_at_call 40; (with_reducible refine (unhide HWD _).mono ?_); rintro e w2 ⟨rfl, rfl⟩) | (go_at_call 39; (first | (with_reducible refine (unhide HF0 _).mono ?_) | (with_reducible refine (unhide HFY _).mono ?_)); rintro e w2 ⟨rfl, rfl⟩))
    all_goals first | exact bodyPost_ret (v := .bool false) (by simp [results, Try.results16, go_sem]) rfl ⟨rfl, HB0.out⟩ | exact bodyPost_ret (v := .bool true) (by simp [results, Try.results16, go_sem]) rfl ⟨rfl, HB0.out⟩
  · have z1 : (ep == 0) = false := by simpa using hz
    have z2 : (ep != 0) = true := by simpa using hz
    rw [decide_eq_false hz]
    clear hz
    obtain ⟨tx1, tx2, tx3⟩ := empty_tests x
    generalize Nm.wordB t.data.toList = b0 at *
    generalize Rn.fromB n 1 = b2 at *
    generalize decide (x.size = 0) = b3 at *
    cases b0 <;> cases b2 <;> cases b3
    all_goals
      go_enter Try.func16, Try.ntmps16
      go_wp2_with (first | (go_at_call 40; (with_reducible refine (unhide HWD _).mono ?_); rintro e w2 ⟨rfl, rfl⟩) | (go_at_call 39; (first | (with_reducible refine (unhide HF0 _).mono ?_) | (with_reducible refine (unhide HFY _).mono ?_)); rintro e w2 ⟨rfl, rfl⟩))
    all_goals first | exact bodyPost_ret (v := .bool false) (by simp [results, Try.results16, go_sem]) rfl ⟨rfl, HB0.out⟩ | exact bodyPost_ret (v := .bool true) (by simp [results, Try.results16, go_sem]) rfl ⟨rfl, HB0.out⟩
theorem rform_4 (e : Rn.E) (w : World) (hn : e.ten.size ≤ maxLen) (hk : e.kind = 4) : Calls Try.prog 16 #[.agg #[.int .i64 (e).kind, .string (e).ten, .int .i64 (e).num, .int .i64 (e).epoch, .string (e).txt]] w (RetG (.bool (Rn.form e)) w) := by
  have HE : Hid (Rn.form e = (decide (e.ten.size = 0) && decide (e.epoch = 0) && Rn.fromB e.num 0 && decide (e.txt.size = 0))) := hid_mk (by unfold Rn.form; rw [if_neg (by rw [hk]; decide)]; rw [if_neg (by rw [hk]; decide)]; rw [if_neg (by rw [hk]; decide)]; rw [if_pos hk])
  have hb0 : Below w.heap.size w (w.alloc (.cells #[.int .i64 (e).kind, .string (e).ten, .int .i64 (e).num, .int .i64 (e).epoch, .string (e).txt] 26)) := (Below.refl _ _).alloc (Nat.le_refl _) _
  have HF0 := hide (fun w => in_any e.num 0 w)
  have HB0 := hid_mk hb0
  obtain ⟨k, t, n, ep, x⟩ := e
  dsimp only at *
  subst hk
  rw [HE.out]
  clear HE hb0 hn
  by_cases hz : ep = 0
  · subst hz
    rw [show decide ((0 : Int) = 0) = true from rfl]
    obtain ⟨tx1, tx2, tx3⟩ := empty_tests x
    obtain ⟨tt1, tt2, tt3⟩ := empty_tests t
    generalize decide (t.size = 0) = b0 at *
    generalize Rn.fromB n 0 = b2 at *
    generalize decide (x.size = 0) = b3 at *
    cases b0 <;> cases b2 <;> cases b3
    all_goals
      go_enter Try.func16, Try.ntmps16
      go_wp2_with (first | (go_at_call 39; (first | (with_reducible refine (unhide HF0 _).mono ?_)); rintro e w2 ⟨rfl, rfl⟩))
    all_goals first | exact bodyPost_ret (v := .bool false) (by simp [results, Try.results16, go_sem]) rfl ⟨rfl, HB0.out⟩ | exact bodyPost_ret (v := .bool true) (by simp [results, Try.results16, go_sem]) rfl ⟨rfl, HB0.out⟩
  · have z1 : (ep == 0) = false := by simpa using hz
    have z2 : (ep != 0) = true := by simpa using hz
    rw [decide_eq_false hz]
    clear hz
    obtain ⟨tx1, tx2, tx3⟩ := empty_tests x
    obtain ⟨tt1, tt2, tt3⟩ := empty_tests t
    generalize decide (t.size = 0) = b0 at *
    generalize Rn.fromB n 0 = b2 at *
    generalize decide (x.size = 0) = b3 at *
    cases b0 <;> cases b2 <;> cases b3
    all_goals
      go_enter Try.func16, Try.ntmps16
      go_wp2_with (first | (go_at_call 39; (first | (with_reducible refine (unhide HF0 _).mono ?_)); rintro e w2 ⟨rfl, rfl⟩))
    all_goals first | exact bodyPost_ret (v := .bool false) (by simp [results, Try.results16, go_sem]) rfl ⟨rfl, HB0.out⟩ | exact bodyPost_ret (v := .bool true) (by simp [results, Try.results16, go_sem]) rfl ⟨rfl, HB0.out⟩
theorem rform_o (e : Rn.E) (w : World) (h1 : ¬ e.kind = 1) (h2 : ¬ e.kind = 2) (h3 : ¬ e.kind = 3) (h4 : ¬ e.kind = 4) : Calls Try.prog 16 #[.agg #[.int .i64 (e).kind, .string (e).ten, .int .i64 (e).num, .int .i64 (e).epoch, .string (e).txt]] w (RetG (.bool (Rn.form e)) w) := by
  rw [form_other h1 h2 h3 h4]
  have hb0 : Below w.heap.size w (w.alloc (.cells #[.int .i64 (e).kind, .string (e).ten, .int .i64 (e).num, .int .i64 (e).epoch, .string (e).txt] 26)) := (Below.refl _ _).alloc (Nat.le_refl _) _
  have HB0 := hid_mk hb0
  obtain ⟨k, t, n, ep, x⟩ := e
  dsimp only at *
  clear hb0
  have e1 : (k == 1) = false := by simpa using h1
  have e2 : (k == 2) = false := by simpa using h2
  have e3 : (k == 3) = false := by simpa using h3
  have e4 : (k == 4) = false := by simpa using h4
  have l1 : k < 1 ∨ 4 < k := by omega
  have HL := hid_mk l1
  clear h1 h2 h3 h4 l1
  by_cases g1 : k < 1
  · have d1 : decide (k < 1) = true := by simpa using g1
    go_enter Try.func16, Try.ntmps16
    go_wp2
    exact bodyPost_ret (v := .bool false) (by simp [results, Try.results16, go_sem]) rfl ⟨rfl, HB0.out⟩
  · have d1 : decide (k < 1) = false := by simpa using g1
    have d2 : decide (4 < k) = true := by have := HL.out; simp; omega
    go_enter Try.func16, Try.ntmps16
    go_wp2
    exact bodyPost_ret (v := .bool false) (by simp [results, Try.results16, go_sem]) rfl ⟨rfl, HB0.out⟩
theorem rform_any (e : Rn.E) (w : World) (hn : e.ten.size ≤ maxLen) : Calls Try.prog 16 #[.agg #[.int .i64 (e).kind, .string (e).ten, .int .i64 (e).num, .int .i64 (e).epoch, .string (e).txt]] w (RetG (.bool (Rn.form e)) w) := by
  by_cases h1 : e.kind = 1
  · exact rform_1 e w hn h1
  by_cases h2 : e.kind = 2
  · exact rform_2 e w hn h2
  by_cases h3 : e.kind = 3
  · exact rform_3 e w hn h3
  by_cases h4 : e.kind = 4
  · exact rform_4 e w hn h4
  exact rform_o e w h1 h2 h3 h4
end Go.Proofs.Ytgcgilcalmefgaa
