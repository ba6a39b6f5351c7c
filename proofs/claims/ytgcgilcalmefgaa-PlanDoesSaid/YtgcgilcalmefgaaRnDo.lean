/- Walks: ring.do: a change done in a state of one's own, as Rn.doE. -/
import Derived.Test.YtgcgilcalmefgaaRnEK
namespace Go.Proofs.Ytgcgilcalmefgaa
open Go Go.RowKit Go.Sort
set_option maxRecDepth 100000
set_option linter.unusedSimpArgs false
set_option linter.unusedVariables false
set_option maxHeartbeats 4000000
theorem retDo_alloc {ob base : Nat} {r : Rn.R} {w w0 : World} (hb : Below w.heap.size w w0) (hbw : base ≤ w.heap.size) {e : Ending} {w' : World} (h : RetDo ob base r w0 e w') : RetDo ob base r w e w' := ⟨h.1, (hb.mono hbw).trans h.2.1, h.2.2⟩
theorem ptenant_any (s : Rn.S) (ten txt : ByteArray) (num epoch : Int) (ob base : Nat) (ps : List (Rn.T × Value)) (u : Value) (w : World) (h : StI ob base w s ps u) (hr : Rn.right s = true) (hf : Rn.form ⟨1, ten, num, epoch, txt⟩ = true) (hen : ten.size ≤ maxLen) :
    Calls Try.prog 56 #[.pointer (some ⟨ob, 0, none⟩), .agg #[.int .i64 1, .string ten, .int .i64 num, .int .i64 epoch, .string txt]] w (RetDo ob base (Rn.doTen s ⟨1, ten, num, epoch, txt⟩) w) := by
  obtain ⟨h16, -, -, hris⟩ := Rn.right_parts hr
  obtain ⟨-, he, hn, -⟩ := Rn.form_one hf
  rw [Rn.fromB_iff] at he hn
  cases hh : Rn.hasT s.tens ten with
  | true => exact ptenant_has s ten txt num epoch ob base ps u w h h16 hris hen hh
  | false =>
    by_cases hl : s.tens.length = 16
    · exact ptenant_full s ten txt num epoch ob base ps u w h hl hris hen hh
    · exact ptenant_new s ten txt num epoch ob base ps u w h hl h16 hris hen hh he.1 (by omega)
theorem pkey_two (s : Rn.S) (ten txt : ByteArray) (num epoch : Int) (ob base : Nat) (ps : List (Rn.T × Value)) (u : Value) (w : World) (h : StI ob base w s ps u) (hr : Rn.right s = true) (htx : txt.size ≤ maxLen) :
    Calls Try.prog 57 #[.pointer (some ⟨ob, 0, none⟩), .agg #[.int .i64 2, .string ten, .int .i64 num, .int .i64 epoch, .string txt]] w (RetDo ob base (Rn.doKey s ⟨2, ten, num, epoch, txt⟩) w) := by
  obtain ⟨h16, -, htens, hris⟩ := Rn.right_parts hr
  unfold Rn.doKey
  dsimp only
  cases hh : Rn.hasT s.tens ten with
  | false => rw [if_pos rfl]; exact pkey_none2 s ten txt num epoch ob base ps u w h h16 hris hh
  | true =>
    obtain ⟨hi, hnm⟩ := Rn.spotT_hit hh
    rw [if_neg (by decide), List.getElem?_eq_getElem hi]
    dsimp only
    rw [if_neg (by decide)]
    obtain ⟨-, -, -, h8, -, hrk⟩ := Rn.ten_parts (htens _ (List.getElem_mem hi))
    generalize hsp : Rn.spotT s.tens ten = i at *
    generalize ht : s.tens[i] = t at *
    obtain ⟨tn, te, tx, tk⟩ := t
    dsimp only at *
    by_cases h1 : tx ≤ num
    · rw [if_pos h1]
      cases hk : Rn.hasK tk num with
      | true => exact pkey_next_t s ten txt num epoch ob base ps u w h h16 hris hh htx i hsp hi tn te tx tk ht h8 hrk _ rfl hk h1
      | false => exact pkey_next_f s ten txt num epoch ob base ps u w h h16 hris hh htx i hsp hi tn te tx tk ht h8 hrk _ rfl hk h1
    rw [if_neg h1]
    cases hk : Rn.hasK tk num with
    | true =>
      rw [if_pos rfl]
      exact pkey_twice s ten txt num epoch ob base ps u w h h16 hris hh htx i hsp hi tn te tx tk ht h8 hrk _ rfl hk h1
    | false =>
      rw [if_neg (by decide)]
      by_cases h8' : tk.length = 8
      · rw [if_pos h8']
        exact pkey_limit s ten txt num epoch ob base ps u w h h16 hris hh htx i hsp hi tn te tx tk ht h8 hrk _ rfl hk h1 h8'
      · rw [if_neg h8']
        exact pkey_ok s ten txt num epoch ob base ps u w h h16 hris hh htx i hsp hi tn te tx tk ht h8 hrk _ rfl hk h1 h8' (Rn.spotK_le _ _)
theorem pkey_three (s : Rn.S) (ten txt : ByteArray) (num epoch : Int) (ob base : Nat) (ps : List (Rn.T × Value)) (u : Value) (w : World) (h : StI ob base w s ps u) (hr : Rn.right s = true) (htx : txt.size ≤ maxLen) :
    Calls Try.prog 57 #[.pointer (some ⟨ob, 0, none⟩), .agg #[.int .i64 3, .string ten, .int .i64 num, .int .i64 epoch, .string txt]] w (RetDo ob base (Rn.doKey s ⟨3, ten, num, epoch, txt⟩) w) := by
  obtain ⟨h16, -, htens, hris⟩ := Rn.right_parts hr
  unfold Rn.doKey
  dsimp only
  cases hh : Rn.hasT s.tens ten with
  | false => rw [if_pos rfl]; exact pkey_none3 s ten txt num epoch ob base ps u w h h16 hris hh
  | true =>
    obtain ⟨hi, hnm⟩ := Rn.spotT_hit hh
    rw [if_neg (by decide), List.getElem?_eq_getElem hi]
    dsimp only
    rw [if_pos rfl]
    obtain ⟨-, -, -, h8, -, hrk⟩ := Rn.ten_parts (htens _ (List.getElem_mem hi))
    generalize hsp : Rn.spotT s.tens ten = i at *
    generalize ht : s.tens[i] = t at *
    obtain ⟨tn, te, tx, tk⟩ := t
    dsimp only at *
    cases hk : Rn.hasK tk num with
    | false =>
      rw [if_pos rfl]
      exact pkey_drop_none s ten txt num epoch ob base ps u w h h16 hris hh htx i hsp hi tn te tx tk ht h8 hrk _ rfl hk
    | true =>
      rw [if_neg (by decide)]
      exact pkey_drop s ten txt num epoch ob base ps u w h h16 hris hh htx i hsp hi tn te tx tk ht h8 hrk _ rfl hk (Rn.spotK_hit hk).1
theorem pdo_1 (s : Rn.S) (ten txt : ByteArray) (num epoch : Int) (ob base : Nat) (ps : List (Rn.T × Value)) (u : Value) (w : World) (h : StI ob base w s ps u) (hr : Rn.right s = true) (hf : Rn.form ⟨1, ten, num, epoch, txt⟩ = true) (hen : ten.size ≤ maxLen) (htx : txt.size ≤ maxLen) :
    Calls Try.prog 46 #[.pointer (some ⟨ob, 0, none⟩), .agg #[.int .i64 1, .string ten, .int .i64 num, .int .i64 epoch, .string txt]] w (RetDo ob base (Rn.doTen s ⟨1, ten, num, epoch, txt⟩) w) := by
  obtain ⟨W0, hW0⟩ : ∃ W0, W0 = w.alloc (.cells #[.int .i64 1, .string ten, .int .i64 num, .int .i64 epoch, .string txt] 26) := ⟨_, rfl⟩
  have hb0 : Below w.heap.size w W0 := by rw [hW0]; exact (Below.refl _ _).alloc (Nat.le_refl _) _
  have hev : Blk W0 w.heap.size #[.int .i64 1, .string ten, .int .i64 num, .int .i64 epoch, .string txt] 26 := by rw [hW0]; exact Blk.new w _ _
  have HC := hide (ptenant_any s ten txt num epoch ob base ps u W0 (stI_keep h hb0) hr hf hen)
  have HEND : Hid (∀ e w', RetDo ob base (Rn.doTen s ⟨1, ten, num, epoch, txt⟩) W0 e w' → RetDo ob base (Rn.doTen s ⟨1, ten, num, epoch, txt⟩) w e w') := hid_mk (fun e w' h' => retDo_alloc hb0 (by have := stI_base h; omega) h')
  have HW0 := hid_mk hW0
  clear hW0 h hr hf hb0
  generalize (Rn.doTen s ⟨1, ten, num, epoch, txt⟩) = r at *
  (have y0 : W0.cell? ⟨w.heap.size, 0, none⟩ = some (.int .i64 1) := hev.cell 0; have y1 : W0.cell? ⟨w.heap.size, 1, none⟩ = some (.string ten) := hev.cell 1; have y2 : W0.cell? ⟨w.heap.size, 2, none⟩ = some (.int .i64 num) := hev.cell 2; have y3 : W0.cell? ⟨w.heap.size, 3, none⟩ = some (.int .i64 epoch) := hev.cell 3; have y4 : W0.cell? ⟨w.heap.size, 4, none⟩ = some (.string txt) := hev.cell 4; have yf : ∀ i, W0.frozen? ⟨w.heap.size, i, none⟩ = false := hev.frozen)
  clear hev
  go_enter Try.func46, Try.ntmps46
  go_wp2_with fail
  rw [← HW0.out]
  refine (unhide HC).mono ?_
  rintro e w' ⟨rfl, hb, ht⟩
  have HR := hid_mk (HEND.out _ _ ⟨rfl, hb, ht⟩)
  clear hb ht HC HEND y0 y1 y2 y3 y4 yf
  go_wp2
  go_ret
  exact HR.out
theorem pdo_2 (s : Rn.S) (ten txt : ByteArray) (num epoch : Int) (ob base : Nat) (ps : List (Rn.T × Value)) (u : Value) (w : World) (h : StI ob base w s ps u) (hr : Rn.right s = true) (hf : Rn.form ⟨2, ten, num, epoch, txt⟩ = true) (hen : ten.size ≤ maxLen) (htx : txt.size ≤ maxLen) :
    Calls Try.prog 46 #[.pointer (some ⟨ob, 0, none⟩), .agg #[.int .i64 2, .string ten, .int .i64 num, .int .i64 epoch, .string txt]] w (RetDo ob base (Rn.doKey s ⟨2, ten, num, epoch, txt⟩) w) := by
  obtain ⟨W0, hW0⟩ : ∃ W0, W0 = w.alloc (.cells #[.int .i64 2, .string ten, .int .i64 num, .int .i64 epoch, .string txt] 26) := ⟨_, rfl⟩
  have hb0 : Below w.heap.size w W0 := by rw [hW0]; exact (Below.refl _ _).alloc (Nat.le_refl _) _
  have hev : Blk W0 w.heap.size #[.int .i64 2, .string ten, .int .i64 num, .int .i64 epoch, .string txt] 26 := by rw [hW0]; exact Blk.new w _ _
  have HC := hide (pkey_two s ten txt num epoch ob base ps u W0 (stI_keep h hb0) hr htx)
  have HEND : Hid (∀ e w', RetDo ob base (Rn.doKey s ⟨2, ten, num, epoch, txt⟩) W0 e w' → RetDo ob base (Rn.doKey s ⟨2, ten, num, epoch, txt⟩) w e w') := hid_mk (fun e w' h' => retDo_alloc hb0 (by have := stI_base h; omega) h')
  have HW0 := hid_mk hW0
  clear hW0 h hr hf hb0
  generalize (Rn.doKey s ⟨2, ten, num, epoch, txt⟩) = r at *
  (have y0 : W0.cell? ⟨w.heap.size, 0, none⟩ = some (.int .i64 2) := hev.cell 0; have y1 : W0.cell? ⟨w.heap.size, 1, none⟩ = some (.string ten) := hev.cell 1; have y2 : W0.cell? ⟨w.heap.size, 2, none⟩ = some (.int .i64 num) := hev.cell 2; have y3 : W0.cell? ⟨w.heap.size, 3, none⟩ = some (.int .i64 epoch) := hev.cell 3; have y4 : W0.cell? ⟨w.heap.size, 4, none⟩ = some (.string txt) := hev.cell 4; have yf : ∀ i, W0.frozen? ⟨w.heap.size, i, none⟩ = false := hev.frozen)
  clear hev
  go_enter Try.func46, Try.ntmps46
  go_wp2_with fail
  rw [← HW0.out]
  refine (unhide HC).mono ?_
  rintro e w' ⟨rfl, hb, ht⟩
  have HR := hid_mk (HEND.out _ _ ⟨rfl, hb, ht⟩)
  clear hb ht HC HEND y0 y1 y2 y3 y4 yf
  go_wp2
  go_ret
  exact HR.out
theorem pdo_3 (s : Rn.S) (ten txt : ByteArray) (num epoch : Int) (ob base : Nat) (ps : List (Rn.T × Value)) (u : Value) (w : World) (h : StI ob base w s ps u) (hr : Rn.right s = true) (hf : Rn.form ⟨3, ten, num, epoch, txt⟩ = true) (hen : ten.size ≤ maxLen) (htx : txt.size ≤ maxLen) :
    Calls Try.prog 46 #[.pointer (some ⟨ob, 0, none⟩), .agg #[.int .i64 3, .string ten, .int .i64 num, .int .i64 epoch, .string txt]] w (RetDo ob base (Rn.doKey s ⟨3, ten, num, epoch, txt⟩) w) := by
  obtain ⟨W0, hW0⟩ : ∃ W0, W0 = w.alloc (.cells #[.int .i64 3, .string ten, .int .i64 num, .int .i64 epoch, .string txt] 26) := ⟨_, rfl⟩
  have hb0 : Below w.heap.size w W0 := by rw [hW0]; exact (Below.refl _ _).alloc (Nat.le_refl _) _
  have hev : Blk W0 w.heap.size #[.int .i64 3, .string ten, .int .i64 num, .int .i64 epoch, .string txt] 26 := by rw [hW0]; exact Blk.new w _ _
  have HC := hide (pkey_three s ten txt num epoch ob base ps u W0 (stI_keep h hb0) hr htx)
  have HEND : Hid (∀ e w', RetDo ob base (Rn.doKey s ⟨3, ten, num, epoch, txt⟩) W0 e w' → RetDo ob base (Rn.doKey s ⟨3, ten, num, epoch, txt⟩) w e w') := hid_mk (fun e w' h' => retDo_alloc hb0 (by have := stI_base h; omega) h')
  have HW0 := hid_mk hW0
  clear hW0 h hr hf hb0
  generalize (Rn.doKey s ⟨3, ten, num, epoch, txt⟩) = r at *
  (have y0 : W0.cell? ⟨w.heap.size, 0, none⟩ = some (.int .i64 3) := hev.cell 0; have y1 : W0.cell? ⟨w.heap.size, 1, none⟩ = some (.string ten) := hev.cell 1; have y2 : W0.cell? ⟨w.heap.size, 2, none⟩ = some (.int .i64 num) := hev.cell 2; have y3 : W0.cell? ⟨w.heap.size, 3, none⟩ = some (.int .i64 epoch) := hev.cell 3; have y4 : W0.cell? ⟨w.heap.size, 4, none⟩ = some (.string txt) := hev.cell 4; have yf : ∀ i, W0.frozen? ⟨w.heap.size, i, none⟩ = false := hev.frozen)
  clear hev
  go_enter Try.func46, Try.ntmps46
  go_wp2_with fail
  rw [← HW0.out]
  refine (unhide HC).mono ?_
  rintro e w' ⟨rfl, hb, ht⟩
  have HR := hid_mk (HEND.out _ _ ⟨rfl, hb, ht⟩)
  clear hb ht HC HEND y0 y1 y2 y3 y4 yf
  go_wp2
  go_ret
  exact HR.out
theorem pdo_4 (s : Rn.S) (ten txt : ByteArray) (num epoch : Int) (ob base : Nat) (ps : List (Rn.T × Value)) (u : Value) (w : World) (h : StI ob base w s ps u) (r : Rn.R) (hr : r = if num < s.serial then .bad 7 else .ok ⟨s.tens, num⟩) :
    Calls Try.prog 46 #[.pointer (some ⟨ob, 0, none⟩), .agg #[.int .i64 4, .string ten, .int .i64 num, .int .i64 epoch, .string txt]] w (RetDo ob base r w) := by
  obtain ⟨W0, hW0⟩ : ∃ W0, W0 = w.alloc (.cells #[.int .i64 4, .string ten, .int .i64 num, .int .i64 epoch, .string txt] 26) := ⟨_, rfl⟩
  have hb0 : Below w.heap.size w W0 := by rw [hW0]; exact (Below.refl _ _).alloc (Nat.le_refl _) _
  have hev : Blk W0 w.heap.size #[.int .i64 4, .string ten, .int .i64 num, .int .i64 epoch, .string txt] 26 := by rw [hW0]; exact Blk.new w _ _
  have hs0 := stI_keep h hb0
  have HB0 := hid_mk (show Below base w W0 from hb0.mono (by have := stI_base h; omega))
  have HS0 := hid_mk hs0
  have z1 : ∀ d os, (grow (redrawn W0 d) os).cell? ⟨ob, 1, none⟩ = some (.int .i64 s.serial) := fun d os => cell_regrown (hs0.2.1.cell 1) d os
  have z2 : ∀ d os, (grow (redrawn W0 d) os).cell? ⟨w.heap.size, 2, none⟩ = some (.int .i64 num) := fun d os => cell_regrown (hev.cell 2) d os
  have HEV := hid_mk hev
  have HW0 := hid_mk hW0
  (have y0 : W0.cell? ⟨w.heap.size, 0, none⟩ = some (.int .i64 4) := hev.cell 0; have y1 : W0.cell? ⟨w.heap.size, 1, none⟩ = some (.string ten) := hev.cell 1; have y2 : W0.cell? ⟨w.heap.size, 2, none⟩ = some (.int .i64 num) := hev.cell 2; have y3 : W0.cell? ⟨w.heap.size, 3, none⟩ = some (.int .i64 epoch) := hev.cell 3; have y4 : W0.cell? ⟨w.heap.size, 4, none⟩ = some (.string txt) := hev.cell 4; have yf : ∀ i, W0.frozen? ⟨w.heap.size, i, none⟩ = false := hev.frozen)
  clear hev hs0 hb0 hW0 h
  by_cases hn : num < s.serial
  · have f1 : decide (num < s.serial) = true := decide_eq_true hn
    obtain rfl : r = .bad 7 := by rw [hr, if_pos hn]
    clear hn hr
    go_enter Try.func46, Try.ntmps46
    go_wp2
    rw [← HW0.out]
    (refine wp_region_quiet_below (by kernel_rfl) (by kernel_rfl) ?_; (repeat (first | go_big_quiet_step (fail) | quiet_step (fail))); refine wpQuiet_nil ?_; intro _ hw'; obtain ⟨⟨nq, osq⟩, hw''⟩ := hw'; subst hw'')
    have hvb := below_regrown W0 nq osq
    have HBV := hid_mk (HB0.out.trans (hvb.mono (by have := HB0.out.size; have := stI_base HS0.out; omega)))
    clear hvb z1 z2 HS0 HB0 y0 y1 y2 y3 y4 yf
    generalize grow (redrawn W0 nq) osq = V at *
    go_wp2
    go_ret
    exact ⟨rfl, HBV.out, fun t h => by cases h⟩
  · have f1 : decide (num < s.serial) = false := decide_eq_false hn
    obtain rfl : r = .ok ⟨s.tens, num⟩ := by rw [hr, if_neg hn]
    clear hn hr
    go_enter Try.func46, Try.ntmps46
    go_wp2
    rw [← HW0.out]
    (refine wp_region_quiet_below (by kernel_rfl) (by kernel_rfl) ?_; (repeat (first | go_big_quiet_step (fail) | quiet_step (fail))); refine wpQuiet_nil ?_; intro _ hw'; obtain ⟨⟨nq, osq⟩, hw''⟩ := hw'; subst hw'')
    have hvb := below_regrown W0 nq osq
    have HBV := hid_mk (HB0.out.trans (hvb.mono (by have := HB0.out.size; have := stI_base HS0.out; omega)))
    have HSV := hid_mk (stI_serial (stI_keep HS0.out hvb) num)
    have hev := HEV.out.call hvb
    have hob := (stI_keep HS0.out hvb).2.1
    clear hvb z1 z2 HS0 HB0 y0 y1 y2 y3 y4 yf
    generalize grow (redrawn W0 nq) osq = V at *
    have y0 : V.cell? ⟨w.heap.size, 2, none⟩ = some (.int .i64 num) := hev.cell 2
    have y1 : V.cell? ⟨ob, 1, none⟩ = some (.int .i64 s.serial) := hob.cell 1
    have yf := hob.frozen
    have HR := hid_mk (HBV.out.trans HSV.out.2)
    clear hev hob
    go_wp2
    go_ret
    exact ⟨rfl, HR.out, fun t h => by cases h; exact ⟨_, _, HSV.out.1⟩⟩
theorem pdo_any (s : Rn.S) (e : Rn.E) (ob base : Nat) (ps : List (Rn.T × Value)) (u : Value) (w : World) (h : StI ob base w s ps u) (hr : Rn.right s = true) (hf : Rn.form e = true) (hen : e.ten.size ≤ maxLen) (htx : e.txt.size ≤ maxLen) :
    Calls Try.prog 46 #[.pointer (some ⟨ob, 0, none⟩), .agg #[.int .i64 (e).kind, .string (e).ten, .int .i64 (e).num, .int .i64 (e).epoch, .string (e).txt]] w (RetDo ob base (Rn.doE s e) w) := by
  obtain ⟨kind, ten, num, epoch, txt⟩ := e
  rcases Rn.form_kind hf with hk | hk | hk | hk
  · obtain rfl : kind = 1 := hk
    rw [Rn.do_one]; exact pdo_1 s ten txt num epoch ob base ps u w h hr hf hen htx
  · obtain rfl : kind = 2 := hk
    rw [Rn.do_two]; exact pdo_2 s ten txt num epoch ob base ps u w h hr hf hen htx
  · obtain rfl : kind = 3 := hk
    rw [Rn.do_three]; exact pdo_3 s ten txt num epoch ob base ps u w h hr hf hen htx
  · obtain rfl : kind = 4 := hk
    rw [Rn.do_four]; exact pdo_4 s ten txt num epoch ob base ps u w h _ rfl
end Go.Proofs.Ytgcgilcalmefgaa
