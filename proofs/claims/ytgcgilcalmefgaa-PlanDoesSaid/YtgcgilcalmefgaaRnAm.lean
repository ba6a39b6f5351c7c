/- Walks: ring.Apply; porterref38.All: changes one behind the other, by definition. -/
import Derived.Test.YtgcgilcalmefgaaRnAll
import Derived.Test.YtgcgilcalmefgaaRnAq
namespace Go.Proofs.Ytgcgilcalmefgaa
open Go Go.RowKit Go.Sort
set_option maxRecDepth 100000
set_option linter.unusedSimpArgs false
set_option linter.unusedVariables false
set_option maxHeartbeats 4000000
theorem Rn.apply_err {s : Rn.S} {e : Rn.E} {x : Int} (h : Rn.apply s e = .bad x) : x ≠ 0 := by
  cases hr : Rn.right s with
  | false => rw [Rn.apply_bad hr] at h; cases h; decide
  | true =>
    cases hf : Rn.form e with
    | false => rw [Rn.apply_form hr hf] at h; cases h; decide
    | true => rw [Rn.apply_do hr hf] at h; exact Rn.doE_err h
theorem pall_any (s : Rn.S) (es : List Rn.E) (A B : Option Addr) (c d : Nat) (G : Nat → Prop) (w : World) (hG : ∀ b, G b → b < w.heap.size) (hl : s.tens.length ≤ 1000) (hfit : Fits A s.tens.length c) (hT : TensAt G w A s.tens) (hel : es.length ≤ maxLen) (hE : EventsAt G w B es) :
    Calls Try.prog 19 #[.agg #[.slice (A) (s).tens.length (c), .int .i64 (s).serial], .slice B es.length d] w (RetSE G (Rn.all s es) w) := by
  cases hr : Rn.right s with
  | false =>
    have e : Rn.all s es = .bad 7 := by unfold Rn.all; rw [if_pos hr]
    rw [e]; exact pall_right s es A B c d G w hG hl hT hr
  | true => rw [Rn.all_right hr]; exact pall_run s es A B c d G w hG hl hfit hT hel hE hr
theorem retSE_box {G G' : Nat → Prop} {r : Rn.R} {w W w' : World} {A : Option Addr} {c k : Nat} {cs : Array Value} (hG : ∀ b, G b → b < w.heap.size) (hbW : Below w.heap.size w W) (hk : w.heap.size ≤ k) (hG' : ∀ b, G' b → b ≠ k ∧ (G b ∨ (w.heap.size ≤ b ∧ b < W.heap.size))) (hkW : k < W.heap.size) (hf : Fits A (Rn.state r).tens.length c) (hb : Below W.heap.size W w') (hT : TensAt (fun b => G' b ∨ (W.heap.size ≤ b ∧ b < w'.heap.size)) w' A (Rn.state r).tens) :
    RetSE G r w (.returned (.tuple #[.agg #[.slice (A) ((Rn.state r)).tens.length (c), .int .i64 ((Rn.state r)).serial], .int .i64 (Rn.err r)])) (w'.setRow k cs) := by
  have hs := hbW.size
  have hs2 := hb.size
  refine ⟨A, c, rfl, hf, below_row (hbW.trans (hb.mono hs)) hk _, tensAt_keep hT (fun b h => ?_) (fun b h => setRow_other _ _ _ ?_)⟩
  · rw [setRow_size]
    rcases h with h | h
    · rcases (hG' b h).2 with h | h
      · exact Or.inl h
      · exact Or.inr (by omega)
    · exact Or.inr (by omega)
  · rcases h with h | h
    · exact (hG' b h).1
    · omega
theorem papply_any (s : Rn.S) (e : Rn.E) (A : Option Addr) (c : Nat) (G : Nat → Prop) (w : World) (hG : ∀ b, G b → b < w.heap.size) (hl : s.tens.length ≤ 1000) (hfit : Fits A s.tens.length c) (hT : TensAt G w A s.tens) (hen : e.ten.size ≤ maxLen) (htx : e.txt.size ≤ maxLen) :
    Calls Try.prog 11 #[.agg #[.slice (A) (s).tens.length (c), .int .i64 (s).serial], .agg #[.int .i64 (e).kind, .string (e).ten, .int .i64 (e).num, .int .i64 (e).epoch, .string (e).txt]] w (RetSE G (Rn.apply s e) w) := by
  obtain ⟨W0, hW0⟩ : ∃ W0, W0 = (((w.alloc (.cells #[.slice (A) (s).tens.length (c), .int .i64 (s).serial] 24)).alloc (.cells #[.int .i64 (e).kind, .string (e).ten, .int .i64 (e).num, .int .i64 (e).epoch, .string (e).txt] 26)).alloc (.cells #[.slice none 0 0, .int .i64 0] 24)).alloc (.cells #[.int .i64 (e).kind, .string (e).ten, .int .i64 (e).num, .int .i64 (e).epoch, .string (e).txt] 26) := ⟨_, rfl⟩
  have hb0 : Below w.heap.size w W0 := by rw [hW0]; exact ((((Below.refl _ _).alloc (Nat.le_refl _) _).alloc (by simp) _).alloc (by simp; omega) _).alloc (by simp; omega) _
  have hs0 : W0.heap.size = w.heap.size + 4 := by rw [hW0]; simp
  have hB3 : Blk W0 (w.heap.size + 1 + 1) #[.slice none 0 0, .int .i64 0] 24 := by rw [hW0]; exact (blk_new (by simp)).alloc _
  have hB4 : Blk W0 (w.heap.size + 1 + 1 + 1) #[.int .i64 (e).kind, .string (e).ten, .int .i64 (e).num, .int .i64 (e).epoch, .string (e).txt] 26 := by rw [hW0]; exact blk_new (by simp)
  have hE : EventsAt (fun b => G b ∨ b = w.heap.size + 1 + 1 + 1) W0 (some ⟨w.heap.size + 1 + 1 + 1, 0, none⟩) [e] := fun _ => ⟨_, 0, rfl, Or.inr rfl, fun k hk => by
    have : k = 0 := by simpa using hk
    subst this
    exact ⟨_, ⟨rfl, hen, htx⟩, fun j u hj => by simp only [Nat.zero_mul, Nat.zero_add]; rw [hB4.cell]; simpa using hj⟩⟩
  have HC := hide (pall_any s [e] A (some ⟨w.heap.size + 1 + 1 + 1, 0, none⟩) c 1 (fun b => G b ∨ b = w.heap.size + 1 + 1 + 1) W0 (fun b h => by rcases h with h | h; exact Nat.lt_of_lt_of_le (hG b h) hb0.size; omega) hl hfit (tensAt_keep hT (fun b h => Or.inl h) (kept_below hb0 hG)) (by unfold maxLen; simp) hE)
  have HB0 := hid_mk hb0
  have HS0 := hid_mk hs0
  have H3 := hid_mk hB3
  have HW0 := hid_mk hW0
  have HG := hid_mk hG
  have HA : Hid (Rn.apply s e = Rn.all s [e]) := hid_mk rfl
  rw [HA.out]
  generalize Rn.all s [e] = r at *
  clear hb0 hs0 hB3 hB4 hE hW0 hG hT hfit hl hen htx HA
  go_enter Try.func11, Try.ntmps11
  go_wp2_with fail
  rw [← HW0.out]
  refine (unhide HC).mono ?_
  rintro e1 w1 ⟨A1, c1, rfl, hf1, hb1, hT1⟩
  have HZ1 := hid_mk (H3.out.call hb1)
  have HR := hid_mk (retSE_box (k := w.heap.size + 1 + 1) (cs := #[.slice (A1) ((Rn.state r)).tens.length (c1), .int .i64 ((Rn.state r)).serial]) HG.out HB0.out (by omega) (fun b h => by
    rcases h with h | h
    · have := HG.out b h; exact ⟨by omega, Or.inl h⟩
    · subst h; exact ⟨by omega, Or.inr (by have := HS0.out; omega)⟩) (by have := HS0.out; omega) hf1 hb1 hT1)
  clear hf1 hb1 hT1 HC H3
  go_wp2_with (first | (refine store_row 24 rfl _ _ rfl (w.heap.size + 1 + 1) _ _ 24 HZ1.out rfl rfl (by kernel_rfl) rfl rfl ?_))
  refine ret_row_tmp rfl (w.heap.size + 1 + 1) _ 24 (.int .i64 (Rn.err r)) (HZ1.out.row) rfl rfl _ Try.underlying24 rfl ?_ rfl ?_
  · kernel_rfl
  · exact HR.out
def RAllI (G : Nat → Prop) (s : Rn.S) (es : List Rn.E) (w : World) (v : Value) (wr : World) : Prop :=
  ∃ (j : Nat) (st : Rn.S) (A : Option Addr) (c : Nat), j ≤ es.length ∧ v = .int .i64 (j : Nat) ∧ Rn.run s (es.take j) = .ok st ∧ Rn.right st = true ∧ Fits A st.tens.length c ∧ TensAt (fun b => G b ∨ (w.heap.size + 2 ≤ b ∧ b < wr.heap.size)) wr A st.tens ∧
    Below w.heap.size w wr ∧ Blk wr w.heap.size #[.slice (A) (st).tens.length (c), .int .i64 (st).serial] 24 ∧ Blk wr (w.heap.size + 1) #[.slice none 0 0, .int .i64 0] 24
theorem rall_right (s : Rn.S) (es : List Rn.E) (A B : Option Addr) (c d : Nat) (G : Nat → Prop) (w : World) (hG : ∀ b, G b → b < w.heap.size) (hl : s.tens.length ≤ 1000) (hT : TensAt G w A s.tens) (hr : Rn.right s = false) :
    Calls Try.prog 20 #[.agg #[.slice (A) (s).tens.length (c), .int .i64 (s).serial], .slice B es.length d] w (RetSE G (.bad 7) w) := by
  obtain ⟨W0, hW0⟩ : ∃ W0, W0 = (w.alloc (.cells #[.slice (A) (s).tens.length (c), .int .i64 (s).serial] 24)).alloc (.cells #[.slice none 0 0, .int .i64 0] 24) := ⟨_, rfl⟩
  have hb0 : Below w.heap.size w W0 := by rw [hW0]; exact ((Below.refl _ _).alloc (Nat.le_refl _) _).alloc (by simp) _
  have hB1 : Blk W0 w.heap.size #[.slice (A) (s).tens.length (c), .int .i64 (s).serial] 24 := by rw [hW0]; exact (Blk.new w _ _).alloc _
  have hB2 : Blk W0 (w.heap.size + 1) #[.slice none 0 0, .int .i64 0] 24 := by rw [hW0]; exact blk_new (by simp)
  have HC := hide (rright38_any s A c G W0 (fun b h => Nat.lt_of_lt_of_le (hG b h) hb0.size) (by unfold maxLen; omega) (tensAt_keep hT (fun b h => h) (kept_below hb0 hG)))
  rw [hr] at HC
  have HB0 := hid_mk hb0
  have H1 := hid_mk hB1
  have H2 := hid_mk hB2
  have HW0 := hid_mk hW0
  (have y0 : W0.cell? ⟨w.heap.size, 0, none⟩ = some (.slice (A) (s).tens.length (c)) := hB1.cell 0; have y1 : W0.cell? ⟨w.heap.size, 1, none⟩ = some (.int .i64 (s).serial) := hB1.cell 1; have yf : ∀ i, W0.frozen? ⟨w.heap.size, i, none⟩ = false := hB1.frozen)
  clear hb0 hB1 hB2 hW0 hG hT hr
  go_enter Try.func20, Try.ntmps20
  go_wp2_with fail
  rw [← HW0.out]
  refine (unhide HC).mono ?_
  rintro e w1 ⟨rfl, hb1⟩
  have HB1 := hid_mk (HB0.out.trans (hb1.mono HB0.out.size))
  have HZ1 := hid_mk (H2.out.call hb1)
  clear hb1 HC y0 y1 yf
  go_wp2_with (first | (refine store_row 24 rfl _ _ rfl (w.heap.size + 1) _ _ 24 HZ1.out rfl rfl (by kernel_rfl) rfl rfl ?_))
  refine ret_row_tmp rfl (w.heap.size + 1) #[.slice none 0 0, .int .i64 0] 24 (.int .i64 7) (HZ1.out.row) rfl rfl _ Try.underlying24 rfl ?_ rfl ?_
  · kernel_rfl
  · exact retSE_bad 7 (below_row HB1.out (by omega) _)
theorem rall_run (s : Rn.S) (es : List Rn.E) (A B : Option Addr) (c d : Nat) (G : Nat → Prop) (w : World) (hG : ∀ b, G b → b < w.heap.size) (hl : s.tens.length ≤ 1000) (hfit : Fits A s.tens.length c) (hT : TensAt G w A s.tens) (hel : es.length ≤ maxLen) (hE : EventsAt G w B es) (hr : Rn.right s = true) :
    Calls Try.prog 20 #[.agg #[.slice (A) (s).tens.length (c), .int .i64 (s).serial], .slice B es.length d] w (RetSE G (Rn.run s es) w) := by
  obtain ⟨W0, hW0⟩ : ∃ W0, W0 = (w.alloc (.cells #[.slice (A) (s).tens.length (c), .int .i64 (s).serial] 24)).alloc (.cells #[.slice none 0 0, .int .i64 0] 24) := ⟨_, rfl⟩
  have hb0 : Below w.heap.size w W0 := by rw [hW0]; exact ((Below.refl _ _).alloc (Nat.le_refl _) _).alloc (by simp) _
  have hB1 : Blk W0 w.heap.size #[.slice (A) (s).tens.length (c), .int .i64 (s).serial] 24 := by rw [hW0]; exact (Blk.new w _ _).alloc _
  have hB2 : Blk W0 (w.heap.size + 1) #[.slice none 0 0, .int .i64 0] 24 := by rw [hW0]; exact blk_new (by simp)
  have HC := hide (rright38_any s A c G W0 (fun b h => Nat.lt_of_lt_of_le (hG b h) hb0.size) (by unfold maxLen; omega) (tensAt_keep hT (fun b h => h) (kept_below hb0 hG)))
  rw [hr] at HC
  have HB0 := hid_mk hb0
  have H1 := hid_mk hB1
  have H2 := hid_mk hB2
  have HW0 := hid_mk hW0
  have HT := hid_mk hT
  have HG := hid_mk hG
  have HE := hid_mk hE
  have HFIT := hid_mk hfit
  have HR := hid_mk hr
  unfold maxLen at hel
  (have y0 : W0.cell? ⟨w.heap.size, 0, none⟩ = some (.slice (A) (s).tens.length (c)) := hB1.cell 0; have y1 : W0.cell? ⟨w.heap.size, 1, none⟩ = some (.int .i64 (s).serial) := hB1.cell 1; have yf : ∀ i, W0.frozen? ⟨w.heap.size, i, none⟩ = false := hB1.frozen)
  clear hb0 hB1 hB2 hW0 hG hT hr hE hfit
  go_enter Try.func20, Try.ntmps20
  go_wp2_with fail
  rw [← HW0.out]
  refine (unhide HC).mono ?_
  rintro e w1 ⟨rfl, hb1⟩
  have HBW1 := hid_mk (HB0.out.trans (hb1.mono HB0.out.size))
  have HX1 := hid_mk (H1.out.call hb1)
  have HX2 := hid_mk (H2.out.call hb1)
  clear hb1 HC HB0 H1 H2 HW0 y0 y1 yf
  go_wp2
  go_loopw [6, 7, 8] (fun v _ _ wr => RAllI G s es w v wr) (fun v _ _ _ => es.length - (intOf v).toNat)
  case atStart => exact ⟨0, s, A, c, Nat.zero_le _, rfl, rfl, HR.out, HFIT.out, tensAt_keep HT.out (fun b h => Or.inl h) (kept_below HBW1.out HG.out), HBW1.out, HX1.out, HX2.out⟩
  case round =>
    obtain ⟨j, st, A1, c1, hj, rfl, hrun, hrt, hf1, hT1, hbw, hxs, hrb⟩ := hrel
    have HRT := hid_mk hrt
    have HF1 := hid_mk hf1
    have HT1 := hid_mk hT1
    have HBW := hid_mk hbw
    have HXS := hid_mk hxs
    have HRB := hid_mk hrb
    have hrl := hrb.lt
    clear HX2 HX1 HBW1
    by_cases hlt : j < es.length
    case neg =>
      have hn : ¬ ((j : Int) < (es.length : Int)) := by omega
      have hjl : es.take j = es := List.take_of_length_le (by omega)
      rw [hjl] at hrun
      have HRET : Hid (RetSE G (.ok st) w (.returned (.tuple #[.agg #[.slice (A1) (st).tens.length (c1), .int .i64 (st).serial], .int .i64 0])) (wr.setRow (w.heap.size + 1) #[.slice (A1) (st).tens.length (c1), .int .i64 (st).serial])) := hid_mk ⟨A1, c1, rfl, hf1, below_row hbw (by omega) _, tensAt_keep hT1 (fun b h => by rw [setRow_size]; rcases h with h | h; exact Or.inl h; exact Or.inr (by omega)) (fun b h => setRow_other _ _ _ (by rcases h with h | h; have := HG.out b h; omega; omega))⟩
      have HRR : Hid (Rn.run s es = .ok st) := hid_mk hrun
      clear hrun hrt hf1 hT1 hbw hxs hrb hjl
      go_wp2_with (first | (refine load_row 24 rfl _ rfl w.heap.size _ 24 HXS.out rfl _ Try.underlying24 rfl (by kernel_rfl) ?_) | (refine store_row 24 rfl _ _ rfl (w.heap.size + 1) _ _ 24 HRB.out rfl rfl (by kernel_rfl) rfl rfl ?_))
      refine ret_row_tmp rfl (w.heap.size + 1) _ 24 (.int .i64 0) (HRB.out.row) rfl rfl _ Try.underlying24 rfl ?_ rfl ?_
      · kernel_rfl
      · rw [HRR.out]; exact HRET.out
    have hE2 := eventsAt_keep HE.out (fun b h => h) (kept_below hbw HG.out)
    obtain ⟨b, o, e1, hg1, hen, htx, x0, x1, x2, x3, x4⟩ := events_at hE2 hlt
    subst e1
    have HBAD : Hid (∀ x, Rn.apply st es[j] = .bad x → Rn.run s es = .bad x) := hid_mk (fun x h => by
      rw [Rn.run_at hrun, List.drop_eq_getElem_cons hlt, Rn.run_cons hrt, h])
    have HNEXT : Hid (∀ t, Rn.apply st es[j] = .ok t → Rn.run s (es.take (j + 1)) = .ok t) := hid_mk (fun t h => by
      rw [List.take_succ_eq_append_getElem hlt, Rn.run_append, hrun]
      dsimp only
      rw [Rn.run_cons hrt, h]
      rfl)
    have hjl : (j : Int) < (es.length : Int) := by omega
    have hlt2 : j < es.length := hlt
    generalize es[j] = q at *
    have h1000 : st.tens.length ≤ 1000 := by have := (Rn.right_parts hrt).1; omega
    have HCALL : Hid (∀ V, Below wr.heap.size wr V → Calls Try.prog 12 #[.agg #[.slice (A1) (st).tens.length (c1), .int .i64 (st).serial], .agg #[.int .i64 (q).kind, .string (q).ten, .int .i64 (q).num, .int .i64 (q).epoch, .string (q).txt]] V (RetSE (fun b => G b ∨ (w.heap.size + 2 ≤ b ∧ b < wr.heap.size)) (Rn.apply st q) V)) := hid_mk (fun V hV =>
      rapply_any st q A1 c1 _ V (fun b h => by have := hV.size; rcases h with h | h; have := HG.out b h; omega; omega) h1000 hf1 (tensAt_keep hT1 (fun b h => h) (kept_below hV (fun b h => by rcases h with h | h; have := HG.out b h; omega; omega))) hen htx)
    have z0 : ∀ p : InB (Below wr.heap.size wr), p.w.cell? ⟨w.heap.size, 0, none⟩ = some (.slice A1 st.tens.length c1) := fun p => cell_in p.ok (hxs.cell 0)
    have z1 : ∀ p : InB (Below wr.heap.size wr), p.w.cell? ⟨w.heap.size, 1, none⟩ = some (.int .i64 st.serial) := fun p => cell_in p.ok (hxs.cell 1)
    have v0 : ∀ p : InB (Below wr.heap.size wr), p.w.cell? ⟨b, o + j * 5, none⟩ = some (.int .i64 q.kind) := fun p => cell_in p.ok x0
    have v1 : ∀ p : InB (Below wr.heap.size wr), p.w.cell? ⟨b, o + j * 5 + 1, none⟩ = some (.string q.ten) := fun p => cell_in p.ok x1
    have v2 : ∀ p : InB (Below wr.heap.size wr), p.w.cell? ⟨b, o + j * 5 + 2, none⟩ = some (.int .i64 q.num) := fun p => cell_in p.ok x2
    have v3 : ∀ p : InB (Below wr.heap.size wr), p.w.cell? ⟨b, o + j * 5 + 3, none⟩ = some (.int .i64 q.epoch) := fun p => cell_in p.ok x3
    have v4 : ∀ p : InB (Below wr.heap.size wr), p.w.cell? ⟨b, o + j * 5 + 4, none⟩ = some (.string q.txt) := fun p => cell_in p.ok x4
    clear hE2 hrun hrt hf1 hT1 hbw hxs hrb hen htx x0 x1 x2 x3 x4 h1000
    go_wp2
    (refine region_plan (S := Meets (Below wr.heap.size wr)) (.read 0 _ (.read 1 _ (.read 2 _ (.read 3 _ (.read 4 _ (.two 5 _ (.read 6 _ (.read 7 _ (.read 8 _ (.one 9 _ (.one 10 _ (.read 11 _ .tail)))))) 9 _ (.one 5 _ (.read 6 _ (.read 7 _ (.read 8 _ (.one 10 _ (.read 11 _ .tail)))))))))))) 12 (by kernel_rfl) (by kernel_rfl) ⟨rfl, ⟨rfl, ⟨rfl, ⟨rfl, ⟨rfl, ⟨rfl, rfl, ⟨rfl, ⟨rfl, ⟨rfl, ⟨rfl, ⟨rfl, ⟨rfl, trivial⟩⟩⟩⟩⟩⟩, ⟨rfl, ⟨rfl, ⟨rfl, ⟨rfl, ⟨rfl, ⟨rfl, trivial⟩⟩⟩⟩⟩⟩⟩⟩⟩⟩⟩⟩ (by kernel_rfl) (by kernel_rfl) (fun d v c a w h => by cases d <;> exact h) (fun w p h => by obtain ⟨q, rfl⟩ := h; exact meets_mk (below_grew q.ok p)) (meets_mk ?_) ?_)
    · exact (Below.refl _ _).drew
    intro J hJ
    have HJ := hid_mk hJ
    clear hJ
    (repeat (refine planWp_read (fun K hK => ?_); go_simp; (first | (refine hK _ ?_; clear hK K) | (apply Exists.intro; refine ⟨fun _ => rfl, hK _ ?_⟩; clear hK K))))
    clear z0 z1 v0 v1 v2 v3 v4
    refine planWp_two ?_ ?_
    · refine planWp_call 12 _ _ rfl (by go_simp) (HCALL.out _ (Below.refl _ _).drew) ?_
      rintro e w3 ⟨A2, c2, rfl, hf2, hb2, hT2⟩
      have hb3 : Below wr.heap.size wr w3 := (Below.refl wr.heap.size wr).drew.trans hb2
      have hba : Below w3.heap.size w3 (w3.alloc (.cells #[.slice (A2) ((Rn.state (Rn.apply st q))).tens.length (c2), .int .i64 ((Rn.state (Rn.apply st q))).serial] 24)) := ((Below.refl _ _).alloc (Nat.le_refl _) _)
      have HF2 := hid_mk hf2
      have HBY := hid_mk (hb3.trans (hba.mono hb3.size))
      have HNY := hid_mk (show Blk (w3.alloc (.cells #[.slice (A2) ((Rn.state (Rn.apply st q))).tens.length (c2), .int .i64 ((Rn.state (Rn.apply st q))).serial] 24)) w3.heap.size #[.slice (A2) ((Rn.state (Rn.apply st q))).tens.length (c2), .int .i64 ((Rn.state (Rn.apply st q))).serial] 24 from Blk.new w3 _ _)
      have hs3 : wr.heap.size ≤ w3.heap.size := hb3.size
      have HTY : Hid (TensAt (fun b => G b ∨ (w.heap.size + 2 ≤ b ∧ b < (w3.alloc (.cells #[.slice (A2) ((Rn.state (Rn.apply st q))).tens.length (c2), .int .i64 ((Rn.state (Rn.apply st q))).serial] 24)).heap.size)) (w3.alloc (.cells #[.slice (A2) ((Rn.state (Rn.apply st q))).tens.length (c2), .int .i64 ((Rn.state (Rn.apply st q))).serial] 24)) A2 (Rn.state (Rn.apply st q)).tens) := hid_mk (tensAt_keep hT2 (fun b h => by
        show _ ∨ (_ ∧ b < (w3.alloc _).heap.size)
        simp only [World.size_alloc]
        have hwd : wr.drew.heap.size = wr.heap.size := rfl
        rcases h with (h | h) | h
        · exact Or.inl h
        · exact Or.inr (by omega)
        · exact Or.inr (by omega)) (kept_below hba (fun b h => by
        have hwd : wr.drew.heap.size = wr.heap.size := rfl
        rcases h with (h | h) | h
        · have := HG.out b h; omega
        · omega
        · exact h.2)))
      have HB3 := hid_mk hb3
      clear hf2 hb2 hT2 hba HCALL
      refine ⟨_, rfl, meets_mk hb3, ?_⟩
      clear hb3
      (repeat (refine planWp_read (fun K hK => ?_); go_simp; (first | (refine hK _ ?_; clear hK K) | (apply Exists.intro; refine ⟨fun _ => rfl, hK _ ?_⟩; clear hK K))))
      refine planWp_value (.pointer (some ⟨w3.heap.size, 0, none⟩)) rfl (w' := w3.alloc (.cells #[.slice none 0 0, .int .i64 0] 24)) (by go_simp) (meets_mk (HB3.out.alloc HB3.out.size _)) ?_
      refine planWp_skip rfl (w' := w3.alloc (.cells #[.slice (A2) ((Rn.state (Rn.apply st q))).tens.length (c2), .int .i64 ((Rn.state (Rn.apply st q))).serial] 24)) (by go_simp) (meets_mk (HB3.out.alloc HB3.out.size _)) ?_
      (repeat (refine planWp_read (fun K hK => ?_); go_simp; (first | (refine hK _ ?_; clear hK K) | (apply Exists.intro; refine ⟨fun _ => rfl, hK _ ?_⟩; clear hK K))))
      refine planWp_tail (HJ.out _ _ (meets_mk (HB3.out.alloc HB3.out.size _)) ?_)
      clear HJ
      generalize hY : w3.alloc (.cells #[.slice (A2) ((Rn.state (Rn.apply st q))).tens.length (c2), .int .i64 ((Rn.state (Rn.apply st q))).serial] 24) = Y at *
      clear hY HB3
      (unfold PairEnd; simp only [List.drop_succ_cons, List.drop_zero]; refine wpQuiet_nil ?_; intro _ hw'; obtain ⟨⟨nq, osq⟩, hw''⟩ := hw'; subst hw'')
      have hvb := below_regrown Y nq osq
      have HBX := hid_mk (HBY.out.trans (hvb.mono HBY.out.size))
      have HNX := hid_mk (HNY.out.call hvb)
      have HTX := hid_mk (tensAt_keep HTY.out (fun b h => (show (G b ∨ (w.heap.size + 2 ≤ b ∧ b < (grow (redrawn Y nq) osq).heap.size)) from by rcases h with h | h; exact Or.inl h; exact Or.inr ⟨h.1, by have := hvb.size; omega⟩)) (kept_below hvb (fun b h => by rcases h with h | h; have := HG.out b h; have := HBY.out.size; omega; exact h.2)))
      have HXSX := hid_mk (HXS.out.call HBX.out)
      have HRBX := hid_mk (HRB.out.call HBX.out)
      have HBWX := hid_mk (HBW.out.trans (HBX.out.mono HBW.out.size))
      have HSX := hid_mk (show wr.heap.size ≤ (grow (redrawn Y nq) osq).heap.size from HBX.out.size)
      have Hw3.heap.sizeX := hid_mk HNX.out.lt
      clear hvb HBX HNY HTY HBY
      generalize grow (redrawn Y nq) osq = X at *
      cases hr2 : Rn.apply st q with
      | bad x =>
        rw [hr2] at HNX HTX HF2 HBAD HNEXT
        have HRR := hid_mk (HBAD.out x rfl)
        have hx := Rn.apply_err hr2
        have hx2 : (x != 0) = true := by simpa using hx
        clear hr2 HBAD HNEXT
        rw [show Rn.err (Rn.R.bad x) = x from rfl]
        go_wp2_with (first | (refine store_row 24 rfl _ _ rfl (w.heap.size + 1) _ _ 24 HRBX.out rfl rfl (by kernel_rfl) rfl rfl ?_))
        refine ret_row_tmp rfl (w.heap.size + 1) #[.slice none 0 0, .int .i64 0] 24 (.int .i64 x) (HRBX.out.row) rfl rfl _ Try.underlying24 rfl ?_ rfl ?_
        · kernel_rfl
        · rw [HRR.out]; exact retSE_bad x (below_row HBWX.out (by omega) _)
      | ok t =>
        rw [hr2] at HNX HTX HF2 HBAD HNEXT
        rw [show Rn.err (Rn.R.ok t) = 0 from rfl, show Rn.state (Rn.R.ok t) = t from rfl]
        have HNX : Hid (Blk X w3.heap.size #[.slice (A2) (t).tens.length (c2), .int .i64 (t).serial] 24) := HNX
        have HTX : Hid (TensAt (fun b => G b ∨ (w.heap.size + 2 ≤ b ∧ b < X.heap.size)) X A2 t.tens) := HTX
        have HX : Hid (RAllI G s es w (.int .i64 ((j : Int) + 1)) (X.setRow w.heap.size #[.slice (A2) (t).tens.length (c2), .int .i64 (t).serial])) := hid_mk (by
          refine ⟨j + 1, t, A2, c2, by omega, by rw [show ((j + 1 : Nat) : Int) = (j : Int) + 1 by omega], HNEXT.out t rfl, (Rn.apply_rose hr2).1, HF2.out, ?_, below_row HBWX.out (Nat.le_refl _) _, HXSX.out.row, HRBX.out.rowFar (by omega) _⟩
          exact tensAt_keep HTX.out (fun b h => by rw [setRow_size]; exact h) (fun b h => setRow_other _ _ _ (by rcases h with h | h; have := HG.out b h; omega; omega)))
        clear hr2 HBAD HNEXT
        go_wp2_with (first | (refine load_row 24 rfl _ rfl (w3.heap.size) _ 24 HNX.out rfl _ Try.underlying24 rfl (by kernel_rfl) ?_) | (refine store_row 24 rfl _ _ rfl w.heap.size _ _ 24 HXSX.out rfl rfl (by kernel_rfl) rfl rfl ?_))
        go_roundw
        case rel => exact HX.out
        case measure => simp [intOf]; omega
    · refine planWp_value (.pointer (some ⟨wr.heap.size, 0, none⟩)) rfl (w' := (wr.alloc (.cells #[.slice none 0 0, .int .i64 0] 24)).drew) (by go_simp) (meets_mk ((Below.refl _ _).alloc (Nat.le_refl _) _).drew) ?_
      refine planWp_call 12 _ _ rfl (by go_simp) (HCALL.out _ ((Below.refl wr.heap.size wr).alloc (Nat.le_refl _) (.cells #[.slice none 0 0, .int .i64 0] 24)).drew) ?_
      rintro e w3 ⟨A2, c2, rfl, hf2, hb2, hT2⟩
      have hb3 : Below wr.heap.size wr w3 := ((Below.refl wr.heap.size wr).alloc (Nat.le_refl _) (.cells #[.slice none 0 0, .int .i64 0] 24)).drew.trans (hb2.mono (by show wr.heap.size ≤ (wr.alloc _).heap.size; simp))
      have hnb : Blk w3 wr.heap.size #[.slice none 0 0, .int .i64 0] 24 := (show Blk (wr.alloc (.cells #[.slice none 0 0, .int .i64 0] 24)).drew wr.heap.size _ _ from Blk.new wr _ _).call hb2
      have HF2 := hid_mk hf2
      have HBY : Hid (Below wr.heap.size wr ((w3.setCell ⟨wr.heap.size, 0, none⟩ (.slice A2 (Rn.state (Rn.apply st q)).tens.length c2)).setCell ⟨wr.heap.size, 1, none⟩ (.int .i64 (Rn.state (Rn.apply st q)).serial))) := hid_mk ((hb3.setCell (Nat.le_refl _) _).setCell (Nat.le_refl _) _)
      have HNY : Hid (Blk ((w3.setCell ⟨wr.heap.size, 0, none⟩ (.slice A2 (Rn.state (Rn.apply st q)).tens.length c2)).setCell ⟨wr.heap.size, 1, none⟩ (.int .i64 (Rn.state (Rn.apply st q)).serial)) wr.heap.size #[.slice (A2) ((Rn.state (Rn.apply st q))).tens.length (c2), .int .i64 ((Rn.state (Rn.apply st q))).serial] 24) := hid_mk (((hnb.put 0 _).put 1 _).is (by simp))
      have hvz : (wr.alloc (.cells #[.slice none 0 0, .int .i64 0] 24)).drew.heap.size = wr.heap.size + 1 := by show (wr.alloc _).heap.size = _; simp
      have hWs : ((w3.setCell ⟨wr.heap.size, 0, none⟩ (.slice A2 (Rn.state (Rn.apply st q)).tens.length c2)).setCell ⟨wr.heap.size, 1, none⟩ (.int .i64 (Rn.state (Rn.apply st q)).serial)).heap.size = w3.heap.size := by simp
      have HTY : Hid (TensAt (fun b => G b ∨ (w.heap.size + 2 ≤ b ∧ b < ((w3.setCell ⟨wr.heap.size, 0, none⟩ (.slice A2 (Rn.state (Rn.apply st q)).tens.length c2)).setCell ⟨wr.heap.size, 1, none⟩ (.int .i64 (Rn.state (Rn.apply st q)).serial)).heap.size)) ((w3.setCell ⟨wr.heap.size, 0, none⟩ (.slice A2 (Rn.state (Rn.apply st q)).tens.length c2)).setCell ⟨wr.heap.size, 1, none⟩ (.int .i64 (Rn.state (Rn.apply st q)).serial)) A2 (Rn.state (Rn.apply st q)).tens) := hid_mk (tensAt_keep hT2 (fun b h => by
        have hs3 := hb3.size
        rw [hWs]
        rcases h with (h | h) | h
        · exact Or.inl h
        · exact Or.inr (by omega)
        · exact Or.inr (by omega)) (fun b h => by
        have hne : b ≠ wr.heap.size := by
          rcases h with (h | h) | h
          · have := HG.out b h; omega
          · omega
          · omega
        rw [Below.heap_setCell _ ⟨wr.heap.size, 1, none⟩ _ b hne, Below.heap_setCell _ ⟨wr.heap.size, 0, none⟩ _ b hne]))
      have HB3 := hid_mk hb3
      (have n0 : w3.cell? ⟨wr.heap.size, 0, none⟩ = some (.slice none 0 0) := hnb.cell 0; have n1 : w3.cell? ⟨wr.heap.size, 1, none⟩ = some (.int .i64 0) := hnb.cell 1; have nf : ∀ i, w3.frozen? ⟨wr.heap.size, i, none⟩ = false := hnb.frozen)
      clear hf2 hb2 hT2 HCALL hnb hvz hWs
      refine ⟨_, rfl, meets_mk hb3, ?_⟩
      clear hb3
      (repeat (refine planWp_read (fun K hK => ?_); go_simp; (first | (refine hK _ ?_; clear hK K) | (apply Exists.intro; refine ⟨fun _ => rfl, hK _ ?_⟩; clear hK K))))
      refine planWp_skip rfl (w' := ((w3.setCell ⟨wr.heap.size, 0, none⟩ (.slice A2 (Rn.state (Rn.apply st q)).tens.length c2)).setCell ⟨wr.heap.size, 1, none⟩ (.int .i64 (Rn.state (Rn.apply st q)).serial))) (by go_simp) (meets_mk HBY.out) ?_
      (repeat (refine planWp_read (fun K hK => ?_); go_simp; (first | (refine hK _ ?_; clear hK K) | (apply Exists.intro; refine ⟨fun _ => rfl, hK _ ?_⟩; clear hK K))))
      refine planWp_tail (HJ.out _ _ (meets_mk HBY.out) ?_)
      clear HJ n0 n1 nf
      generalize hY : ((w3.setCell ⟨wr.heap.size, 0, none⟩ (.slice A2 (Rn.state (Rn.apply st q)).tens.length c2)).setCell ⟨wr.heap.size, 1, none⟩ (.int .i64 (Rn.state (Rn.apply st q)).serial)) = Y at *
      clear hY HB3
      (unfold PairEnd; simp only [List.drop_succ_cons, List.drop_zero]; refine wpQuiet_nil ?_; intro _ hw'; obtain ⟨⟨nq, osq⟩, hw''⟩ := hw'; subst hw'')
      have hvb := below_regrown Y nq osq
      have HBX := hid_mk (HBY.out.trans (hvb.mono HBY.out.size))
      have HNX := hid_mk (HNY.out.call hvb)
      have HTX := hid_mk (tensAt_keep HTY.out (fun b h => (show (G b ∨ (w.heap.size + 2 ≤ b ∧ b < (grow (redrawn Y nq) osq).heap.size)) from by rcases h with h | h; exact Or.inl h; exact Or.inr ⟨h.1, by have := hvb.size; omega⟩)) (kept_below hvb (fun b h => by rcases h with h | h; have := HG.out b h; have := HBY.out.size; omega; exact h.2)))
      have HXSX := hid_mk (HXS.out.call HBX.out)
      have HRBX := hid_mk (HRB.out.call HBX.out)
      have HBWX := hid_mk (HBW.out.trans (HBX.out.mono HBW.out.size))
      have HSX := hid_mk (show wr.heap.size ≤ (grow (redrawn Y nq) osq).heap.size from HBX.out.size)
      have Hw3.heap.sizeX := hid_mk HNX.out.lt
      clear hvb HBX HNY HTY HBY
      generalize grow (redrawn Y nq) osq = X at *
      cases hr2 : Rn.apply st q with
      | bad x =>
        rw [hr2] at HNX HTX HF2 HBAD HNEXT
        have HRR := hid_mk (HBAD.out x rfl)
        have hx := Rn.apply_err hr2
        have hx2 : (x != 0) = true := by simpa using hx
        clear hr2 HBAD HNEXT
        rw [show Rn.err (Rn.R.bad x) = x from rfl]
        go_wp2_with (first | (refine store_row 24 rfl _ _ rfl (w.heap.size + 1) _ _ 24 HRBX.out rfl rfl (by kernel_rfl) rfl rfl ?_))
        refine ret_row_tmp rfl (w.heap.size + 1) #[.slice none 0 0, .int .i64 0] 24 (.int .i64 x) (HRBX.out.row) rfl rfl _ Try.underlying24 rfl ?_ rfl ?_
        · kernel_rfl
        · rw [HRR.out]; exact retSE_bad x (below_row HBWX.out (by omega) _)
      | ok t =>
        rw [hr2] at HNX HTX HF2 HBAD HNEXT
        rw [show Rn.err (Rn.R.ok t) = 0 from rfl, show Rn.state (Rn.R.ok t) = t from rfl]
        have HNX : Hid (Blk X wr.heap.size #[.slice (A2) (t).tens.length (c2), .int .i64 (t).serial] 24) := HNX
        have HTX : Hid (TensAt (fun b => G b ∨ (w.heap.size + 2 ≤ b ∧ b < X.heap.size)) X A2 t.tens) := HTX
        have HX : Hid (RAllI G s es w (.int .i64 ((j : Int) + 1)) (X.setRow w.heap.size #[.slice (A2) (t).tens.length (c2), .int .i64 (t).serial])) := hid_mk (by
          refine ⟨j + 1, t, A2, c2, by omega, by rw [show ((j + 1 : Nat) : Int) = (j : Int) + 1 by omega], HNEXT.out t rfl, (Rn.apply_rose hr2).1, HF2.out, ?_, below_row HBWX.out (Nat.le_refl _) _, HXSX.out.row, HRBX.out.rowFar (by omega) _⟩
          exact tensAt_keep HTX.out (fun b h => by rw [setRow_size]; exact h) (fun b h => setRow_other _ _ _ (by rcases h with h | h; have := HG.out b h; omega; omega)))
        clear hr2 HBAD HNEXT
        go_wp2_with (first | (refine load_row 24 rfl _ rfl (wr.heap.size) _ 24 HNX.out rfl _ Try.underlying24 rfl (by kernel_rfl) ?_) | (refine store_row 24 rfl _ _ rfl w.heap.size _ _ 24 HXSX.out rfl rfl (by kernel_rfl) rfl rfl ?_))
        go_roundw
        case rel => exact HX.out
        case measure => simp [intOf]; omega
end Go.Proofs.Ytgcgilcalmefgaa
