/- Walks: ring.All, ring.Apply: changes one behind the other: as Rn.all, Rn.apply. -/
import Derived.Test.YtgcgilcalmefgaaRnCp
import Derived.Test.YtgcgilcalmefgaaRnV
import Derived.Test.YtgcgilcalmefgaaRnW3
import Derived.Test.YtgcgilcalmefgaaRnF
namespace Go.Proofs.Ytgcgilcalmefgaa
open Go Go.RowKit Go.Sort
set_option maxRecDepth 100000
set_option linter.unusedSimpArgs false
set_option linter.unusedVariables false
set_option maxHeartbeats 4000000
namespace Rn
theorem doE_err {s : S} {e : E} {x : Int} (h : doE s e = .bad x) : x ≠ 0 := by
  unfold doE at h
  split at h
  · unfold doTen at h
    split at h
    · cases h; decide
    · dsimp only at h
      split at h
      · split at h
        · cases h; decide
        · cases h
      · cases h; decide
  · split at h
    · unfold doKey at h
      split at h
      · cases h; decide
      · split at h
        · cases h; decide
        · split at h
          · split at h
            · cases h; decide
            · cases h
          · split at h
            · cases h; decide
            · split at h
              · cases h; decide
              · split at h
                · cases h; decide
                · cases h
    · split at h
      · cases h; decide
      · cases h
theorem run_at {s st : S} {es : List E} {j : Nat} (h : run s (es.take j) = .ok st) : run s es = run st (es.drop j) := by
  conv => lhs; rw [← List.take_append_drop j es]
  rw [run_append, h]
theorem run_stop {s st : S} {es : List E} {j : Nat} (hj : j < es.length) (h : run s (es.take j) = .ok st) (hf : form es[j] = false) : run s es = .bad 2 := by
  rw [run_at h, List.drop_eq_getElem_cons hj, run_eq, if_pos hf]
theorem run_bad {s st : S} {es : List E} {j : Nat} {x : Int} (hj : j < es.length) (h : run s (es.take j) = .ok st) (hf : form es[j] = true) (hd : doE st es[j] = .bad x) : run s es = .bad x := by
  rw [run_at h, List.drop_eq_getElem_cons hj, run_eq, if_neg (by rw [hf]; decide), hd]
theorem run_next {s st t : S} {es : List E} {j : Nat} (hj : j < es.length) (h : run s (es.take j) = .ok st) (hf : form es[j] = true) (hd : doE st es[j] = .ok t) : run s (es.take (j + 1)) = .ok t := by
  rw [List.take_succ_eq_append_getElem hj, run_append, h]
  dsimp only
  rw [run_eq, if_neg (by rw [hf]; decide), hd]
  rfl
theorem all_right {s : S} {es : List E} (h : right s = true) : all s es = run s es := by unfold all; rw [if_neg (by rw [h]; decide)]
end Rn
theorem stI_new {ob base : Nat} {w : World} {s : Rn.S} {ps : List (Rn.T × Value)} {u : Value} (h : StI ob base w s ps u) (hb : base ≤ w.heap.size) : StI w.heap.size base (w.alloc (.cells #[u, .int .i64 s.serial] 24)) s ps u := by
  have hk := stI_keep h ((Below.refl w.heap.size w).alloc (Nat.le_refl _) (.cells #[u, .int .i64 s.serial] 24))
  obtain ⟨h1, h2, h3, h4, h5, h6⟩ := h
  obtain ⟨k1, k2, k3, k4, -, -⟩ := hk
  refine ⟨k1, Blk.new w _ _, k3, k4, ?_, hb⟩
  have ha := List.pairwise_cons.1 h5
  refine List.pairwise_cons.2 ⟨fun b hb => Or.inr (fun e => ?_), ha.2⟩
  subst e
  rcases List.mem_cons.1 hb with e | hm
  · have := (h3.lt _ e.symm).2; omega
  · obtain ⟨p, hp, e⟩ := List.mem_map.1 hm
    have := ((h4 p hp).1.lt _ e).2; omega
theorem retSE_stI {G : Nat → Prop} {s : Rn.S} {w w' : World} {ob base : Nat} {ps : List (Rn.T × Value)} {u : Value} {k : Nat} {cs : Array Value} (hb : Below w.heap.size w w') (h : StI ob base w' s ps u) (hk : w.heap.size ≤ k) (hkb : k < base) :
    RetSE G (.ok s) w (.returned (.tuple #[.agg #[u, .int .i64 s.serial], .int .i64 0])) (w'.setRow k cs) := by
  have h2 := stI_low h hkb (grown_setRow w' k cs)
  obtain ⟨A, c, rfl, hf, hT⟩ := stI_tens h2
  exact ⟨A, c, rfl, hf, below_row hb hk _, tensAt_keep hT (fun b h => Or.inr ⟨by omega, h.2⟩) (fun b h => rfl)⟩
theorem pall_right (s : Rn.S) (es : List Rn.E) (A B : Option Addr) (c d : Nat) (G : Nat → Prop) (w : World) (hG : ∀ b, G b → b < w.heap.size) (hl : s.tens.length ≤ 1000) (hT : TensAt G w A s.tens) (hr : Rn.right s = false) :
    Calls Try.prog 19 #[.agg #[.slice (A) (s).tens.length (c), .int .i64 (s).serial], .slice B es.length d] w (RetSE G (.bad 7) w) := by
  obtain ⟨W0, hW0⟩ : ∃ W0, W0 = (w.alloc (.cells #[.slice (A) (s).tens.length (c), .int .i64 (s).serial] 24)).alloc (.cells #[.slice none 0 0, .int .i64 0] 24) := ⟨_, rfl⟩
  have hb0 : Below w.heap.size w W0 := by rw [hW0]; exact ((Below.refl _ _).alloc (Nat.le_refl _) _).alloc (by simp) _
  have hB1 : Blk W0 w.heap.size #[.slice (A) (s).tens.length (c), .int .i64 (s).serial] 24 := by rw [hW0]; exact (Blk.new w _ _).alloc _
  have hB2 : Blk W0 (w.heap.size + 1) #[.slice none 0 0, .int .i64 0] 24 := by rw [hW0]; exact blk_new (by simp)
  have HC := hide (pright_any s A c G W0 (fun b h => Nat.lt_of_lt_of_le (hG b h) hb0.size) (by unfold maxLen; omega) (tensAt_keep hT (fun b h => h) (kept_below hb0 hG)))
  rw [hr] at HC
  have HB0 := hid_mk hb0
  have H1 := hid_mk hB1
  have H2 := hid_mk hB2
  have HW0 := hid_mk hW0
  (have y0 : W0.cell? ⟨w.heap.size, 0, none⟩ = some (.slice (A) (s).tens.length (c)) := hB1.cell 0; have y1 : W0.cell? ⟨w.heap.size, 1, none⟩ = some (.int .i64 (s).serial) := hB1.cell 1; have yf : ∀ i, W0.frozen? ⟨w.heap.size, i, none⟩ = false := hB1.frozen)
  clear hb0 hB1 hB2 hW0 hG hT hr
  go_enter Try.func19, Try.ntmps19
  go_wp2_with fail
  rw [← HW0.out]
  refine (unhide HC).mono ?_
  rintro e w1 ⟨rfl, hb1⟩
  have HB1 := hid_mk (HB0.out.trans (hb1.mono HB0.out.size))
  have HZ1 := hid_mk (H2.out.call hb1)
  clear hb1 HC y0 y1 yf
  go_wp2_with (first | (refine store_row 24 rfl _ _ rfl (w.heap.size + 1) _ _ 24 HZ1.out rfl rfl (by kernel_rfl) rfl rfl ?_))
  refine ret_row_tmp rfl (w.heap.size + 1) #[.slice none 0 0, .int .i64 0] 24 (.int .i64 7) (HZ1.out.row) rfl rfl _ Try.underlying24 rfl ?_ rfl ?_
  · kernel_rfl
  · exact retSE_bad 7 (below_row HB1.out (by omega) _)
def AllI (s : Rn.S) (es : List Rn.E) (w : World) (base ob : Nat) (v : Value) (wr : World) : Prop :=
  ∃ (j : Nat) (st : Rn.S) (ps : List (Rn.T × Value)) (u : Value), j ≤ es.length ∧ v = .int .i64 (j : Nat) ∧ Rn.run s (es.take j) = .ok st ∧ Rn.right st = true ∧ StI ob base wr st ps u ∧ Below w.heap.size w wr ∧ Blk wr (w.heap.size + 1) #[.slice none 0 0, .int .i64 0] 24
theorem pall_run (s : Rn.S) (es : List Rn.E) (A B : Option Addr) (c d : Nat) (G : Nat → Prop) (w : World) (hG : ∀ b, G b → b < w.heap.size) (hl : s.tens.length ≤ 1000) (hfit : Fits A s.tens.length c) (hT : TensAt G w A s.tens) (hel : es.length ≤ maxLen) (hE : EventsAt G w B es) (hr : Rn.right s = true) :
    Calls Try.prog 19 #[.agg #[.slice (A) (s).tens.length (c), .int .i64 (s).serial], .slice B es.length d] w (RetSE G (Rn.run s es) w) := by
  obtain ⟨W0, hW0⟩ : ∃ W0, W0 = (w.alloc (.cells #[.slice (A) (s).tens.length (c), .int .i64 (s).serial] 24)).alloc (.cells #[.slice none 0 0, .int .i64 0] 24) := ⟨_, rfl⟩
  have hb0 : Below w.heap.size w W0 := by rw [hW0]; exact ((Below.refl _ _).alloc (Nat.le_refl _) _).alloc (by simp) _
  have hs0 : W0.heap.size = w.heap.size + 2 := by rw [hW0]; simp
  have hB1 : Blk W0 w.heap.size #[.slice (A) (s).tens.length (c), .int .i64 (s).serial] 24 := by rw [hW0]; exact (Blk.new w _ _).alloc _
  have hB2 : Blk W0 (w.heap.size + 1) #[.slice none 0 0, .int .i64 0] 24 := by rw [hW0]; exact blk_new (by simp)
  have HC := hide (pright_any s A c G W0 (fun b h => Nat.lt_of_lt_of_le (hG b h) hb0.size) (by unfold maxLen; omega) (tensAt_keep hT (fun b h => h) (kept_below hb0 hG)))
  rw [hr] at HC
  have hkl : ∀ t ∈ s.tens, t.keys.length ≤ 1000 := fun t ht => by have := (Rn.ten_parts ((Rn.right_parts hr).2.2.1 t ht)).2.2.2.1; omega
  have HB0 := hid_mk hb0
  have HS0 := hid_mk hs0
  have H1 := hid_mk hB1
  have H2 := hid_mk hB2
  have HW0 := hid_mk hW0
  have HT := hid_mk hT
  have HG := hid_mk hG
  have HE := hid_mk hE
  have HFIT := hid_mk hfit
  have HKL := hid_mk hkl
  have HR := hid_mk hr
  unfold maxLen at hel
  (have y0 : W0.cell? ⟨w.heap.size, 0, none⟩ = some (.slice (A) (s).tens.length (c)) := hB1.cell 0; have y1 : W0.cell? ⟨w.heap.size, 1, none⟩ = some (.int .i64 (s).serial) := hB1.cell 1; have yf : ∀ i, W0.frozen? ⟨w.heap.size, i, none⟩ = false := hB1.frozen)
  clear hb0 hs0 hB1 hB2 hW0 hG hT hr hE hfit hkl
  go_enter Try.func19, Try.ntmps19
  go_wp2_with fail
  rw [← HW0.out]
  refine (unhide HC).mono ?_
  rintro e w1 ⟨rfl, hb1⟩
  have hbw1 := HB0.out.trans (hb1.mono HB0.out.size)
  have HCP := hide (copied_any s A c G w1 (fun b h => Nat.lt_of_lt_of_le (HG.out b h) hbw1.size) hl HKL.out HFIT.out (tensAt_keep HT.out (fun b h => h) (kept_below hbw1 HG.out)))
  have HBW1 := hid_mk hbw1
  have HX1 := hid_mk (H1.out.call hb1)
  have HX2 := hid_mk (H2.out.call hb1)
  have HS1 := hid_mk hb1.size
  have hx1 := HX1.out
  (have y0 : w1.cell? ⟨w.heap.size, 0, none⟩ = some (.slice (A) (s).tens.length (c)) := hx1.cell 0; have y1 : w1.cell? ⟨w.heap.size, 1, none⟩ = some (.int .i64 (s).serial) := hx1.cell 1; have yf : ∀ i, w1.frozen? ⟨w.heap.size, i, none⟩ = false := hx1.frozen)
  clear hb1 hbw1 HC hx1 HB0 H1 H2 HW0
  go_wp2_with fail
  refine (unhide HCP).mono ?_
  rintro e w2 ⟨ps, u, ob0, rfl, hb2, hst⟩
  obtain ⟨Au, cu, rfl⟩ := own_slice hst.2.2.1
  have HNEW := hid_mk (stI_new hst (by have := stI_base hst; omega))
  have hb3 : Below w1.heap.size w1 (w2.alloc (.cells #[.slice Au ps.length cu, .int .i64 s.serial] 24)) := hb2.alloc hb2.size _
  have HBW2 := hid_mk (HBW1.out.trans (hb3.mono HBW1.out.size))
  have HX22 := hid_mk (HX2.out.call hb3)
  have hw12 : w1.heap.size ≤ w2.heap.size := hb2.size
  clear hb2 hb3 hst HCP y0 y1 yf
  go_wp2
  go_loopw [8, 9, 18] (fun _ _ v wr => AllI s es w w1.heap.size w2.heap.size v wr) (fun _ _ v _ => es.length - (intOf v).toNat)
  case atStart => exact ⟨0, s, ps, _, Nat.zero_le _, rfl, rfl, HR.out, HNEW.out, HBW2.out, HX22.out⟩
  case round =>
    obtain ⟨j, st, qs, v, hj, rfl, hrun, hrt, hst, hbw, hrb⟩ := hrel
    obtain ⟨Av, cv, rfl⟩ := own_slice hst.2.2.1
    have HRUN := hid_mk hrun
    have HRT := hid_mk hrt
    have HST := hid_mk hst
    have HBW := hid_mk hbw
    have HRB := hid_mk hrb
    have hwb : w.heap.size + 1 < w1.heap.size := by have := HS0.out; have := HS1.out; omega
    clear HNEW HBW2 HX22 HX2 HX1 HBW1
    by_cases hlt : j < es.length
    case neg =>
      have hn : ¬ ((j : Int) < (es.length : Int)) := by omega
      have hjl : es.take j = es := List.take_of_length_le (by omega)
      rw [hjl] at hrun
      have HRET := hid_mk (retSE_stI (G := G) (k := w.heap.size + 1) (cs := #[.slice Av qs.length cv, .int .i64 st.serial]) hbw hst (by omega) hwb)
      have HRR : Hid (Rn.run s es = .ok st) := hid_mk hrun
      have HOB := hid_mk hst.2.1
      clear hrun hrt hst hbw hrb hjl
      go_wp2_with (first | (refine load_row 24 rfl _ rfl w2.heap.size _ 24 HOB.out rfl _ Try.underlying24 rfl (by kernel_rfl) ?_) | (refine store_row 24 rfl _ _ rfl (w.heap.size + 1) _ _ 24 HRB.out rfl rfl (by kernel_rfl) rfl rfl ?_))
      refine ret_row_tmp rfl (w.heap.size + 1) _ 24 (.int .i64 0) (HRB.out.row) rfl rfl _ Try.underlying24 rfl ?_ rfl ?_
      · kernel_rfl
      · rw [HRR.out]; exact HRET.out
    have hE2 := eventsAt_keep HE.out (fun b h => h) (kept_below hbw HG.out)
    obtain ⟨b, o, e1, hg1, hen, htx, x0, x1, x2, x3, x4⟩ := events_at hE2 hlt
    subst e1
    have HSTOP : Hid (Rn.form es[j] = false → Rn.run s es = .bad 2) := hid_mk (fun h => Rn.run_stop hlt hrun h)
    have HBAD : Hid (∀ x, Rn.form es[j] = true → Rn.doE st es[j] = .bad x → Rn.run s es = .bad x) := hid_mk (fun x h1 h2 => Rn.run_bad hlt hrun h1 h2)
    have HNEXT : Hid (∀ t, Rn.form es[j] = true → Rn.doE st es[j] = .ok t → Rn.run s (es.take (j + 1)) = .ok t) := hid_mk (fun x h1 h2 => Rn.run_next hlt hrun h1 h2)
    have hjl : (j : Int) < (es.length : Int) := by omega
    have hlt2 : j < es.length := hlt
    generalize es[j] = q at *
    have hba : Below wr.heap.size wr (wr.alloc (.cells #[.int .i64 (q).kind, .string (q).ten, .int .i64 (q).num, .int .i64 (q).epoch, .string (q).txt] 26)) := (Below.refl _ _).alloc (Nat.le_refl _) _
    have HC := hide (pform_any q (wr.alloc (.cells #[.int .i64 (q).kind, .string (q).ten, .int .i64 (q).num, .int .i64 (q).epoch, .string (q).txt] 26)) hen)
    have HBA := hid_mk hba
    have HQ := hid_mk (Blk.new wr #[.int .i64 (q).kind, .string (q).ten, .int .i64 (q).num, .int .i64 (q).epoch, .string (q).txt] 26)
    have HEN := hid_mk hen
    have HTX := hid_mk htx
    clear hE2 hrun hrt hst hbw hrb hba hen htx
    cases hf : Rn.form q with
    | false =>
      rw [hf] at HC
      have HRR := hid_mk (HSTOP.out hf)
      clear hf HSTOP HBAD HNEXT
      go_wp2_with fail
      refine (unhide HC).mono ?_
      rintro e w3 ⟨rfl, hb3⟩
      have hb4 := HBA.out.trans (hb3.mono HBA.out.size)
      have HB4 := hid_mk (HBW.out.trans (hb4.mono HBW.out.size))
      have HRB4 := hid_mk (HRB.out.call hb4)
      clear hb3 hb4 HC x0 x1 x2 x3 x4
      go_wp2_with (first | (refine store_row 24 rfl _ _ rfl (w.heap.size + 1) _ _ 24 HRB4.out rfl rfl (by kernel_rfl) rfl rfl ?_))
      refine ret_row_tmp rfl (w.heap.size + 1) #[.slice none 0 0, .int .i64 0] 24 (.int .i64 2) (HRB4.out.row) rfl rfl _ Try.underlying24 rfl ?_ rfl ?_
      · kernel_rfl
      · rw [HRR.out]; exact retSE_bad 2 (below_row HB4.out (by omega) _)
    | true =>
    rw [hf] at HC
    have HF := hid_mk hf
    clear hf HSTOP
    go_wp2_with fail
    refine (unhide HC).mono ?_
    rintro e w3 ⟨rfl, hb3⟩
    have hb4 := HBA.out.trans (hb3.mono HBA.out.size)
    have HB4 := hid_mk (HBW.out.trans (hb4.mono HBW.out.size))
    have HRB4 := hid_mk (HRB.out.call hb4)
    have HDO := hide (pdo_any st q w2.heap.size w1.heap.size qs _ w3 (stI_keep HST.out hb4) HRT.out HF.out HEN.out HTX.out)
    have hq3 := HQ.out.call hb3
    (have y0 : w3.cell? ⟨wr.heap.size, 0, none⟩ = some (.int .i64 (q).kind) := hq3.cell 0; have y1 : w3.cell? ⟨wr.heap.size, 1, none⟩ = some (.string (q).ten) := hq3.cell 1; have y2 : w3.cell? ⟨wr.heap.size, 2, none⟩ = some (.int .i64 (q).num) := hq3.cell 2; have y3 : w3.cell? ⟨wr.heap.size, 3, none⟩ = some (.int .i64 (q).epoch) := hq3.cell 3; have y4 : w3.cell? ⟨wr.heap.size, 4, none⟩ = some (.string (q).txt) := hq3.cell 4; have yf : ∀ i, w3.frozen? ⟨wr.heap.size, i, none⟩ = false := hq3.frozen)
    have hs3 : w1.heap.size ≤ w3.heap.size := by have := stI_base HST.out; have := hb4.size; omega
    clear hb3 hb4 hq3 HC x0 x1 x2 x3 x4
    go_wp2_with fail
    refine (unhide HDO).mono ?_
    rintro e w4 ⟨rfl, hb5, hok⟩
    have hBW5 : Below w.heap.size w w4 := HB4.out.trans (hb5.mono (by omega))
    have hRB5 : Blk w4 (w.heap.size + 1) #[.slice none 0 0, .int .i64 0] 24 := HRB4.out.below hb5 hwb
    have HB5 := hid_mk hBW5
    have HRB5 := hid_mk hRB5
    have HOK := hid_mk hok
    clear hb5 hok hBW5 hRB5 HDO y0 y1 y2 y3 y4 yf
    cases hd : Rn.doE st q with
    | bad x =>
      have HRR := hid_mk (HBAD.out x HF.out hd)
      have hx := Rn.doE_err hd
      have hx2 : (x != 0) = true := by simpa using hx
      clear hd HOK HBAD HNEXT
      rw [show Rn.err (Rn.R.bad x) = x from rfl]
      go_wp2_with (first | (refine store_row 24 rfl _ _ rfl (w.heap.size + 1) _ _ 24 HRB5.out rfl rfl (by kernel_rfl) rfl rfl ?_))
      refine ret_row_tmp rfl (w.heap.size + 1) #[.slice none 0 0, .int .i64 0] 24 (.int .i64 x) (HRB5.out.row) rfl rfl _ Try.underlying24 rfl ?_ rfl ?_
      · kernel_rfl
      · rw [HRR.out]; exact retSE_bad x (below_row HB5.out (by omega) _)
    | ok t =>
      have HX : Hid (AllI s es w w1.heap.size w2.heap.size (.int .i64 ((j : Int) + 1)) w4) := hid_mk (by
        obtain ⟨ps', u', hst'⟩ := HOK.out t hd
        exact ⟨j + 1, t, ps', u', by omega, by rw [show ((j + 1 : Nat) : Int) = (j : Int) + 1 by omega], HNEXT.out t HF.out hd, (Rn.do_rose HRT.out HF.out hd).1, hst', HB5.out, HRB5.out⟩)
      clear hd HOK HBAD HNEXT
      rw [show Rn.err (Rn.R.ok t) = 0 from rfl]
      go_wp2
      go_roundw
      case rel => exact HX.out
      case measure => simp [intOf]; omega
end Go.Proofs.Ytgcgilcalmefgaa
