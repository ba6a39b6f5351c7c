/- Walks: ring.tenant: a change of a tenant, in a state of one's own. -/
import Derived.Test.YtgcgilcalmefgaaRnN
import Derived.Test.YtgcgilcalmefgaaReg4
namespace Go.Proofs.Ytgcgilcalmefgaa
open Go Go.RowKit Go.Sort
set_option maxRecDepth 100000
set_option linter.unusedSimpArgs false
set_option linter.unusedVariables false
set_option maxHeartbeats 4000000
/-- a change is done in the state at ob, or an error comes back -/
def RetDo (ob base : Nat) (r : Rn.R) (w : World) (e : Ending) (w' : World) : Prop :=
  e = .returned (.int .i64 (Rn.err r)) ∧ Below base w w' ∧ ∀ t, r = .ok t → ∃ ps u, StI ob base w' t ps u
theorem stI_cell {ob base : Nat} {w : World} {s : Rn.S} {ps : List (Rn.T × Value)} {g c : Nat} (h : StI ob base w s ps (.slice (some ⟨g, 0, none⟩) ps.length c)) {i : Nat} (hi : i < ps.length) {r : Nat} (hr : r < 4) : w.cell? ⟨g, i * 4 + r, none⟩ = (rowT ps[i])[r]? := by
  obtain ⟨h1, h2, h3, h4, h5, h6⟩ := h
  rw [h3.cellAt (i * 4 + r) (by omega)]
  have e : ps = ps.take i ++ ps[i] :: ps.drop (i + 1) := by rw [List.getElem_cons_drop, List.take_append_drop]
  have hl : (ps.take i).length = i := by rw [List.length_take]; omega
  conv => lhs; rw [e]
  rw [List.flatMap_append, List.flatMap_cons, List.getElem?_append_right (by rw [flat_len rowT_len, hl]; omega), flat_len rowT_len, hl, show i * 4 + r - i * 4 = r by omega, List.getElem?_append_left (by rw [rowT_len]; exact hr)]
theorem stI_frozen {ob base : Nat} {w : World} {s : Rn.S} {ps : List (Rn.T × Value)} {g c : Nat} (h : StI ob base w s ps (.slice (some ⟨g, 0, none⟩) ps.length c)) (j : Nat) : w.frozen? ⟨g, j, none⟩ = false := h.2.2.1.frozenAt j
theorem stI_at {ob base : Nat} {w : World} {s : Rn.S} {ps : List (Rn.T × Value)} {u : Value} (h : StI ob base w s ps u) {i : Nat} (hi : i < s.tens.length) : ∃ h' : i < ps.length, ps[i].1 = s.tens[i] := by
  have hl := stI_len h
  refine ⟨by omega, ?_⟩
  have h1 := h.1
  have : (ps.map Prod.fst)[i]? = s.tens[i]? := by rw [h1]
  rw [List.getElem?_map, List.getElem?_eq_getElem (by omega), List.getElem?_eq_getElem hi] at this
  simpa using this
theorem rowT_one {base : Nat} {w : World} {p : Rn.T × Value} (h : OwnT base w p) : ∀ u ∈ rowT p, u.oneCell' = true := fun u hu => by
  obtain ⟨A, c, e, -, -⟩ := ownT_keys h
  unfold rowT at hu
  simp at hu
  rcases hu with rfl | rfl | rfl | rfl
  · rfl
  · rfl
  · rfl
  · rw [e]; rfl
theorem stI_base {ob base : Nat} {w : World} {s : Rn.S} {ps : List (Rn.T × Value)} {u : Value} (h : StI ob base w s ps u) : base < w.heap.size := by have := h.2.1.lt; have := h.2.2.2.2.2; omega
theorem ptenant_has (s : Rn.S) (ten txt : ByteArray) (num epoch : Int) (ob base : Nat) (ps : List (Rn.T × Value)) (u : Value) (w : World) (h : StI ob base w s ps u) (h16 : s.tens.length ≤ 16) (hris : Rn.rises Rn.ltT s.tens = true) (hen : ten.size ≤ maxLen) (hh : Rn.hasT s.tens ten = true) :
    Calls Try.prog 56 #[.pointer (some ⟨ob, 0, none⟩), .agg #[.int .i64 1, .string ten, .int .i64 num, .int .i64 epoch, .string txt]] w (RetDo ob base (Rn.doTen s ⟨1, ten, num, epoch, txt⟩) w) := by
  obtain ⟨hi, hnm⟩ := Rn.spotT_hit hh
  obtain ⟨W0, hW0⟩ : ∃ W0, W0 = w.alloc (.cells #[.int .i64 1, .string ten, .int .i64 num, .int .i64 epoch, .string txt] 26) := ⟨_, rfl⟩
  have hobw := h.2.1.lt
  have hb0 : Below w.heap.size w W0 := by rw [hW0]; exact (Below.refl _ _).alloc (Nat.le_refl _) _
  have hs0 := stI_keep h hb0
  have hev : Blk W0 w.heap.size #[.int .i64 1, .string ten, .int .i64 num, .int .i64 epoch, .string txt] 26 := by rw [hW0]; exact Blk.new w _ _
  obtain ⟨A, c, rfl, hfit, hT⟩ := stI_tens hs0
  have hpl := stI_len hs0
  have HUE := hid_mk (fun b e => (h.2.2.1.lt b e).2)
  have HB0 := hid_mk (show Below base w W0 from hb0.mono (by have := h.2.2.2.2.2; omega))
  obtain ⟨g, c', e, hbg, hgw, hgo⟩ := stI_row h (by omega)
  rw [hpl] at e
  obtain ⟨rfl, rfl⟩ : A = some ⟨g, 0, none⟩ ∧ c = c' := by simpa using e
  obtain ⟨hip, hpi⟩ := stI_at hs0 hi
  have HC : Hid (∀ d os, Calls Try.prog 63 #[.slice (some ⟨g, 0, none⟩) s.tens.length c, .string ten, .func (.func 64) #[] #[]] (grow (redrawn W0 d) os) (fun e w'' => e = .returned (.tuple #[.int .i64 ((Rn.spotT s.tens ten : Nat) : Int), .bool true]) ∧ ∃ p : Regrown, w'' = grow (redrawn W0 p.d) p.os)) := hid_mk (fun d os => by
    have hb := below_regrown W0 d os
    have h1 := binT_any s.tens (some ⟨g, 0, none⟩) c ten (fun b => base ≤ b ∧ b < W0.heap.size) (grow (redrawn W0 d) os) (fun b hb' => Nat.lt_of_lt_of_le hb'.2 hb.size) (by omega) (tensAt_keep hT (fun b h => h) (kept_below hb (fun b h => h.2))) hris
    rw [hh] at h1
    exact regrown_call h1)
  have HD : Hid (Rn.doTen s ⟨1, ten, num, epoch, txt⟩ = if epoch < s.tens[Rn.spotT s.tens ten].epoch ∨ num < s.tens[Rn.spotT s.tens ten].next then .bad 7 else .ok ⟨s.tens.set (Rn.spotT s.tens ten) ⟨s.tens[Rn.spotT s.tens ten].name, epoch, num, s.tens[Rn.spotT s.tens ten].keys⟩, s.serial⟩) := hid_mk (by
    unfold Rn.doTen
    dsimp only
    rw [hh, if_neg (fun h => by cases h.1), if_pos rfl, List.getElem?_eq_getElem hi])
  generalize hsp : Rn.spotT s.tens ten = i at *
  have z0 : ∀ d os, (grow (redrawn W0 d) os).cell? ⟨ob, 0, none⟩ = some (.slice (some ⟨g, 0, none⟩) s.tens.length c) := fun d os => cell_regrown (hs0.2.1.cell 0) d os
  have z1 : ∀ d os, (grow (redrawn W0 d) os).cell? ⟨w.heap.size, 1, none⟩ = some (.string ten) := fun d os => cell_regrown (hev.cell 1) d os
  have HS := hid_mk hs0
  have HE := hid_mk hev
  have hil : (i : Int) < (s.tens.length : Int) := by omega
  have HPI := hid_mk hpi
  have HPL := hid_mk hpl
  rw [← hpl] at HS
  have HW0 := hid_mk hW0
  have hgne : Hid (w.heap.size ≠ g) := hid_mk (fun e => by omega)
  clear hT hfit hs0 hev hnm hsp h hb0 hW0 hpl hpi
  go_enter Try.func56, Try.ntmps56
  go_wp2
  rw [← HW0.out]
  (refine wp_region_quiet_below (by kernel_rfl) (by kernel_rfl) ?_; (repeat (first | go_big_quiet_step ((go_at_call 63; exact HC.out _ _)) | quiet_step ((go_at_call 63; exact HC.out _ _)))); refine wpQuiet_nil ?_; intro _ hw'; obtain ⟨⟨nq, osq⟩, hw''⟩ := hw'; subst hw'')
  have hvb := below_regrown W0 nq osq
  have HBV := hid_mk (HB0.out.trans (hvb.mono (by have := HB0.out.size; have := stI_base HS.out; omega)))
  have HSV := hid_mk (stI_keep HS.out hvb)
  have HEV := hid_mk (HE.out.call hvb)
  clear hvb z0 z1 HC HS HE HB0
  generalize grow (redrawn W0 nq) osq = V at *
  have hq0 : V.cell? ⟨ob, 0, none⟩ = some (.slice (some ⟨g, 0, none⟩) s.tens.length c) := by rw [← HPL.out]; exact HSV.out.2.1.cell 0
  have hq1 : V.cell? ⟨ob, 1, none⟩ = some (.int .i64 s.serial) := HSV.out.2.1.cell 1
  have hk1 : V.cell? ⟨g, i * 4 + 1, none⟩ = some (.int .i64 s.tens[i].epoch) := by rw [stI_cell HSV.out hip (by decide)]; unfold rowT; rw [HPI.out]; rfl
  have hk2 : V.cell? ⟨g, i * 4 + 2, none⟩ = some (.int .i64 s.tens[i].next) := by rw [stI_cell HSV.out hip (by decide)]; unfold rowT; rw [HPI.out]; rfl
  generalize ht : s.tens[i] = t at *
  obtain ⟨tn, te, tx, tk⟩ := t
  dsimp only at hk1 hk2 HD
  have HT := hid_mk ht
  clear ht
  go_wp2
  have zk1 : ∀ d os, (grow (redrawn V d) os).cell? ⟨g, i * 4 + 1, none⟩ = some (.int .i64 te) := fun d os => cell_regrown hk1 d os
  have zk2 : ∀ d os, (grow (redrawn V d) os).cell? ⟨g, i * 4 + 2, none⟩ = some (.int .i64 tx) := fun d os => cell_regrown hk2 d os
  have ze2 : ∀ d os, (grow (redrawn V d) os).cell? ⟨w.heap.size, 2, none⟩ = some (.int .i64 num) := fun d os => cell_regrown (HEV.out.cell 2) d os
  have ze3 : ∀ d os, (grow (redrawn V d) os).cell? ⟨w.heap.size, 3, none⟩ = some (.int .i64 epoch) := fun d os => cell_regrown (HEV.out.cell 3) d os
  clear hk1 hk2
  by_cases c1 : epoch < te
  · have HE : Hid (RetDo ob base (Rn.doTen s ⟨1, ten, num, epoch, txt⟩) w = RetDo ob base (.bad 7) w) := hid_mk (by rw [HD.out, if_pos (Or.inl c1)])
    have f1 : decide (epoch < te) = true := decide_eq_true c1
    clear HD c1
    (refine wp_region_quiet_below (by kernel_rfl) (by kernel_rfl) ?_; (repeat (first | go_big_quiet_step (fail) | quiet_step (fail))); refine wpQuiet_nil ?_; intro _ hw'; obtain ⟨⟨nq, osq⟩, hw''⟩ := hw'; subst hw'')
    have HBE := hid_mk (HBV.out.trans ((below_regrown V nq osq).mono (by have := HBV.out.size; have := stI_base HSV.out; omega)))
    clear zk1 zk2 ze2 ze3
    generalize grow (redrawn V nq) osq = X at *
    go_wp2
    go_ret
    rw [HE.out]
    exact ⟨rfl, HBE.out, fun t h => by cases h⟩
  by_cases c2 : num < tx
  · have HE : Hid (RetDo ob base (Rn.doTen s ⟨1, ten, num, epoch, txt⟩) w = RetDo ob base (.bad 7) w) := hid_mk (by rw [HD.out, if_pos (Or.inr c2)])
    have f1 : decide (epoch < te) = false := decide_eq_false c1
    have f2 : decide (num < tx) = true := decide_eq_true c2
    clear HD c1 c2
    (refine wp_region_quiet_below (by kernel_rfl) (by kernel_rfl) ?_; (repeat (first | go_big_quiet_step (fail) | quiet_step (fail))); refine wpQuiet_nil ?_; intro _ hw'; obtain ⟨⟨nq, osq⟩, hw''⟩ := hw'; subst hw'')
    have HBE := hid_mk (HBV.out.trans ((below_regrown V nq osq).mono (by have := HBV.out.size; have := stI_base HSV.out; omega)))
    clear zk1 zk2 ze2 ze3
    generalize grow (redrawn V nq) osq = X at *
    go_wp2
    go_ret
    rw [HE.out]
    exact ⟨rfl, HBE.out, fun t h => by cases h⟩
  have HE : Hid (RetDo ob base (Rn.doTen s ⟨1, ten, num, epoch, txt⟩) w = RetDo ob base (.ok ⟨s.tens.set i ⟨tn, epoch, num, tk⟩, s.serial⟩) w) := hid_mk (by rw [HD.out, if_neg (by omega)])
  have f1 : decide (epoch < te) = false := decide_eq_false c1
  have f2 : decide (num < tx) = false := decide_eq_false c2
  clear HD c1 c2
  (refine wp_region_quiet_below (by kernel_rfl) (by kernel_rfl) ?_; (repeat (first | go_big_quiet_step (fail) | quiet_step (fail))); refine wpQuiet_nil ?_; intro _ hw'; obtain ⟨⟨nq, osq⟩, hw''⟩ := hw'; subst hw'')
  have hvx := below_regrown V nq osq
  have HBX := hid_mk (HBV.out.trans (hvx.mono (by have := HBV.out.size; have := stI_base HSV.out; omega)))
  have HSX := hid_mk (stI_keep HSV.out hvx)
  have HEX := hid_mk (HEV.out.call hvx)
  clear hvx zk1 zk2 ze2 ze3 HSV HEV HBV hq0 hq1
  generalize grow (redrawn V nq) osq = X at *
  have ze2 : ∀ p : InB (fun x => Blk x w.heap.size #[.int .i64 1, .string ten, .int .i64 num, .int .i64 epoch, .string txt] 26), p.w.cell? ⟨w.heap.size, 2, none⟩ = some (.int .i64 num) := fun p => p.ok.cell 2
  have ze3 : ∀ p : InB (fun x => Blk x w.heap.size #[.int .i64 1, .string ten, .int .i64 num, .int .i64 epoch, .string txt] 26), p.w.cell? ⟨w.heap.size, 3, none⟩ = some (.int .i64 epoch) := fun p => p.ok.cell 3
  have hrow : rowT ps[i] = [.string tn, .int .i64 te, .int .i64 tx, ps[i].2] := by unfold rowT; rw [HPI.out]
  have HF1 := hid_mk (stI_num (r := 1) (v := .int .i64 epoch) (t := ⟨tn, epoch, tx, tk⟩) HSX.out hip (by decide) (by rw [hrow]; rfl) (by rw [HPI.out]) (by have := (HSX.out.2.2.2.1 _ (List.getElem_mem hip)).2.1; rw [HPI.out] at this; exact this))
  have hk1 : X.cell? ⟨g, i * 4 + 1, none⟩ = some (.int .i64 te) := by rw [stI_cell HSX.out hip (by decide), hrow]; rfl
  have hk2 : X.cell? ⟨g, i * 4 + 2, none⟩ = some (.int .i64 tx) := by rw [stI_cell HSX.out hip (by decide), hrow]; rfl
  have hkf := stI_frozen HSX.out
  clear hrow
  have hsl : Hid ((ps.set i ((⟨tn, epoch, tx, tk⟩ : Rn.T), ps[i].2)).length = ps.length) := hid_mk (by rw [List.length_set])
  have HF2 := hid_mk (stI_num (r := 2) (v := .int .i64 num) (t := ⟨tn, epoch, num, tk⟩) (by rw [hsl.out]; exact HF1.out.1) (i := i) (by rw [hsl.out]; exact hip) (by decide) (by rw [List.getElem_set_self]; rfl) (by rw [List.getElem_set_self]) (by have := (HSX.out.2.2.2.1 _ (List.getElem_mem hip)).2.1; rw [HPI.out] at this; exact this))
  have HFB := hid_mk (HBX.out.trans (HF1.out.2.trans HF2.out.2))
  go_wp2
  (refine region_plan (S := Meets (fun x => Blk x w.heap.size #[.int .i64 1, .string ten, .int .i64 num, .int .i64 epoch, .string txt] 26)) (.read 0 _ (.read 1 _ (.read 2 _ (.read 3 _ (.read 4 _ (.read 5 _ (.read 6 _ (.read 7 _ (.one 8 _ (.read 9 _ (.read 10 _ (.one 11 _ .tail)))))))))))) 12 (by kernel_rfl) (by kernel_rfl) ⟨rfl, ⟨rfl, ⟨rfl, ⟨rfl, ⟨rfl, ⟨rfl, ⟨rfl, ⟨rfl, ⟨rfl, ⟨rfl, ⟨rfl, ⟨rfl, trivial⟩⟩⟩⟩⟩⟩⟩⟩⟩⟩⟩⟩ (by kernel_rfl) (by kernel_rfl) (fun d v c a w h => by cases d <;> exact h) (fun w p h => by obtain ⟨q, rfl⟩ := h; exact meets_mk ((fun h p => h.call (below_regrown _ _ _)) q.ok p)) (meets_mk ?_) ?_)
  · exact HEX.out
  intro J hJ
  (repeat (refine planWp_read (fun K hK => ?_); go_simp; (first | (refine hK _ ?_; clear hK K) | (apply Exists.intro; refine ⟨fun _ => rfl, hK _ ?_⟩; clear hK K))))
  refine planWp_skip rfl (w' := (X.setCell ⟨g, i * 4 + 1, none⟩ (.int .i64 epoch)).drew) (by go_simp) (meets_mk ?_) ?_
  · exact HEX.out.far hgne.out _
  (repeat (refine planWp_read (fun K hK => ?_); go_simp; (first | (refine hK _ ?_; clear hK K) | (apply Exists.intro; refine ⟨fun _ => rfl, hK _ ?_⟩; clear hK K))))
  refine planWp_skip rfl (w' := ((X.setCell ⟨g, i * 4 + 1, none⟩ (.int .i64 epoch)).setCell ⟨g, i * 4 + 2, none⟩ (.int .i64 num)).drew) (by go_simp) (meets_mk ?_) ?_
  · exact (HEX.out.far hgne.out _).far hgne.out _
  refine planWp_tail (hJ _ _ (meets_mk ?_) ?_)
  · exact (HEX.out.far hgne.out _).far hgne.out _
  (unfold PairEnd; simp only [List.drop_succ_cons, List.drop_zero]; refine wpQuiet_nil ?_; intro _ hw'; obtain ⟨⟨nq, osq⟩, hw''⟩ := hw'; subst hw'')
  have HF3 : Hid (∃ ps' u', StI ob base ((X.setCell ⟨g, i * 4 + 1, none⟩ (.int .i64 epoch)).setCell ⟨g, i * 4 + 2, none⟩ (.int .i64 num)).drew ⟨s.tens.set i ⟨tn, epoch, num, tk⟩, s.serial⟩ ps' u') := hid_mk (by
    have h := HF2.out.1
    have e : (s.tens.set i ⟨tn, epoch, tx, tk⟩).set i ⟨tn, epoch, num, tk⟩ = s.tens.set i ⟨tn, epoch, num, tk⟩ := List.set_set ..
    rw [e] at h
    exact ⟨_, _, h⟩)
  have HFC : Hid (Below base w ((X.setCell ⟨g, i * 4 + 1, none⟩ (.int .i64 epoch)).setCell ⟨g, i * 4 + 2, none⟩ (.int .i64 num)).drew) := hid_mk HFB.out.drew
  clear hJ hk1 hk2 hkf ze2 ze3 HFB HF1 HF2 HEX HSX HBX
  generalize ((X.setCell ⟨g, i * 4 + 1, none⟩ (.int .i64 epoch)).setCell ⟨g, i * 4 + 2, none⟩ (.int .i64 num)).drew = Y at *
  have hvy := below_regrown Y nq osq
  have HF4 : Hid (∃ ps' u', StI ob base (grow (redrawn Y nq) osq) ⟨s.tens.set i ⟨tn, epoch, num, tk⟩, s.serial⟩ ps' u') := hid_mk (by
    obtain ⟨ps', u', h⟩ := HF3.out
    exact ⟨ps', u', stI_keep h hvy⟩)
  have HFD := hid_mk (HFC.out.trans (hvy.mono (by
    obtain ⟨ps', u', h⟩ := HF3.out
    have := h.2.1.lt; have := h.2.2.2.2.2; omega)))
  clear hvy HF3 HFC
  generalize grow (redrawn Y nq) osq = Z at *
  go_wp2
  go_ret
  rw [HE.out]
  exact ⟨rfl, HFD.out, fun t h => by cases h; exact HF4.out⟩
theorem ptenant_full (s : Rn.S) (ten txt : ByteArray) (num epoch : Int) (ob base : Nat) (ps : List (Rn.T × Value)) (u : Value) (w : World) (h : StI ob base w s ps u) (h16 : s.tens.length = 16) (hris : Rn.rises Rn.ltT s.tens = true) (hen : ten.size ≤ maxLen) (hh : Rn.hasT s.tens ten = false) :
    Calls Try.prog 56 #[.pointer (some ⟨ob, 0, none⟩), .agg #[.int .i64 1, .string ten, .int .i64 num, .int .i64 epoch, .string txt]] w (RetDo ob base (Rn.doTen s ⟨1, ten, num, epoch, txt⟩) w) := by
  have H16 := hid_mk h16
  obtain ⟨W0, hW0⟩ : ∃ W0, W0 = w.alloc (.cells #[.int .i64 1, .string ten, .int .i64 num, .int .i64 epoch, .string txt] 26) := ⟨_, rfl⟩
  have hobw := h.2.1.lt
  have hb0 : Below w.heap.size w W0 := by rw [hW0]; exact (Below.refl _ _).alloc (Nat.le_refl _) _
  have hs0 := stI_keep h hb0
  have hev : Blk W0 w.heap.size #[.int .i64 1, .string ten, .int .i64 num, .int .i64 epoch, .string txt] 26 := by rw [hW0]; exact Blk.new w _ _
  obtain ⟨A, c, rfl, hfit, hT⟩ := stI_tens hs0
  have hpl := stI_len hs0
  have HUE := hid_mk (fun b e => (h.2.2.1.lt b e).2)
  have HB0 := hid_mk (show Below base w W0 from hb0.mono (by have := h.2.2.2.2.2; omega))
  have HC : Hid (∀ d os, Calls Try.prog 63 #[.slice A 16 c, .string ten, .func (.func 64) #[] #[]] (grow (redrawn W0 d) os) (fun e w'' => e = .returned (.tuple #[.int .i64 ((Rn.spotT s.tens ten : Nat) : Int), .bool false]) ∧ ∃ p : Regrown, w'' = grow (redrawn W0 p.d) p.os)) := hid_mk (fun d os => by
    have hb := below_regrown W0 d os
    have h1 := binT_any s.tens A c ten (fun b => base ≤ b ∧ b < W0.heap.size) (grow (redrawn W0 d) os) (fun b hb' => Nat.lt_of_lt_of_le hb'.2 hb.size) (by omega) (tensAt_keep hT (fun b h => h) (kept_below hb (fun b h => h.2))) hris
    rw [hh] at h1
    rw [H16.out] at h1
    exact regrown_call h1)
  have hile := Rn.spotT_le s.tens ten
  have HD : Hid (Rn.doTen s ⟨1, ten, num, epoch, txt⟩ = .bad 3) := hid_mk (by
    unfold Rn.doTen
    dsimp only
    rw [if_pos ⟨hh, h16⟩])
  generalize hsp : Rn.spotT s.tens ten = i at *
  have z0 : ∀ d os, (grow (redrawn W0 d) os).cell? ⟨ob, 0, none⟩ = some (.slice A 16 c) := fun d os => by
    have h1 := cell_regrown (hs0.2.1.cell 0) d os
    rw [H16.out] at h1
    exact h1
  have z1 : ∀ d os, (grow (redrawn W0 d) os).cell? ⟨w.heap.size, 1, none⟩ = some (.string ten) := fun d os => cell_regrown (hev.cell 1) d os
  have HS := hid_mk hs0
  have HE := hid_mk hev
  have HPL := hid_mk hpl
  have HW0 := hid_mk hW0
  clear hT hfit hs0 hev hsp h hb0 hW0 hpl h16
  go_enter Try.func56, Try.ntmps56
  go_wp2
  rw [← HW0.out]
  (refine wp_region_quiet_below (by kernel_rfl) (by kernel_rfl) ?_; (repeat (first | go_big_quiet_step ((go_at_call 63; exact HC.out _ _)) | quiet_step ((go_at_call 63; exact HC.out _ _)))); refine wpQuiet_nil ?_; intro _ hw'; obtain ⟨⟨nq, osq⟩, hw''⟩ := hw'; subst hw'')
  have hvb := below_regrown W0 nq osq
  have HBV := hid_mk (HB0.out.trans (hvb.mono (by have := HB0.out.size; have := stI_base HS.out; omega)))
  have HSV := hid_mk (stI_keep HS.out hvb)
  have HEV := hid_mk (HE.out.call hvb)
  have HVS := hid_mk (show w.heap.size < (grow (redrawn W0 nq) osq).heap.size from (HE.out.call hvb).lt)
  clear hvb z0 z1 HC HS HE HB0
  generalize grow (redrawn W0 nq) osq = V at *
  have hq0 : V.cell? ⟨ob, 0, none⟩ = some (.slice A 16 c) := by
    have h1 := HSV.out.2.1.cell 0
    rw [H16.out] at h1
    exact h1
  go_wp2
  go_ret
  rw [HD.out]
  exact ⟨rfl, HBV.out, fun t h => by cases h⟩
theorem ptenant_new (s : Rn.S) (ten txt : ByteArray) (num epoch : Int) (ob base : Nat) (ps : List (Rn.T × Value)) (u : Value) (w : World) (h : StI ob base w s ps u) (h16 : ¬ s.tens.length = 16) (h16' : s.tens.length ≤ 16) (hris : Rn.rises Rn.ltT s.tens = true) (hen : ten.size ≤ maxLen) (hh : Rn.hasT s.tens ten = false) (h0e : 0 ≤ epoch) (h0n : 0 ≤ num) :
    Calls Try.prog 56 #[.pointer (some ⟨ob, 0, none⟩), .agg #[.int .i64 1, .string ten, .int .i64 num, .int .i64 epoch, .string txt]] w (RetDo ob base (Rn.doTen s ⟨1, ten, num, epoch, txt⟩) w) := by
  obtain ⟨W0, hW0⟩ : ∃ W0, W0 = w.alloc (.cells #[.int .i64 1, .string ten, .int .i64 num, .int .i64 epoch, .string txt] 26) := ⟨_, rfl⟩
  have hobw := h.2.1.lt
  have hb0 : Below w.heap.size w W0 := by rw [hW0]; exact (Below.refl _ _).alloc (Nat.le_refl _) _
  have hs0 := stI_keep h hb0
  have hev : Blk W0 w.heap.size #[.int .i64 1, .string ten, .int .i64 num, .int .i64 epoch, .string txt] 26 := by rw [hW0]; exact Blk.new w _ _
  obtain ⟨A, c, rfl, hfit, hT⟩ := stI_tens hs0
  have hpl := stI_len hs0
  have HUE := hid_mk (fun b e => (h.2.2.1.lt b e).2)
  have HB0 := hid_mk (show Below base w W0 from hb0.mono (by have := h.2.2.2.2.2; omega))
  have HC : Hid (∀ d os, Calls Try.prog 63 #[.slice A s.tens.length c, .string ten, .func (.func 64) #[] #[]] (grow (redrawn W0 d) os) (fun e w'' => e = .returned (.tuple #[.int .i64 ((Rn.spotT s.tens ten : Nat) : Int), .bool false]) ∧ ∃ p : Regrown, w'' = grow (redrawn W0 p.d) p.os)) := hid_mk (fun d os => by
    have hb := below_regrown W0 d os
    have h1 := binT_any s.tens A c ten (fun b => base ≤ b ∧ b < W0.heap.size) (grow (redrawn W0 d) os) (fun b hb' => Nat.lt_of_lt_of_le hb'.2 hb.size) (by omega) (tensAt_keep hT (fun b h => h) (kept_below hb (fun b h => h.2))) hris
    rw [hh] at h1
    exact regrown_call h1)
  have hile := Rn.spotT_le s.tens ten
  have HD : Hid (Rn.doTen s ⟨1, ten, num, epoch, txt⟩ = if epoch < 0 ∨ num < 0 then .bad 7 else .ok ⟨(Rn.ins s.tens (Rn.spotT s.tens ten) (Rn.zeroT ten)).set (Rn.spotT s.tens ten) ⟨ten, epoch, num, []⟩, s.serial⟩) := hid_mk (by
    unfold Rn.doTen
    dsimp only
    rw [hh, if_neg (fun h => h16 h.2), if_neg (by simp), Rn.ins_get _ (Rn.spotT_le _ _)]
    rfl)
  have f16 : ((s.tens.length : Int) == 16) = false := by
    rw [beq_eq_false_iff_ne]; omega
  have f16' : ¬ (s.tens.length : Int) = 16 := by omega
  generalize hsp : Rn.spotT s.tens ten = i at *
  have z0 : ∀ d os, (grow (redrawn W0 d) os).cell? ⟨ob, 0, none⟩ = some (.slice A s.tens.length c) := fun d os => by
    have h1 := cell_regrown (hs0.2.1.cell 0) d os
    exact h1
  have z1 : ∀ d os, (grow (redrawn W0 d) os).cell? ⟨w.heap.size, 1, none⟩ = some (.string ten) := fun d os => cell_regrown (hev.cell 1) d os
  have HS := hid_mk hs0
  have HE := hid_mk hev
  have HPL := hid_mk hpl
  have HW0 := hid_mk hW0
  clear hT hfit hs0 hev hsp h hb0 hW0 hpl
  go_enter Try.func56, Try.ntmps56
  go_wp2
  rw [← HW0.out]
  (refine wp_region_quiet_below (by kernel_rfl) (by kernel_rfl) ?_; (repeat (first | go_big_quiet_step ((go_at_call 63; exact HC.out _ _)) | quiet_step ((go_at_call 63; exact HC.out _ _)))); refine wpQuiet_nil ?_; intro _ hw'; obtain ⟨⟨nq, osq⟩, hw''⟩ := hw'; subst hw'')
  have hvb := below_regrown W0 nq osq
  have HBV := hid_mk (HB0.out.trans (hvb.mono (by have := HB0.out.size; have := stI_base HS.out; omega)))
  have HSV := hid_mk (stI_keep HS.out hvb)
  have HEV := hid_mk (HE.out.call hvb)
  have HVS := hid_mk (show w.heap.size < (grow (redrawn W0 nq) osq).heap.size from (HE.out.call hvb).lt)
  clear hvb z0 z1 HC HS HE HB0
  generalize grow (redrawn W0 nq) osq = V at *
  have hq0 : V.cell? ⟨ob, 0, none⟩ = some (.slice A s.tens.length c) := by
    have h1 := HSV.out.2.1.cell 0
    exact h1
  go_wp2
  have zb0 : ∀ p : InB (fun x => Blk x w.heap.size #[.int .i64 1, .string ten, .int .i64 num, .int .i64 epoch, .string txt] 26 ∧ Blk x ob #[.slice A s.tens.length c, .int .i64 s.serial] 24), p.w.cell? ⟨ob, 0, none⟩ = some (.slice A s.tens.length c) := fun p => p.ok.2.cell 0
  have zb1 : ∀ p : InB (fun x => Blk x w.heap.size #[.int .i64 1, .string ten, .int .i64 num, .int .i64 epoch, .string txt] 26 ∧ Blk x ob #[.slice A s.tens.length c, .int .i64 s.serial] 24), p.w.cell? ⟨w.heap.size, 1, none⟩ = some (.string ten) := fun p => p.ok.1.cell 1
  (refine region_planT (S := Meets (fun x => Blk x w.heap.size #[.int .i64 1, .string ten, .int .i64 num, .int .i64 epoch, .string txt] 26 ∧ Blk x ob #[.slice A s.tens.length c, .int .i64 s.serial] 24)) (.read 0 _ (.read 1 _ (.read 2 _ (.read 3 _ (.read 4 _ (.read 5 _ (.read 6 _ (.read 7 _ (.read 8 _ (.one 9 _ (.one 10 _ .tail))))))))))) 11 (by kernel_rfl) (by kernel_rfl) ⟨rfl, ⟨rfl, ⟨rfl, ⟨rfl, ⟨rfl, ⟨rfl, ⟨rfl, ⟨rfl, ⟨rfl, ⟨rfl, ⟨rfl, trivial⟩⟩⟩⟩⟩⟩⟩⟩⟩⟩⟩ (by kernel_rfl) (by kernel_rfl) (by kernel_rfl) (by kernel_rfl) (fun d v c a w h => by cases d <;> exact h) (meets_mk ?_) ?_)
  · exact ⟨HEV.out, HSV.out.2.1⟩
  intro J hJ
  have HJ := hid_mk hJ
  clear hJ
  (repeat (refine planWp_read (fun K hK => ?_); go_simp; (first | (refine hK _ ?_; clear hK K) | (apply Exists.intro; refine ⟨fun _ => rfl, hK _ ?_⟩; clear hK K))))
  obtain ⟨V1, hV1⟩ : ∃ V1, V1 = (V.alloc (.cells #[.string ten, .int .i64 0, .int .i64 0, .slice none 0 0] 38)).drew := ⟨_, rfl⟩
  have hbv1 : Below V.heap.size V V1 := by rw [hV1]; exact ((Below.refl _ _).alloc (Nat.le_refl _) _).drew
  have hs1 := stI_keep HSV.out hbv1
  have hvb1 : V1.heap[V.heap.size]? = some (.cells #[.string ten, .int .i64 0, .int .i64 0, .slice none 0 0] 38 (0, 0)) := by rw [hV1]; exact heap_alloc_new V _
  have hpl1 := HPL.out
  have hcall := insT_any (.slice A s.tens.length c) ps.length i (ps.flatMap rowT) (rowT ((⟨ten, 0, 0, []⟩ : Rn.T), .slice none 0 0)) V.heap.size base V1 hs1.2.2.1 (by omega) (by omega) rfl (fun u hu => by unfold rowT at hu; simp at hu; rcases hu with rfl | rfl | rfl | rfl <;> rfl) hvb1
    (fun e => by have := (HSV.out.2.2.1.lt _ e).2; omega) (by have := stI_base hs1; omega) (fun u hu => by
      rw [List.mem_flatMap] at hu
      obtain ⟨p, hp, hu⟩ := hu
      exact rowT_one (hs1.2.2.2.1 p hp) u hu)
  have HCALL := hid_mk hcall
  have HS1 := hid_mk hs1
  have HBV1 := hid_mk (HBV.out.trans (hbv1.mono (by have := stI_base HSV.out; omega)))
  have HE1 := hid_mk (HEV.out.call hbv1)
  have HVV := hid_mk (show V.heap.size < V1.heap.size by rw [hV1]; simp)
  have hV1' := hid_mk hV1
  clear hcall hs1 hvb1 hbv1 hV1 hpl1
  refine planWp_value (.slice (some ⟨V.heap.size, 0, none⟩) 1 1) rfl (w' := V1) (by rw [hV1'.out]; go_simp) (meets_mk ⟨HE1.out, HS1.out.2.1⟩) ?_
  refine planWp_call 65 #[.slice A s.tens.length c, .int .i64 i, .slice (some ⟨V.heap.size, 0, none⟩) 1 1] _ rfl (by go_simp) HCALL.out ?_
  rintro e w1 ⟨u', rfl, hown, hgr, hat⟩
  have hut := hid_mk (show (Value.slice A s.tens.length c).ownBlock ≠ some ob from fun e => by
    have h5 := HS1.out.2.2.2.2.1
    rcases (List.pairwise_cons.1 h5).1 _ (List.mem_cons_self ..) with h | h
    · cases h
    · exact h e.symm)
  have hue := hid_mk (show (Value.slice A s.tens.length c).ownBlock ≠ some w.heap.size from fun e => by
    have := HUE.out _ e; omega)
  have HE2 := hid_mk (blk_grown HE1.out hgr (fun e => hue.out e.symm))
  have HO2 := hid_mk (blk_grown HS1.out.2.1 hgr (fun e => hut.out e.symm))
  have HIN := hid_mk (stI_ins (t := ⟨ten, 0, 0, []⟩) HS1.out (by have := HPL.out; omega) rfl hen (by have := stI_base HS1.out; omega) hown hgr hat)
  refine ⟨u', rfl, meets_mk ⟨HE2.out, HO2.out⟩, planWp_tail (HJ.out _ _ (meets_mk ⟨HE2.out, HO2.out⟩) ?_)⟩
  simp only [List.drop_succ_cons, List.drop_zero]
  obtain ⟨g, c2, hu', hbg2, hgw2, hgo2⟩ := stI_row HIN.out.1 (by rw [Rn.ins_length (by have := HPL.out; omega)]; omega)
  have hgne : Hid (w.heap.size ≠ g) := hid_mk (fun e => by
    subst hu'
    rcases hat with h | h
    · exact hue.out (by rw [← h, e]; rfl)
    · have : g = V1.heap.size := by injection h
      have := HVS.out; have := HVV.out; omega)
  have HBW := hid_mk (HBV1.out.trans HIN.out.2)
  have HEW := hid_mk (HE2.out.far (p := ⟨ob, 0, none⟩) (by show w.heap.size ≠ ob; omega) u')
  have hob2 := HO2.out
  have ho0 : w1.cell? ⟨ob, 0, none⟩ = some (.slice A s.tens.length c) := hob2.cell 0
  have hof : ∀ j, w1.frozen? ⟨ob, j, none⟩ = false := hob2.frozen
  clear hob2 hown hgr hat HCALL HE1 HS1 HBV1 HVV hV1' HSV HEV HBV hq0 HJ zb0 zb1
  subst hu'
  have hlen : (Rn.ins ps i ((⟨ten, 0, 0, []⟩ : Rn.T), Value.slice none 0 0)).length = s.tens.length + 1 := by rw [Rn.ins_length (by have := HPL.out; omega), HPL.out]
  have hget : (Rn.ins ps i ((⟨ten, 0, 0, []⟩ : Rn.T), Value.slice none 0 0))[i]? = some ((⟨ten, 0, 0, []⟩ : Rn.T), Value.slice none 0 0) := Rn.ins_get _ (by have := HPL.out; omega) _
  generalize Rn.ins ps i ((⟨ten, 0, 0, []⟩ : Rn.T), Value.slice none 0 0) = qs at *
  have hip : i < qs.length := by omega
  have HPI : Hid (qs[i].1 = ⟨ten, 0, 0, []⟩) := hid_mk (by rw [List.getElem?_eq_getElem hip] at hget; injection hget with e; rw [e])
  have hil : (i : Int) < (qs.length : Int) := by omega
  have HDD : Hid (Rn.doTen s ⟨1, ten, num, epoch, txt⟩ = if epoch < (0 : Int) ∨ num < (0 : Int) then .bad 7 else .ok ⟨(Rn.ins s.tens i ⟨ten, 0, 0, []⟩).set i ⟨ten, epoch, num, []⟩, s.serial⟩) := hid_mk HD.out
  have HIN1 := hid_mk HIN.out.1
  clear hlen hget HD HIN
  generalize Rn.ins s.tens i ⟨ten, 0, 0, []⟩ = L at *
  have HD := HDD
  clear HDD
  go_wp2
  have HSV := HIN1
  have HEV := HEW
  have HBV := HBW
  clear HIN1 HEW HBW ho0 hof
  clear HVS
  obtain ⟨VO, hVO⟩ : ∃ VO, VO = V := ⟨_, rfl⟩
  subst hVO
  generalize w1.setCell ⟨ob, 0, none⟩ (.slice (some ⟨g, 0, none⟩) qs.length c2) = V at *
  have hk1 : V.cell? ⟨g, i * 4 + 1, none⟩ = some (.int .i64 0) := by rw [stI_cell HSV.out hip (by decide)]; unfold rowT; rw [HPI.out]; rfl
  have hk2 : V.cell? ⟨g, i * 4 + 2, none⟩ = some (.int .i64 0) := by rw [stI_cell HSV.out hip (by decide)]; unfold rowT; rw [HPI.out]; rfl
  have hq0 := trivial
  have hq1 := trivial
  have zk1 : ∀ d os, (grow (redrawn V d) os).cell? ⟨g, i * 4 + 1, none⟩ = some (.int .i64 0) := fun d os => cell_regrown hk1 d os
  have zk2 : ∀ d os, (grow (redrawn V d) os).cell? ⟨g, i * 4 + 2, none⟩ = some (.int .i64 0) := fun d os => cell_regrown hk2 d os
  have ze2 : ∀ d os, (grow (redrawn V d) os).cell? ⟨w.heap.size, 2, none⟩ = some (.int .i64 num) := fun d os => cell_regrown (HEV.out.cell 2) d os
  have ze3 : ∀ d os, (grow (redrawn V d) os).cell? ⟨w.heap.size, 3, none⟩ = some (.int .i64 epoch) := fun d os => cell_regrown (HEV.out.cell 3) d os
  clear hk1 hk2
  by_cases c1 : epoch < (0 : Int)
  · have HE : Hid (RetDo ob base (Rn.doTen s ⟨1, ten, num, epoch, txt⟩) w = RetDo ob base (.bad 7) w) := hid_mk (by rw [HD.out, if_pos (Or.inl c1)])
    have f1 : decide (epoch < (0 : Int)) = true := decide_eq_true c1
    clear HD c1
    (refine wp_region_quiet_below (by kernel_rfl) (by kernel_rfl) ?_; (repeat (first | go_big_quiet_step (fail) | quiet_step (fail))); refine wpQuiet_nil ?_; intro _ hw'; obtain ⟨⟨nq, osq⟩, hw''⟩ := hw'; subst hw'')
    have HBE := hid_mk (HBV.out.trans ((below_regrown V nq osq).mono (by have := HBV.out.size; have := stI_base HSV.out; omega)))
    clear zk1 zk2 ze2 ze3
    generalize grow (redrawn V nq) osq = X at *
    go_wp2
    go_ret
    rw [HE.out]
    exact ⟨rfl, HBE.out, fun t h => by cases h⟩
  by_cases c2 : num < (0 : Int)
  · have HE : Hid (RetDo ob base (Rn.doTen s ⟨1, ten, num, epoch, txt⟩) w = RetDo ob base (.bad 7) w) := hid_mk (by rw [HD.out, if_pos (Or.inr c2)])
    have f1 : decide (epoch < (0 : Int)) = false := decide_eq_false c1
    have f2 : decide (num < (0 : Int)) = true := decide_eq_true c2
    clear HD c1 c2
    (refine wp_region_quiet_below (by kernel_rfl) (by kernel_rfl) ?_; (repeat (first | go_big_quiet_step (fail) | quiet_step (fail))); refine wpQuiet_nil ?_; intro _ hw'; obtain ⟨⟨nq, osq⟩, hw''⟩ := hw'; subst hw'')
    have HBE := hid_mk (HBV.out.trans ((below_regrown V nq osq).mono (by have := HBV.out.size; have := stI_base HSV.out; omega)))
    clear zk1 zk2 ze2 ze3
    generalize grow (redrawn V nq) osq = X at *
    go_wp2
    go_ret
    rw [HE.out]
    exact ⟨rfl, HBE.out, fun t h => by cases h⟩
  have HE : Hid (RetDo ob base (Rn.doTen s ⟨1, ten, num, epoch, txt⟩) w = RetDo ob base (.ok ⟨L.set i ⟨ten, epoch, num, []⟩, s.serial⟩) w) := hid_mk (by rw [HD.out, if_neg (by omega)])
  have f1 : decide (epoch < (0 : Int)) = false := decide_eq_false c1
  have f2 : decide (num < (0 : Int)) = false := decide_eq_false c2
  clear HD c1 c2
  (refine wp_region_quiet_below (by kernel_rfl) (by kernel_rfl) ?_; (repeat (first | go_big_quiet_step (fail) | quiet_step (fail))); refine wpQuiet_nil ?_; intro _ hw'; obtain ⟨⟨nq, osq⟩, hw''⟩ := hw'; subst hw'')
  have hvx := below_regrown V nq osq
  have HBX := hid_mk (HBV.out.trans (hvx.mono (by have := HBV.out.size; have := stI_base HSV.out; omega)))
  have HSX := hid_mk (stI_keep HSV.out hvx)
  have HEX := hid_mk (HEV.out.call hvx)
  clear hvx zk1 zk2 ze2 ze3 HSV HEV HBV hq0 hq1
  generalize grow (redrawn V nq) osq = X at *
  have ze2 : ∀ p : InB (fun x => Blk x w.heap.size #[.int .i64 1, .string ten, .int .i64 num, .int .i64 epoch, .string txt] 26), p.w.cell? ⟨w.heap.size, 2, none⟩ = some (.int .i64 num) := fun p => p.ok.cell 2
  have ze3 : ∀ p : InB (fun x => Blk x w.heap.size #[.int .i64 1, .string ten, .int .i64 num, .int .i64 epoch, .string txt] 26), p.w.cell? ⟨w.heap.size, 3, none⟩ = some (.int .i64 epoch) := fun p => p.ok.cell 3
  have hrow : rowT qs[i] = [.string ten, .int .i64 0, .int .i64 0, qs[i].2] := by unfold rowT; rw [HPI.out]
  have HF1 := hid_mk (stI_num (r := 1) (v := .int .i64 epoch) (t := ⟨ten, epoch, 0, []⟩) HSX.out hip (by decide) (by rw [hrow]; rfl) (by rw [HPI.out]) (by have := (HSX.out.2.2.2.1 _ (List.getElem_mem hip)).2.1; rw [HPI.out] at this; exact this))
  have hk1 : X.cell? ⟨g, i * 4 + 1, none⟩ = some (.int .i64 0) := by rw [stI_cell HSX.out hip (by decide), hrow]; rfl
  have hk2 : X.cell? ⟨g, i * 4 + 2, none⟩ = some (.int .i64 0) := by rw [stI_cell HSX.out hip (by decide), hrow]; rfl
  have hkf := stI_frozen HSX.out
  clear hrow
  have hsl : Hid ((qs.set i ((⟨ten, epoch, 0, []⟩ : Rn.T), qs[i].2)).length = qs.length) := hid_mk (by rw [List.length_set])
  have HF2 := hid_mk (stI_num (r := 2) (v := .int .i64 num) (t := ⟨ten, epoch, num, []⟩) (by rw [hsl.out]; exact HF1.out.1) (i := i) (by rw [hsl.out]; exact hip) (by decide) (by rw [List.getElem_set_self]; rfl) (by rw [List.getElem_set_self]) (by have := (HSX.out.2.2.2.1 _ (List.getElem_mem hip)).2.1; rw [HPI.out] at this; exact this))
  have HFB := hid_mk (HBX.out.trans (HF1.out.2.trans HF2.out.2))
  go_wp2
  (refine region_plan (S := Meets (fun x => Blk x w.heap.size #[.int .i64 1, .string ten, .int .i64 num, .int .i64 epoch, .string txt] 26)) (.read 0 _ (.read 1 _ (.read 2 _ (.read 3 _ (.read 4 _ (.read 5 _ (.read 6 _ (.read 7 _ (.one 8 _ (.read 9 _ (.read 10 _ (.one 11 _ .tail)))))))))))) 12 (by kernel_rfl) (by kernel_rfl) ⟨rfl, ⟨rfl, ⟨rfl, ⟨rfl, ⟨rfl, ⟨rfl, ⟨rfl, ⟨rfl, ⟨rfl, ⟨rfl, ⟨rfl, ⟨rfl, trivial⟩⟩⟩⟩⟩⟩⟩⟩⟩⟩⟩⟩ (by kernel_rfl) (by kernel_rfl) (fun d v c a w h => by cases d <;> exact h) (fun w p h => by obtain ⟨q, rfl⟩ := h; exact meets_mk ((fun h p => h.call (below_regrown _ _ _)) q.ok p)) (meets_mk ?_) ?_)
  · exact HEX.out
  intro J hJ
  (repeat (refine planWp_read (fun K hK => ?_); go_simp; (first | (refine hK _ ?_; clear hK K) | (apply Exists.intro; refine ⟨fun _ => rfl, hK _ ?_⟩; clear hK K))))
  refine planWp_skip rfl (w' := (X.setCell ⟨g, i * 4 + 1, none⟩ (.int .i64 epoch)).drew) (by go_simp) (meets_mk ?_) ?_
  · exact HEX.out.far hgne.out _
  (repeat (refine planWp_read (fun K hK => ?_); go_simp; (first | (refine hK _ ?_; clear hK K) | (apply Exists.intro; refine ⟨fun _ => rfl, hK _ ?_⟩; clear hK K))))
  refine planWp_skip rfl (w' := ((X.setCell ⟨g, i * 4 + 1, none⟩ (.int .i64 epoch)).setCell ⟨g, i * 4 + 2, none⟩ (.int .i64 num)).drew) (by go_simp) (meets_mk ?_) ?_
  · exact (HEX.out.far hgne.out _).far hgne.out _
  refine planWp_tail (hJ _ _ (meets_mk ?_) ?_)
  · exact (HEX.out.far hgne.out _).far hgne.out _
  (unfold PairEnd; simp only [List.drop_succ_cons, List.drop_zero]; refine wpQuiet_nil ?_; intro _ hw'; obtain ⟨⟨nq, osq⟩, hw''⟩ := hw'; subst hw'')
  have HF3 : Hid (∃ ps' u', StI ob base ((X.setCell ⟨g, i * 4 + 1, none⟩ (.int .i64 epoch)).setCell ⟨g, i * 4 + 2, none⟩ (.int .i64 num)).drew ⟨L.set i ⟨ten, epoch, num, []⟩, s.serial⟩ ps' u') := hid_mk (by
    have h := HF2.out.1
    have e : (L.set i ⟨ten, epoch, 0, []⟩).set i ⟨ten, epoch, num, []⟩ = L.set i ⟨ten, epoch, num, []⟩ := List.set_set ..
    rw [e] at h
    exact ⟨_, _, h⟩)
  have HFC : Hid (Below base w ((X.setCell ⟨g, i * 4 + 1, none⟩ (.int .i64 epoch)).setCell ⟨g, i * 4 + 2, none⟩ (.int .i64 num)).drew) := hid_mk HFB.out.drew
  clear hJ hk1 hk2 hkf ze2 ze3 HFB HF1 HF2 HEX HSX HBX
  generalize ((X.setCell ⟨g, i * 4 + 1, none⟩ (.int .i64 epoch)).setCell ⟨g, i * 4 + 2, none⟩ (.int .i64 num)).drew = Y at *
  have hvy := below_regrown Y nq osq
  have HF4 : Hid (∃ ps' u', StI ob base (grow (redrawn Y nq) osq) ⟨L.set i ⟨ten, epoch, num, []⟩, s.serial⟩ ps' u') := hid_mk (by
    obtain ⟨ps', u', h⟩ := HF3.out
    exact ⟨ps', u', stI_keep h hvy⟩)
  have HFD := hid_mk (HFC.out.trans (hvy.mono (by
    obtain ⟨ps', u', h⟩ := HF3.out
    have := h.2.1.lt; have := h.2.2.2.2.2; omega)))
  clear hvy HF3 HFC
  generalize grow (redrawn Y nq) osq = Z at *
  go_wp2
  go_ret
  rw [HE.out]
  exact ⟨rfl, HFD.out, fun t h => by cases h; exact HF4.out⟩
end Go.Proofs.Ytgcgilcalmefgaa
