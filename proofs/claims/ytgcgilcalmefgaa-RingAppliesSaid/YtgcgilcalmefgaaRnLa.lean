/- The law RingApplies: walked. -/
import Derived.Test.YtgcgilcalmefgaaRnWk
import Derived.Test.YtgcgilcalmefgaaRnU
import Derived.BigQuiet
namespace Go.Proofs.Ytgcgilcalmefgaa
open Go Go.RowKit Go.Sort
set_option maxRecDepth 100000
set_option linter.unusedSimpArgs false
set_option linter.unusedVariables false
set_option maxHeartbeats 4000000
theorem applies_any (s : Rn.S) (e : Rn.E) (A : Option Addr) (c : Nat) (G : Nat → Prop) (w : World) (hG : ∀ b, G b → b < w.heap.size) (hfit : Fits A s.tens.length c) (hl : s.tens.length ≤ maxLen) (hT : TensAt G w A s.tens) (hen : e.ten.size ≤ maxLen) (htx : e.txt.size ≤ maxLen) :
    Calls Try.prog 3 #[.agg #[.slice (A) (s).tens.length (c), .int .i64 (s).serial], .agg #[.int .i64 (e).kind, .string (e).ten, .int .i64 (e).num, .int .i64 (e).epoch, .string (e).txt]] w (RetG (.bool true) w) := by
  obtain ⟨W0, hW0⟩ : ∃ W0, W0 = (w.alloc (.cells #[.slice (A) (s).tens.length (c), .int .i64 (s).serial] 24)).alloc (.cells #[.int .i64 (e).kind, .string (e).ten, .int .i64 (e).num, .int .i64 (e).epoch, .string (e).txt] 26) := ⟨_, rfl⟩
  have hb0 : Below w.heap.size w W0 := by rw [hW0]; exact ((Below.refl _ _).alloc (Nat.le_refl _) _).alloc (by simp) _
  have hB1 : Blk W0 w.heap.size #[.slice (A) (s).tens.length (c), .int .i64 (s).serial] 24 := by rw [hW0]; exact (Blk.new w _ _).alloc _
  have hB2 : Blk W0 (w.heap.size + 1) #[.int .i64 (e).kind, .string (e).ten, .int .i64 (e).num, .int .i64 (e).epoch, .string (e).txt] 26 := by rw [hW0]; exact blk_new (by simp)
  have hTW : ∀ V, Below w.heap.size w V → TensAt G V A s.tens := fun V hV => tensAt_keep hT (fun b h => h) (kept_below hV hG)
  have hGW : ∀ V, Below w.heap.size w V → ∀ b, G b → b < V.heap.size := fun V hV b h => Nat.lt_of_lt_of_le (hG b h) hV.size
  have HGR := hide (great_any s A c G W0 (hGW _ hb0) hl (hTW _ hb0))
  have HB0 := hid_mk hb0
  have H1 := hid_mk hB1
  have H2 := hid_mk hB2
  have HW0 := hid_mk hW0
  have HTW := hid_mk hTW
  have HGW := hid_mk hGW
  have HFIT := hid_mk hfit
  (have y0 : W0.cell? ⟨w.heap.size, 0, none⟩ = some (.slice (A) (s).tens.length (c)) := hB1.cell 0; have y1 : W0.cell? ⟨w.heap.size, 1, none⟩ = some (.int .i64 (s).serial) := hB1.cell 1; have yf : ∀ i, W0.frozen? ⟨w.heap.size, i, none⟩ = false := hB1.frozen)
  (have x0 : W0.cell? ⟨w.heap.size + 1, 0, none⟩ = some (.int .i64 (e).kind) := hB2.cell 0; have x1 : W0.cell? ⟨w.heap.size + 1, 1, none⟩ = some (.string (e).ten) := hB2.cell 1; have x2 : W0.cell? ⟨w.heap.size + 1, 2, none⟩ = some (.int .i64 (e).num) := hB2.cell 2; have x3 : W0.cell? ⟨w.heap.size + 1, 3, none⟩ = some (.int .i64 (e).epoch) := hB2.cell 3; have x4 : W0.cell? ⟨w.heap.size + 1, 4, none⟩ = some (.string (e).txt) := hB2.cell 4; have xf : ∀ i, W0.frozen? ⟨w.heap.size + 1, i, none⟩ = false := hB2.frozen)
  clear hb0 hB1 hB2 hW0 hTW hGW hfit hG hT
  cases hg : greatS s with
  | true =>
    rw [hg] at HGR
    clear hg
    go_enter Try.func3, Try.ntmps3
    go_wp2_with fail
    rw [← HW0.out]
    refine (unhide HGR).mono ?_
    rintro e1 w1 ⟨rfl, hb1⟩
    have HB1 := hid_mk (HB0.out.trans (hb1.mono HB0.out.size))
    have HWK := hide (works38_any w1)
    clear hb1 HGR
    go_wp2_with fail
    refine (unhide HWK).mono ?_
    rintro e1 w2 ⟨rfl, hb2⟩
    have HB2 := hid_mk (HB1.out.trans (hb2.mono HB1.out.size))
    clear hb2
    go_wp2
    exact bodyPost_ret (v := .bool true) (by simp [results, Try.results3, go_sem]) rfl ⟨rfl, HB2.out⟩
  | false =>
  have hl20 : s.tens.length ≤ 1000 := by have := (greatS_spec hg).1; omega
  rw [hg] at HGR
  clear hg
  by_cases h100 : 100 < e.ten.size
  · have f1 : decide ((100 : Int) < (e.ten.size : Int)) = true := by simp; omega
    have f2 : decide (100 < e.ten.size) = true := by simp; omega
    go_enter Try.func3, Try.ntmps3
    go_wp2_with fail
    rw [← HW0.out]
    refine (unhide HGR).mono ?_
    rintro e1 w1 ⟨rfl, hb1⟩
    have HB1 := hid_mk (HB0.out.trans (hb1.mono HB0.out.size))
    have HWK := hide (works38_any w1)
    have hx2 := H2.out.call hb1
    (have z0 : w1.cell? ⟨w.heap.size + 1, 0, none⟩ = some (.int .i64 (e).kind) := hx2.cell 0; have z1 : w1.cell? ⟨w.heap.size + 1, 1, none⟩ = some (.string (e).ten) := hx2.cell 1; have z2 : w1.cell? ⟨w.heap.size + 1, 2, none⟩ = some (.int .i64 (e).num) := hx2.cell 2; have z3 : w1.cell? ⟨w.heap.size + 1, 3, none⟩ = some (.int .i64 (e).epoch) := hx2.cell 3; have z4 : w1.cell? ⟨w.heap.size + 1, 4, none⟩ = some (.string (e).txt) := hx2.cell 4; have zf : ∀ i, w1.frozen? ⟨w.heap.size + 1, i, none⟩ = false := hx2.frozen)
    clear hb1 HGR hx2 h100
    go_wp2_with fail
    refine (unhide HWK).mono ?_
    rintro e1 w2 ⟨rfl, hb2⟩
    have HB2 := hid_mk (HB1.out.trans (hb2.mono HB1.out.size))
    clear hb2
    go_wp2
    exact bodyPost_ret (v := .bool true) (by simp [results, Try.results3, go_sem]) rfl ⟨rfl, HB2.out⟩
  have f1 : decide ((100 : Int) < (e.ten.size : Int)) = false := by simp; omega
  have f2 : decide (100 < e.ten.size) = false := by simp; omega
  go_enter Try.func3, Try.ntmps3
  go_wp2_with fail
  rw [← HW0.out]
  refine (unhide HGR).mono ?_
  rintro e1 w1 ⟨rfl, hb1⟩
  have hb1' := HB0.out.trans (hb1.mono HB0.out.size)
  have HB1 := hid_mk hb1'
  have HX1 := hid_mk (H1.out.call hb1)
  have HX2 := hid_mk (H2.out.call hb1)
  have hx1 := HX1.out
  have hx2 := HX2.out
  have HPA := hide (papply_any s e A c G w1 (HGW.out _ hb1') hl20 HFIT.out (HTW.out _ hb1') hen htx)
  clear y0 y1 yf x0 x1 x2 x3 x4 xf
  (have y0 : w1.cell? ⟨w.heap.size, 0, none⟩ = some (.slice (A) (s).tens.length (c)) := hx1.cell 0; have y1 : w1.cell? ⟨w.heap.size, 1, none⟩ = some (.int .i64 (s).serial) := hx1.cell 1; have yf : ∀ i, w1.frozen? ⟨w.heap.size, i, none⟩ = false := hx1.frozen)
  (have x0 : w1.cell? ⟨w.heap.size + 1, 0, none⟩ = some (.int .i64 (e).kind) := hx2.cell 0; have x1 : w1.cell? ⟨w.heap.size + 1, 1, none⟩ = some (.string (e).ten) := hx2.cell 1; have x2 : w1.cell? ⟨w.heap.size + 1, 2, none⟩ = some (.int .i64 (e).num) := hx2.cell 2; have x3 : w1.cell? ⟨w.heap.size + 1, 3, none⟩ = some (.int .i64 (e).epoch) := hx2.cell 3; have x4 : w1.cell? ⟨w.heap.size + 1, 4, none⟩ = some (.string (e).txt) := hx2.cell 4; have xf : ∀ i, w1.frozen? ⟨w.heap.size + 1, i, none⟩ = false := hx2.frozen)
  clear hb1 HGR hx1 hx2 h100 hb1'
  go_wp2_with fail
  refine (unhide HPA).mono ?_
  rintro e1 w2 ⟨A1, c1, rfl, hf1, hb2, hT1⟩
  have hb2a : Below w1.heap.size w1 (w2.alloc (.cells #[.slice (A1) ((Rn.state (Rn.apply s e))).tens.length (c1), .int .i64 ((Rn.state (Rn.apply s e))).serial] 24)) := hb2.alloc hb2.size _
  have hbw2 := HB1.out.trans (hb2a.mono HB1.out.size)
  have HB2 := hid_mk hbw2
  have HX12 := hid_mk (HX1.out.call hb2a)
  have HX22 := hid_mk (HX2.out.call hb2a)
  have hx1 := HX12.out
  have hx2 := HX22.out
  have HY1 := hid_mk (Blk.new w2 #[.slice (A1) ((Rn.state (Rn.apply s e))).tens.length (c1), .int .i64 ((Rn.state (Rn.apply s e))).serial] 24)
  have HT1 : Hid (TensAt (fun b => b < w2.heap.size) (w2.alloc (.cells #[.slice (A1) ((Rn.state (Rn.apply s e))).tens.length (c1), .int .i64 ((Rn.state (Rn.apply s e))).serial] 24)) A1 (Rn.state (Rn.apply s e)).tens) := hid_mk (tensAt_keep hT1 (fun b h => by rcases h with h | h; have := HGW.out _ HB1.out b h; have := hb2.size; omega; exact h.2) (kept_below ((Below.refl w2.heap.size w2).alloc (Nat.le_refl _) _) (fun b h => by rcases h with h | h; have := HGW.out _ HB1.out b h; have := hb2.size; omega; exact h.2)))
  have HRA := hide (rapply_any s e A c G _ (HGW.out _ hbw2) hl20 HFIT.out (HTW.out _ hbw2) hen htx)
  clear y0 y1 yf x0 x1 x2 x3 x4 xf
  (have y0 : (w2.alloc (.cells #[.slice (A1) ((Rn.state (Rn.apply s e))).tens.length (c1), .int .i64 ((Rn.state (Rn.apply s e))).serial] 24)).cell? ⟨w.heap.size, 0, none⟩ = some (.slice (A) (s).tens.length (c)) := hx1.cell 0; have y1 : (w2.alloc (.cells #[.slice (A1) ((Rn.state (Rn.apply s e))).tens.length (c1), .int .i64 ((Rn.state (Rn.apply s e))).serial] 24)).cell? ⟨w.heap.size, 1, none⟩ = some (.int .i64 (s).serial) := hx1.cell 1; have yf : ∀ i, (w2.alloc (.cells #[.slice (A1) ((Rn.state (Rn.apply s e))).tens.length (c1), .int .i64 ((Rn.state (Rn.apply s e))).serial] 24)).frozen? ⟨w.heap.size, i, none⟩ = false := hx1.frozen)
  (have x0 : (w2.alloc (.cells #[.slice (A1) ((Rn.state (Rn.apply s e))).tens.length (c1), .int .i64 ((Rn.state (Rn.apply s e))).serial] 24)).cell? ⟨w.heap.size + 1, 0, none⟩ = some (.int .i64 (e).kind) := hx2.cell 0; have x1 : (w2.alloc (.cells #[.slice (A1) ((Rn.state (Rn.apply s e))).tens.length (c1), .int .i64 ((Rn.state (Rn.apply s e))).serial] 24)).cell? ⟨w.heap.size + 1, 1, none⟩ = some (.string (e).ten) := hx2.cell 1; have x2 : (w2.alloc (.cells #[.slice (A1) ((Rn.state (Rn.apply s e))).tens.length (c1), .int .i64 ((Rn.state (Rn.apply s e))).serial] 24)).cell? ⟨w.heap.size + 1, 2, none⟩ = some (.int .i64 (e).num) := hx2.cell 2; have x3 : (w2.alloc (.cells #[.slice (A1) ((Rn.state (Rn.apply s e))).tens.length (c1), .int .i64 ((Rn.state (Rn.apply s e))).serial] 24)).cell? ⟨w.heap.size + 1, 3, none⟩ = some (.int .i64 (e).epoch) := hx2.cell 3; have x4 : (w2.alloc (.cells #[.slice (A1) ((Rn.state (Rn.apply s e))).tens.length (c1), .int .i64 ((Rn.state (Rn.apply s e))).serial] 24)).cell? ⟨w.heap.size + 1, 4, none⟩ = some (.string (e).txt) := hx2.cell 4; have xf : ∀ i, (w2.alloc (.cells #[.slice (A1) ((Rn.state (Rn.apply s e))).tens.length (c1), .int .i64 ((Rn.state (Rn.apply s e))).serial] 24)).frozen? ⟨w.heap.size + 1, i, none⟩ = false := hx2.frozen)
  have hs2 : w.heap.size + 1 < w2.heap.size := by have := HX2.out.lt; have := hb2.size; omega
  clear hx1 hx2 hf1 hb2 hT1 hb2a hbw2 HPA
  generalize hW2 : w2.alloc (.cells #[.slice (A1) ((Rn.state (Rn.apply s e))).tens.length (c1), .int .i64 ((Rn.state (Rn.apply s e))).serial] 24) = W2 at *
  go_wp2_with fail
  have HW2 := hid_mk hW2
  clear hW2
  refine (unhide HRA).mono ?_
  rintro e1 w3 ⟨A2, c2, rfl, hf2, hb3, hT2⟩
  have hb3a : Below W2.heap.size W2 (w3.alloc (.cells #[.slice (A2) ((Rn.state (Rn.apply s e))).tens.length (c2), .int .i64 ((Rn.state (Rn.apply s e))).serial] 24)) := hb3.alloc hb3.size _
  have hw23 : w2.heap.size < W2.heap.size := HY1.out.lt
  have HB3 := hid_mk (HB2.out.trans (hb3a.mono HB2.out.size))
  have HX13 := hid_mk (HX12.out.call hb3a)
  have HX23 := hid_mk (HX22.out.call hb3a)
  have HY13 := hid_mk (HY1.out.call hb3a)
  have HY23 := hid_mk (Blk.new w3 #[.slice (A2) ((Rn.state (Rn.apply s e))).tens.length (c2), .int .i64 ((Rn.state (Rn.apply s e))).serial] 24)
  have HTA : Hid (TensAt (fun b => b < w3.heap.size) (w3.alloc (.cells #[.slice (A2) ((Rn.state (Rn.apply s e))).tens.length (c2), .int .i64 ((Rn.state (Rn.apply s e))).serial] 24)) A1 (Rn.state (Rn.apply s e)).tens) := hid_mk (tensAt_keep HT1.out (fun b h => by have := hb3.size; omega) (kept_below hb3a (fun b h => by omega)))
  have HTB : Hid (TensAt (fun b => b < w3.heap.size) (w3.alloc (.cells #[.slice (A2) ((Rn.state (Rn.apply s e))).tens.length (c2), .int .i64 ((Rn.state (Rn.apply s e))).serial] 24)) A2 (Rn.state (Rn.apply s e)).tens) := hid_mk (tensAt_keep hT2 (fun b h => by rcases h with h | h; have := HGW.out _ HB2.out b h; have := hb3.size; omega; exact h.2) (kept_below ((Below.refl w3.heap.size w3).alloc (Nat.le_refl _) _) (fun b h => by rcases h with h | h; have := HGW.out _ HB2.out b h; have := hb3.size; omega; exact h.2)))
  have hsz3 : w3.heap.size < (w3.alloc (.cells #[.slice (A2) ((Rn.state (Rn.apply s e))).tens.length (c2), .int .i64 ((Rn.state (Rn.apply s e))).serial] 24)).heap.size := by simp
  have HRN : Hid ((Rn.state (Rn.apply s e)).tens.length ≤ maxLen) := hid_mk (by
    cases ha : Rn.apply s e with
    | bad x => exact Nat.zero_le _
    | ok t => have := (Rn.right_parts (Rn.apply_rose ha).1).1; show t.tens.length ≤ maxLen; unfold maxLen; omega)
  clear y0 y1 yf x0 x1 x2 x3 x4 xf hf2 hb3 hT2 hb3a HRA
  go_wp2
  generalize w3.alloc (.cells #[.slice (A2) ((Rn.state (Rn.apply s e))).tens.length (c2), .int .i64 ((Rn.state (Rn.apply s e))).serial] 24) = W3 at *
  have hbg : ∀ d os, Below w.heap.size w (grow (redrawn W3 d) os) := fun d os => HB3.out.trans ((below_regrown W3 d os).mono HB3.out.size)
  have CR : Hid (∀ d os, Calls Try.prog 13 #[.agg #[.slice (A) (s).tens.length (c), .int .i64 (s).serial]] (grow (redrawn W3 d) os) (fun e w'' => e = .returned (.bool (Rn.right s)) ∧ ∃ p : Regrown, w'' = grow (redrawn W3 p.d) p.os)) := hid_mk (fun d os => regrown_call (pright_any s A c G _ (HGW.out _ (hbg d os)) hl (HTW.out _ (hbg d os))))
  have CS : Hid (∀ d os, Calls Try.prog 14 #[.agg #[.slice (A) (s).tens.length (c), .int .i64 (s).serial]] (grow (redrawn W3 d) os) (fun e w'' => e = .returned (.bool (Rn.right s)) ∧ ∃ p : Regrown, w'' = grow (redrawn W3 p.d) p.os)) := hid_mk (fun d os => regrown_call (rright38_any s A c G _ (HGW.out _ (hbg d os)) hl (HTW.out _ (hbg d os))))
  have CF : Hid (∀ d os, Calls Try.prog 15 #[.agg #[.int .i64 (e).kind, .string (e).ten, .int .i64 (e).num, .int .i64 (e).epoch, .string (e).txt]] (grow (redrawn W3 d) os) (fun e' w'' => e' = .returned (.bool (Rn.form e)) ∧ ∃ p : Regrown, w'' = grow (redrawn W3 p.d) p.os)) := hid_mk (fun d os => regrown_call (pform_any e _ hen))
  have CG : Hid (∀ d os, Calls Try.prog 16 #[.agg #[.int .i64 (e).kind, .string (e).ten, .int .i64 (e).num, .int .i64 (e).epoch, .string (e).txt]] (grow (redrawn W3 d) os) (fun e' w'' => e' = .returned (.bool (Rn.form e)) ∧ ∃ p : Regrown, w'' = grow (redrawn W3 p.d) p.os)) := hid_mk (fun d os => regrown_call (rform_any e _ hen))
  have CT : Hid (∀ d os, Calls Try.prog 17 #[.agg #[.slice (A1) ((Rn.state (Rn.apply s e))).tens.length (c1), .int .i64 ((Rn.state (Rn.apply s e))).serial], .agg #[.slice (A2) ((Rn.state (Rn.apply s e))).tens.length (c2), .int .i64 ((Rn.state (Rn.apply s e))).serial]] (grow (redrawn W3 d) os) (fun e w'' => e = .returned (.bool true) ∧ ∃ p : Regrown, w'' = grow (redrawn W3 p.d) p.os)) := hid_mk (fun d os => by
    have hb := below_regrown W3 d os
    exact regrown_call (same_any (Rn.state (Rn.apply s e)) A1 A2 c1 c2 (fun b => b < w3.heap.size) _ (fun b h => by have := hb.size; omega) HRN.out (tensAt_keep HTA.out (fun b h => h) (kept_below hb (fun b h => by omega))) (tensAt_keep HTB.out (fun b h => h) (kept_below hb (fun b h => by omega)))))
  have CW : Hid (∀ d os, Calls Try.prog 10 #[] (grow (redrawn W3 d) os) (fun e w'' => e = .returned (.bool true) ∧ ∃ p : Regrown, w'' = grow (redrawn W3 p.d) p.os)) := hid_mk (fun d os => regrown_call (works38_any _))
  have z0 : ∀ d os, (grow (redrawn W3 d) os).cell? ⟨w.heap.size, 0, none⟩ = some (.slice A s.tens.length c) := fun d os => cell_regrown (HX13.out.cell 0) d os
  have z1 : ∀ d os, (grow (redrawn W3 d) os).cell? ⟨w.heap.size, 1, none⟩ = some (.int .i64 s.serial) := fun d os => cell_regrown (HX13.out.cell 1) d os
  have v0 : ∀ d os, (grow (redrawn W3 d) os).cell? ⟨w.heap.size + 1, 0, none⟩ = some (.int .i64 e.kind) := fun d os => cell_regrown (HX23.out.cell 0) d os
  have v1 : ∀ d os, (grow (redrawn W3 d) os).cell? ⟨w.heap.size + 1, 1, none⟩ = some (.string e.ten) := fun d os => cell_regrown (HX23.out.cell 1) d os
  have v2 : ∀ d os, (grow (redrawn W3 d) os).cell? ⟨w.heap.size + 1, 2, none⟩ = some (.int .i64 e.num) := fun d os => cell_regrown (HX23.out.cell 2) d os
  have v3 : ∀ d os, (grow (redrawn W3 d) os).cell? ⟨w.heap.size + 1, 3, none⟩ = some (.int .i64 e.epoch) := fun d os => cell_regrown (HX23.out.cell 3) d os
  have v4 : ∀ d os, (grow (redrawn W3 d) os).cell? ⟨w.heap.size + 1, 4, none⟩ = some (.string e.txt) := fun d os => cell_regrown (HX23.out.cell 4) d os
  have u0 : ∀ d os, (grow (redrawn W3 d) os).cell? ⟨w2.heap.size, 0, none⟩ = some (.slice A1 (Rn.state (Rn.apply s e)).tens.length c1) := fun d os => cell_regrown (HY13.out.cell 0) d os
  have u1 : ∀ d os, (grow (redrawn W3 d) os).cell? ⟨w2.heap.size, 1, none⟩ = some (.int .i64 (Rn.state (Rn.apply s e)).serial) := fun d os => cell_regrown (HY13.out.cell 1) d os
  have t0 : ∀ d os, (grow (redrawn W3 d) os).cell? ⟨w3.heap.size, 0, none⟩ = some (.slice A2 (Rn.state (Rn.apply s e)).tens.length c2) := fun d os => cell_regrown (HY23.out.cell 0) d os
  have t1 : ∀ d os, (grow (redrawn W3 d) os).cell? ⟨w3.heap.size, 1, none⟩ = some (.int .i64 (Rn.state (Rn.apply s e)).serial) := fun d os => cell_regrown (HY23.out.cell 1) d os
  clear hbg HTA HTB HTW HGW HX13 HX23 HY13 HY23 HT1 HX12 HX22 HY1 HW2
  generalize Rn.right s = br at *
  generalize Rn.form e = bf at *
  generalize Rn.apply s e = r at *
  generalize Rn.err r = er at *
  cases br <;> cases bf
  all_goals
    (refine wp_region_quiet_below (by kernel_rfl) (by kernel_rfl) ?_; (repeat (first | go_big_quiet_step ((first | (go_at_call 13; with_reducible exact CR.out _ _) | (go_at_call 14; with_reducible exact CS.out _ _) | (go_at_call 15; with_reducible exact CF.out _ _) | (go_at_call 16; with_reducible exact CG.out _ _) | (go_at_call 17; with_reducible exact CT.out _ _) | (go_at_call 10; with_reducible exact CW.out _ _))) | quiet_step ((first | (go_at_call 13; with_reducible exact CR.out _ _) | (go_at_call 14; with_reducible exact CS.out _ _) | (go_at_call 15; with_reducible exact CF.out _ _) | (go_at_call 16; with_reducible exact CG.out _ _) | (go_at_call 17; with_reducible exact CT.out _ _) | (go_at_call 10; with_reducible exact CW.out _ _))))); refine wpQuiet_nil ?_; intro _ hw'; obtain ⟨⟨nq, osq⟩, hw''⟩ := hw'; subst hw'')
    have HBX := hid_mk (HB3.out.trans ((below_regrown W3 nq osq).mono HB3.out.size))
    generalize grow (redrawn W3 nq) osq = V at *
    go_wp2
    exact bodyPost_ret (v := .bool true) (by simp [results, Try.results3, go_sem]) rfl ⟨rfl, HBX.out⟩
end Go.Proofs.Ytgcgilcalmefgaa
