/- The law RingPlays: walked. -/
import Derived.Test.YtgcgilcalmefgaaRnWk
import Derived.Test.YtgcgilcalmefgaaRnL
import Derived.BigQuiet
namespace Go.Proofs.Ytgcgilcalmefgaa
open Go Go.RowKit Go.Sort
set_option maxRecDepth 100000
set_option linter.unusedSimpArgs false
set_option linter.unusedVariables false
set_option maxHeartbeats 4000000
theorem rall_any (s : Rn.S) (es : List Rn.E) (A B : Option Addr) (c d : Nat) (G : Nat → Prop) (w : World) (hG : ∀ b, G b → b < w.heap.size) (hl : s.tens.length ≤ 1000) (hfit : Fits A s.tens.length c) (hT : TensAt G w A s.tens) (hel : es.length ≤ maxLen) (hE : EventsAt G w B es) :
    Calls Try.prog 20 #[.agg #[.slice (A) (s).tens.length (c), .int .i64 (s).serial], .slice B es.length d] w (RetSE G (Rn.all s es) w) := by
  cases hr : Rn.right s with
  | false =>
    have e : Rn.all s es = .bad 7 := by unfold Rn.all; rw [if_pos hr]
    rw [e]; exact rall_right s es A B c d G w hG hl hT hr
  | true => rw [Rn.all_right hr]; exact rall_run s es A B c d G w hG hl hfit hT hel hE hr
theorem Rn.all_len (s : Rn.S) (es : List Rn.E) : (Rn.state (Rn.all s es)).tens.length ≤ 16 := by
  cases h : Rn.right s with
  | false => unfold Rn.all; rw [if_pos h]; exact Nat.zero_le _
  | true =>
    rw [Rn.all_right h]
    cases hr : Rn.run s es with
    | bad x => exact Nat.zero_le _
    | ok t => exact (Rn.right_parts (Rn.run_right h hr)).1
theorem plays_any (es : List Rn.E) (B : Option Addr) (d : Nat) (n : ByteArray) (num : Int) (G : Nat → Prop) (w : World) (hG : ∀ b, G b → b < w.heap.size) (hel : es.length ≤ maxLen) (hE : EventsAt G w B es) :
    Calls Try.prog 5 #[.slice B es.length d, .string n, .int .i64 num] w (RetG (.bool true) w) := by
  have HWK0 := hide (works38_any w)
  have hkq := fun k w => key_eq_run k w
  by_cases h60 : 60 < es.length
  · have f1 : decide (60 < es.length) = true := by simp; omega
    have f2 : decide ((60 : Int) < (es.length : Int)) = true := by simp; omega
    clear h60 hE hG hkq
    go_enter Try.func5, Try.ntmps5
    go_wp2_with fail
    refine (unhide HWK0).mono ?_
    rintro e1 w2 ⟨rfl, hb2⟩
    have HB2 := hid_mk hb2
    clear hb2
    go_wp2
    exact bodyPost_ret (v := .bool true) (by simp [results, Try.results5, go_sem]) rfl ⟨rfl, HB2.out⟩
  have f1 : decide (60 < es.length) = false := by simp; omega
  have f2 : decide ((60 : Int) < (es.length : Int)) = false := by simp; omega
  have HPA := hide (pall_any Rn.zeroS es none B 0 d G w hG (Nat.zero_le _) Fits.none_ rows_nil hel hE)
  have HEW : Hid (∀ V, Below w.heap.size w V → EventsAt G V B es) := hid_mk (fun V hV => eventsAt_keep hE (fun b h => h) (kept_below hV hG))
  have HGW : Hid (∀ V, Below w.heap.size w V → ∀ b, G b → b < V.heap.size) := hid_mk (fun V hV b h => Nat.lt_of_lt_of_le (hG b h) hV.size)
  clear h60 hE hG HWK0
  have hlen := Rn.all_len Rn.zeroS es
  have HLEN := hid_mk hlen
  clear hlen
  go_enter Try.func5, Try.ntmps5
  go_wp2_with fail
  refine (unhide HPA).mono ?_
  rintro e1 w1 ⟨A1, c1, rfl, hf1, hb1, hT1⟩
  have hb1a : Below w.heap.size w (w1.alloc (.cells #[.slice (A1) ((Rn.state (Rn.all Rn.zeroS es))).tens.length (c1), .int .i64 ((Rn.state (Rn.all Rn.zeroS es))).serial] 24)) := hb1.alloc hb1.size _
  have HB1 := hid_mk hb1a
  have HRA := hide (rall_any Rn.zeroS es none B 0 d G _ (HGW.out _ hb1a) (Nat.zero_le _) Fits.none_ rows_nil hel (HEW.out _ hb1a))
  have HY1 := hid_mk (Blk.new w1 #[.slice (A1) ((Rn.state (Rn.all Rn.zeroS es))).tens.length (c1), .int .i64 ((Rn.state (Rn.all Rn.zeroS es))).serial] 24)
  have HT1 : Hid (TensAt (fun b => b < w1.heap.size) (w1.alloc (.cells #[.slice (A1) ((Rn.state (Rn.all Rn.zeroS es))).tens.length (c1), .int .i64 ((Rn.state (Rn.all Rn.zeroS es))).serial] 24)) A1 (Rn.state (Rn.all Rn.zeroS es)).tens) := hid_mk (tensAt_keep hT1 (fun b h => by rcases h with h | h; have := HGW.out _ hb1 b h; omega; exact h.2) (kept_below ((Below.refl w1.heap.size w1).alloc (Nat.le_refl _) _) (fun b h => by rcases h with h | h; have := HGW.out _ hb1 b h; omega; exact h.2)))
  clear hf1 hb1 hT1 hb1a HPA
  generalize hW1 : w1.alloc (.cells #[.slice (A1) ((Rn.state (Rn.all Rn.zeroS es))).tens.length (c1), .int .i64 ((Rn.state (Rn.all Rn.zeroS es))).serial] 24) = W1 at *
  go_wp2_with fail
  have HW1 := hid_mk hW1
  clear hW1
  refine (unhide HRA).mono ?_
  rintro e1 w2 ⟨A2, c2, rfl, hf2, hb2, hT2⟩
  have hb2a : Below W1.heap.size W1 (w2.alloc (.cells #[.slice (A2) ((Rn.state (Rn.all Rn.zeroS es))).tens.length (c2), .int .i64 ((Rn.state (Rn.all Rn.zeroS es))).serial] 24)) := hb2.alloc hb2.size _
  have hw12 : w1.heap.size < W1.heap.size := HY1.out.lt
  have hs12 : W1.heap.size ≤ w2.heap.size := hb2.size
  have HB2 := hid_mk (HB1.out.trans (hb2a.mono HB1.out.size))
  have HY12 := hid_mk (HY1.out.call hb2a)
  have HY22 := hid_mk (Blk.new w2 #[.slice (A2) ((Rn.state (Rn.all Rn.zeroS es))).tens.length (c2), .int .i64 ((Rn.state (Rn.all Rn.zeroS es))).serial] 24)
  have HTA : Hid (TensAt (fun b => b < w2.heap.size) (w2.alloc (.cells #[.slice (A2) ((Rn.state (Rn.all Rn.zeroS es))).tens.length (c2), .int .i64 ((Rn.state (Rn.all Rn.zeroS es))).serial] 24)) A1 (Rn.state (Rn.all Rn.zeroS es)).tens) := hid_mk (tensAt_keep HT1.out (fun b h => by omega) (kept_below hb2a (fun b h => by omega)))
  have HTB : Hid (TensAt (fun b => b < w2.heap.size) (w2.alloc (.cells #[.slice (A2) ((Rn.state (Rn.all Rn.zeroS es))).tens.length (c2), .int .i64 ((Rn.state (Rn.all Rn.zeroS es))).serial] 24)) A2 (Rn.state (Rn.all Rn.zeroS es)).tens) := hid_mk (tensAt_keep hT2 (fun b h => by rcases h with h | h; have := HGW.out _ HB1.out b h; omega; exact h.2) (kept_below ((Below.refl w2.heap.size w2).alloc (Nat.le_refl _) _) (fun b h => by rcases h with h | h; have := HGW.out _ HB1.out b h; omega; exact h.2)))
  have hsz2 : w2.heap.size < (w2.alloc (.cells #[.slice (A2) ((Rn.state (Rn.all Rn.zeroS es))).tens.length (c2), .int .i64 ((Rn.state (Rn.all Rn.zeroS es))).serial] 24)).heap.size := by simp
  clear hf2 hb2 hT2 hb2a HRA HT1 HY1 HEW HGW HB1
  generalize hW2 : w2.alloc (.cells #[.slice (A2) ((Rn.state (Rn.all Rn.zeroS es))).tens.length (c2), .int .i64 ((Rn.state (Rn.all Rn.zeroS es))).serial] 24) = W2 at *
  have HSA : Hid (∀ V, Below W2.heap.size W2 V → (∀ b, b < w2.heap.size → b < V.heap.size) ∧ TensAt (fun b => b < w2.heap.size) V A1 (Rn.state (Rn.all Rn.zeroS es)).tens ∧ TensAt (fun b => b < w2.heap.size) V A2 (Rn.state (Rn.all Rn.zeroS es)).tens) := hid_mk (fun V hV => ⟨fun b h => by have := hV.size; omega, tensAt_keep HTA.out (fun b h => h) (kept_below hV (fun b h => by omega)), tensAt_keep HTB.out (fun b h => h) (kept_below hV (fun b h => by omega))⟩)
  have HLM : Hid ((Rn.state (Rn.all Rn.zeroS es)).tens.length ≤ maxLen) := hid_mk (by have := HLEN.out; unfold maxLen; omega)
  generalize Rn.all Rn.zeroS es = r at *
  generalize Rn.err r = er at *
  generalize Rn.state r = st at *
  have hy1 := HY12.out
  have hy2 := HY22.out
  (have y0 : W2.cell? ⟨w1.heap.size, 0, none⟩ = some (.slice (A1) (st).tens.length (c1)) := hy1.cell 0; have y1 : W2.cell? ⟨w1.heap.size, 1, none⟩ = some (.int .i64 (st).serial) := hy1.cell 1; have yf : ∀ i, W2.frozen? ⟨w1.heap.size, i, none⟩ = false := hy1.frozen)
  (have x0 : W2.cell? ⟨w2.heap.size, 0, none⟩ = some (.slice (A2) (st).tens.length (c2)) := hy2.cell 0; have x1 : W2.cell? ⟨w2.heap.size, 1, none⟩ = some (.int .i64 (st).serial) := hy2.cell 1; have xf : ∀ i, W2.frozen? ⟨w2.heap.size, i, none⟩ = false := hy2.frozen)
  have HC1 := hide (same_any st A1 A2 c1 c2 (fun b => b < w2.heap.size) W2 (fun b h => by omega) HLM.out (HSA.out _ (Below.refl _ _)).2.1 (HSA.out _ (Below.refl _ _)).2.2)
  clear hy1 hy2 HTA HTB
  go_wp2_with fail
  have HW2 := hid_mk hW2
  clear hW2
  refine (unhide HC1).mono ?_
  rintro e1 w3 ⟨rfl, hb3⟩
  have HB3 := hid_mk hb3
  have hy1 := HY12.out.call hb3
  clear y0 y1 yf x0 x1 xf
  (have y0 : w3.cell? ⟨w1.heap.size, 0, none⟩ = some (.slice (A1) (st).tens.length (c1)) := hy1.cell 0; have y1 : w3.cell? ⟨w1.heap.size, 1, none⟩ = some (.int .i64 (st).serial) := hy1.cell 1; have yf : ∀ i, w3.frozen? ⟨w1.heap.size, i, none⟩ = false := hy1.frozen)
  have HC2 := hide (pkey_any st A1 c1 n num (fun b => b < w2.heap.size) w3 (HSA.out _ hb3).1 HLM.out (HSA.out _ hb3).2.1)
  clear hb3 hy1 HC1
  go_wp2_with fail
  refine (unhide HC2).mono ?_
  rintro e1 w4 ⟨rfl, hb4⟩
  have hb24 := HB3.out.trans (hb4.mono HB3.out.size)
  have HB4 := hid_mk hb24
  have hy1 := HY12.out.call hb24
  clear y0 y1 yf
  (have y0 : w4.cell? ⟨w1.heap.size, 0, none⟩ = some (.slice (A1) (st).tens.length (c1)) := hy1.cell 0; have y1 : w4.cell? ⟨w1.heap.size, 1, none⟩ = some (.int .i64 (st).serial) := hy1.cell 1; have yf : ∀ i, w4.frozen? ⟨w1.heap.size, i, none⟩ = false := hy1.frozen)
  have HC3 := hide (rkey38_any st A1 c1 n num (fun b => b < w2.heap.size) w4 (HSA.out _ hb24).1 HLM.out (HSA.out _ hb24).2.1)
  clear hb4 hb24 hy1 HC2
  go_wp2_with fail
  refine (unhide HC3).mono ?_
  rintro e1 w5 ⟨rfl, hb5⟩
  have hb25 := HB4.out.trans (hb5.mono HB4.out.size)
  have HB5 := hid_mk hb25
  have hy1 := HY12.out.call hb25
  clear y0 y1 yf
  (have y0 : w5.cell? ⟨w1.heap.size, 0, none⟩ = some (.slice (A1) (st).tens.length (c1)) := hy1.cell 0; have y1 : w5.cell? ⟨w1.heap.size, 1, none⟩ = some (.int .i64 (st).serial) := hy1.cell 1; have yf : ∀ i, w5.frozen? ⟨w1.heap.size, i, none⟩ = false := hy1.frozen)
  have HC4 := hide (pnew_any st A1 c1 n (fun b => b < w2.heap.size) w5 (HSA.out _ hb25).1 HLM.out (HSA.out _ hb25).2.1)
  clear hb5 hb25 hy1 HC3
  go_wp2_with fail
  refine (unhide HC4).mono ?_
  rintro e1 w6 ⟨rfl, hb6⟩
  have hb6a : Below w5.heap.size w5 (w6.alloc (.cells #[.int .i64 ((newRes st n).1).num, .string ((newRes st n).1).txt] 44)) := hb6.alloc hb6.size _
  have hb26 := HB5.out.trans (hb6a.mono HB5.out.size)
  have HB6 := hid_mk hb26
  have hy1 := HY12.out.call hb26
  have HK6 := hid_mk (Blk.new w6 #[.int .i64 ((newRes st n).1).num, .string ((newRes st n).1).txt] 44)
  have hs6 : w5.heap.size ≤ w6.heap.size := hb6.size
  clear y0 y1 yf
  (have y0 : (w6.alloc (.cells #[.int .i64 ((newRes st n).1).num, .string ((newRes st n).1).txt] 44)).cell? ⟨w1.heap.size, 0, none⟩ = some (.slice (A1) (st).tens.length (c1)) := hy1.cell 0; have y1 : (w6.alloc (.cells #[.int .i64 ((newRes st n).1).num, .string ((newRes st n).1).txt] 44)).cell? ⟨w1.heap.size, 1, none⟩ = some (.int .i64 (st).serial) := hy1.cell 1; have yf : ∀ i, (w6.alloc (.cells #[.int .i64 ((newRes st n).1).num, .string ((newRes st n).1).txt] 44)).frozen? ⟨w1.heap.size, i, none⟩ = false := hy1.frozen)
  have HC5 := hide (rnew_any st A1 c1 n (fun b => b < w2.heap.size) _ (HSA.out _ hb26).1 HLM.out (HSA.out _ hb26).2.1)
  clear hb6 hb6a hb26 hy1 HC4
  generalize hW6 : w6.alloc (.cells #[.int .i64 ((newRes st n).1).num, .string ((newRes st n).1).txt] 44) = W6 at *
  go_wp2_with fail
  have HW6 := hid_mk hW6
  clear hW6
  refine (unhide HC5).mono ?_
  rintro e1 w7 ⟨rfl, hb7⟩
  have hb7a : Below W6.heap.size W6 (w7.alloc (.cells #[.int .i64 ((newRes st n).1).num, .string ((newRes st n).1).txt] 44)) := hb7.alloc hb7.size _
  have hb27 := HB6.out.trans (hb7a.mono HB6.out.size)
  have HB7 := hid_mk hb27
  have HBW7 := hid_mk (HB2.out.trans (hb27.mono HB2.out.size))
  have HY17 := hid_mk (HY12.out.call hb27)
  have HK67 := hid_mk (HK6.out.call hb7a)
  have HK77 := hid_mk (Blk.new w7 #[.int .i64 ((newRes st n).1).num, .string ((newRes st n).1).txt] 44)
  have HSA7 := hid_mk (HSA.out _ hb27)
  have hs7 : w6.heap.size < w7.heap.size := by have := HK6.out.lt; have := hb7.size; omega
  clear y0 y1 yf hb7 hb7a hb27 HC5
  go_wp2
  generalize w7.alloc (.cells #[.int .i64 ((newRes st n).1).num, .string ((newRes st n).1).txt] 44) = W7 at *
  have CF : Hid (∀ d os, Calls Try.prog 18 #[.agg #[.slice (A1) (st).tens.length (c1), .int .i64 (st).serial], .string n] (grow (redrawn W7 d) os) (fun e w'' => e = .returned (.int .i64 (findI st.tens n)) ∧ ∃ p : Regrown, w'' = grow (redrawn W7 p.d) p.os)) := hid_mk (fun d os => by
    have hb := below_regrown W7 d os
    have h := HSA.out _ (HB7.out.trans (hb.mono HB7.out.size))
    exact regrown_call (pfind_any st A1 c1 n _ _ h.1 HLM.out h.2.1))
  have CG : Hid (∀ d os, Calls Try.prog 25 #[.agg #[.slice (A1) (st).tens.length (c1), .int .i64 (st).serial], .string n] (grow (redrawn W7 d) os) (fun e w'' => e = .returned (.int .i64 (findI st.tens n)) ∧ ∃ p : Regrown, w'' = grow (redrawn W7 p.d) p.os)) := hid_mk (fun d os => by
    have hb := below_regrown W7 d os
    have h := HSA.out _ (HB7.out.trans (hb.mono HB7.out.size))
    exact regrown_call (rfind_any st A1 c1 n _ _ h.1 HLM.out h.2.1))
  have CW : Hid (∀ d os, Calls Try.prog 10 #[] (grow (redrawn W7 d) os) (fun e w'' => e = .returned (.bool true) ∧ ∃ p : Regrown, w'' = grow (redrawn W7 p.d) p.os)) := hid_mk (fun d os => regrown_call (works38_any _))
  have z0 : ∀ d os, (grow (redrawn W7 d) os).cell? ⟨w1.heap.size, 0, none⟩ = some (.slice A1 st.tens.length c1) := fun d os => cell_regrown (HY17.out.cell 0) d os
  have z1 : ∀ d os, (grow (redrawn W7 d) os).cell? ⟨w1.heap.size, 1, none⟩ = some (.int .i64 st.serial) := fun d os => cell_regrown (HY17.out.cell 1) d os
  have u0 : ∀ d os, (grow (redrawn W7 d) os).cell? ⟨w6.heap.size, 0, none⟩ = some (.int .i64 (newRes st n).1.num) := fun d os => cell_regrown (HK67.out.cell 0) d os
  have u1 : ∀ d os, (grow (redrawn W7 d) os).cell? ⟨w6.heap.size, 1, none⟩ = some (.string (newRes st n).1.txt) := fun d os => cell_regrown (HK67.out.cell 1) d os
  have t0 : ∀ d os, (grow (redrawn W7 d) os).cell? ⟨w7.heap.size, 0, none⟩ = some (.int .i64 (newRes st n).1.num) := fun d os => cell_regrown (HK77.out.cell 0) d os
  have t1 : ∀ d os, (grow (redrawn W7 d) os).cell? ⟨w7.heap.size, 1, none⟩ = some (.string (newRes st n).1.txt) := fun d os => cell_regrown (HK77.out.cell 1) d os
  clear HSA HSA7 HY17 HK67 HK77 HB7 HY12 HY22 HK6 HW1 HW2 HW6
  generalize newRes st n = nr at *
  generalize keyRes st n num = kr at *
  generalize findI st.tens n = fi at *
  (refine wp_region_quiet_below (by kernel_rfl) (by kernel_rfl) ?_; (repeat (first | go_big_quiet_step ((first | (go_at_call 18; with_reducible exact CF.out _ _) | (go_at_call 25; with_reducible exact CG.out _ _) | (go_at_call 10; with_reducible exact CW.out _ _))) | quiet_step ((first | (go_at_call 18; with_reducible exact CF.out _ _) | (go_at_call 25; with_reducible exact CG.out _ _) | (go_at_call 10; with_reducible exact CW.out _ _))))); refine wpQuiet_nil ?_; intro _ hw'; obtain ⟨⟨nq, osq⟩, hw''⟩ := hw'; subst hw'')
  have HBX := hid_mk (HBW7.out.trans ((below_regrown W7 nq osq).mono HBW7.out.size))
  generalize grow (redrawn W7 nq) osq = V at *
  go_wp2
  exact bodyPost_ret (v := .bool true) (by simp [results, Try.results5, go_sem]) rfl ⟨rfl, HBX.out⟩
section
variable {H : Type} {enc : TypeId × Value → H} {W : World} {sp : Nat → Bool} {held : Bool}
theorem open_events {fuel : Nat} {v : Value} {x : DataW H × List MemPlace} (h : DataW.trod enc Try.prog W 0 sp held fuel 39 [v] = some x) :
    ∃ (A : Option Addr) (es : List Rn.E) (cap : Nat), v = .slice A es.length cap ∧ Fits A es.length cap ∧ es.length ≤ maxLen ∧ EventsAt (fun b => b < W.heap.size) W A es :=
  rows_open (R := eventR) Try.underlying39 (show Try.prog.cellsOf 26 = 5 by kernel_rfl) (by decide) (fun fuel cs x h => by
    obtain ⟨e, h1, h2, h3⟩ := open_event h
    exact ⟨e, ⟨h1, h2, h3⟩, by rw [h1]; rfl⟩) h
end
end Go.Proofs.Ytgcgilcalmefgaa
