/- The law RingRises: walked. -/
import Derived.Test.YtgcgilcalmefgaaRnWk
import Derived.Test.YtgcgilcalmefgaaRnU
import Derived.BigQuiet
namespace Go.Proofs.Ytgcgilcalmefgaa
open Go Go.RowKit Go.Sort
set_option maxRecDepth 100000
set_option linter.unusedSimpArgs false
set_option linter.unusedVariables false
set_option maxHeartbeats 4000000
theorem planWp_valueG {P : Program} {ops : Array Oper} {S : World → Prop} {Q : Exit → Act → World → Prop} {k : Nat} {p : Plan} {o : Oper} {a : Act} {w w' : World} {J : Act → World → Prop} (v : Value) (hw : Region.wanted o (yielded ops a.tmps) = true) (hr : (execOp a.eval o).run P w = .ok (.value v) w') (hS : S w') (h : planWp P ops S J Q p (a.put o.dst v) w') : planWp P ops S J Q (.one k o p) a w := by
  unfold planWp opAt
  rw [if_pos hw]
  unfold Oper.wp
  simp only [hr]
  exact ⟨hS, h⟩
theorem planWp_callG {P : Program} {ops : Array Oper} {S : World → Prop} {Q : Exit → Act → World → Prop} {k : Nat} {p : Plan} {o : Oper} {a : Act} {w : World} {J : Act → World → Prop} (f : FuncId) (args : Array Value) (T : Ending → World → Prop) (hw : Region.wanted o (yielded ops a.tmps) = true) (hr : (execOp a.eval o).run P w = .ok (.enter f args) w) (hc : Calls P f args w T)
    (h : ∀ e w', T e w' → ∃ v, e = .returned v ∧ S w' ∧ planWp P ops S J Q p (a.put o.dst v) w') : planWp P ops S J Q (.one k o p) a w := by
  unfold planWp opAt
  rw [if_pos hw]
  unfold Oper.wp
  simp only [hr, Oper.upon]
  refine hc.mono fun e w' ht => ?_
  obtain ⟨v, rfl, h1, h2⟩ := h e w' ht
  exact ⟨h1, h2⟩
theorem tens_one {G : Nat → Prop} {w : World} {g : Nat} {t : Rn.T} {A : Option Addr} {c : Nat} (hb : Blk w g #[.string (t).name, .int .i64 (t).epoch, .int .i64 (t).next, .slice (A) (t).keys.length (c)] 38) (hg : G g) (hf : Fits A t.keys.length c) (hl : t.keys.length ≤ maxLen) (hn : t.name.size ≤ maxLen) (hk : KeysAt G w A t.keys) : TensAt G w (some ⟨g, 0, none⟩) [t] := fun _ =>
  ⟨g, 0, rfl, hg, fun k hk' => by
    have : k = 0 := by simpa using hk'
    subst this
    exact ⟨_, ⟨A, c, rfl, hf, hl, hn, hk⟩, fun j u hj => by simp only [Nat.zero_mul, Nat.zero_add]; rw [hb.cell]; simpa using hj⟩⟩
theorem retSE_bad_out {G : Nat → Prop} {x : Int} {w w' : World} {e : Ending} (h : RetSE G (.bad x) w e w') : ∃ A c, e = .returned (.tuple #[.agg #[.slice A 0 c, .int .i64 0], .int .i64 x]) ∧ Below w.heap.size w w' := by
  obtain ⟨A, c, he, _, hb, _⟩ := h
  exact ⟨A, c, he, hb⟩
theorem retSE_ok_out {G : Nat → Prop} {t : Rn.S} {w w' : World} {e : Ending} (h : RetSE G (.ok t) w e w') : ∃ A c, e = .returned (.tuple #[.agg #[.slice (A) (t).tens.length (c), .int .i64 (t).serial], .int .i64 0]) ∧ Fits A t.tens.length c ∧ Below w.heap.size w w' ∧ TensAt (fun b => G b ∨ (w.heap.size ≤ b ∧ b < w'.heap.size)) w' A t.tens := h
theorem rises_any (s : Rn.S) (e : Rn.E) (A : Option Addr) (c : Nat) (G : Nat → Prop) (w : World) (hG : ∀ b, G b → b < w.heap.size) (hfit : Fits A s.tens.length c) (hl : s.tens.length ≤ maxLen) (hT : TensAt G w A s.tens) (hen : e.ten.size ≤ maxLen) (htx : e.txt.size ≤ maxLen) :
    Calls Try.prog 4 #[.agg #[.slice (A) (s).tens.length (c), .int .i64 (s).serial], .agg #[.int .i64 (e).kind, .string (e).ten, .int .i64 (e).num, .int .i64 (e).epoch, .string (e).txt]] w (RetG (.bool true) w) := by
  obtain ⟨W0, hW0⟩ : ∃ W0, W0 = (w.alloc (.cells #[.slice (A) (s).tens.length (c), .int .i64 (s).serial] 24)).alloc (.cells #[.int .i64 (e).kind, .string (e).ten, .int .i64 (e).num, .int .i64 (e).epoch, .string (e).txt] 26) := ⟨_, rfl⟩
  have hb0 : Below w.heap.size w W0 := by rw [hW0]; exact ((Below.refl _ _).alloc (Nat.le_refl _) _).alloc (by simp) _
  have hB1 : Blk W0 w.heap.size #[.slice (A) (s).tens.length (c), .int .i64 (s).serial] 24 := by rw [hW0]; exact (Blk.new w _ _).alloc _
  have hB2 : Blk W0 (w.heap.size + 1) #[.int .i64 (e).kind, .string (e).ten, .int .i64 (e).num, .int .i64 (e).epoch, .string (e).txt] 26 := by rw [hW0]; exact blk_new (by simp)
  have hTW : ∀ V, Below w.heap.size w V → TensAt G V A s.tens := fun V hV => tensAt_keep hT (fun b h => h) (kept_below hV hG)
  have hGW : ∀ V, Below w.heap.size w V → ∀ b, G b → b < V.heap.size := fun V hV b h => Nat.lt_of_lt_of_le (hG b h) hV.size
  have HGR := hide (great_any s A c G W0 (hGW _ hb0) hl (hTW _ hb0))
  have HB0 := hid_mk hb0
  have H1 := hid_mk hB1
  have H2 := hid_mk hB2
  have HW0 := hid_mk hW0
  have HTW := hid_mk hTW
  have HGW := hid_mk hGW
  have HFIT := hid_mk hfit
  (have y0 : W0.cell? ⟨w.heap.size, 0, none⟩ = some (.slice (A) (s).tens.length (c)) := hB1.cell 0; have y1 : W0.cell? ⟨w.heap.size, 1, none⟩ = some (.int .i64 (s).serial) := hB1.cell 1; have yf : ∀ i, W0.frozen? ⟨w.heap.size, i, none⟩ = false := hB1.frozen)
  clear hb0 hB1 hB2 hW0 hTW hGW hfit hG hT
  cases hg : greatS s with
  | true =>
    rw [hg] at HGR
    clear hg
    go_enter Try.func4, Try.ntmps4
    go_wp2_with fail
    rw [← HW0.out]
    refine (unhide HGR).mono ?_
    rintro e1 w1 ⟨rfl, hb1⟩
    have HB1 := hid_mk (HB0.out.trans (hb1.mono HB0.out.size))
    have HWK := hide (works38_any w1)
    clear hb1 HGR
    go_wp2_with fail
    refine (unhide HWK).mono ?_
    rintro e1 w2 ⟨rfl, hb2⟩
    have HB2 := hid_mk (HB1.out.trans (hb2.mono HB1.out.size))
    clear hb2
    go_wp2
    exact bodyPost_ret (v := .bool true) (by simp [results, Try.results4, go_sem]) rfl ⟨rfl, HB2.out⟩
  | false =>
  have hl20 : s.tens.length ≤ 1000 := by have := (greatS_spec hg).1; omega
  rw [hg] at HGR
  clear hg
  cases hr : Rn.right s with
  | false =>
    go_enter Try.func4, Try.ntmps4
    go_wp2_with fail
    rw [← HW0.out]
    refine (unhide HGR).mono ?_
    rintro e1 w1 ⟨rfl, hb1⟩
    have hb1' := HB0.out.trans (hb1.mono HB0.out.size)
    have HB1 := hid_mk hb1'
    have hx1 := H1.out.call hb1
    have HPR := hide (pright_any s A c G w1 (HGW.out _ hb1') hl (HTW.out _ hb1'))
    rw [hr] at HPR
    clear y0 y1 yf
    (have y0 : w1.cell? ⟨w.heap.size, 0, none⟩ = some (.slice (A) (s).tens.length (c)) := hx1.cell 0; have y1 : w1.cell? ⟨w.heap.size, 1, none⟩ = some (.int .i64 (s).serial) := hx1.cell 1; have yf : ∀ i, w1.frozen? ⟨w.heap.size, i, none⟩ = false := hx1.frozen)
    clear hb1 HGR hx1 hb1'
    go_wp2_with fail
    refine (unhide HPR).mono ?_
    rintro e1 w2 ⟨rfl, hb2⟩
    have HB2 := hid_mk (HB1.out.trans (hb2.mono HB1.out.size))
    have HWK := hide (works38_any w2)
    clear hb2 HPR
    go_wp2_with fail
    refine (unhide HWK).mono ?_
    rintro e1 w3 ⟨rfl, hb3⟩
    have HB3 := hid_mk (HB2.out.trans (hb3.mono HB2.out.size))
    clear hb3
    go_wp2
    exact bodyPost_ret (v := .bool true) (by simp [results, Try.results4, go_sem]) rfl ⟨rfl, HB3.out⟩
  | true =>
  have HR := hid_mk hr
  go_enter Try.func4, Try.ntmps4
  go_wp2_with fail
  rw [← HW0.out]
  refine (unhide HGR).mono ?_
  rintro e1 w1 ⟨rfl, hb1⟩
  have hb1' := HB0.out.trans (hb1.mono HB0.out.size)
  have HB1 := hid_mk hb1'
  have HX1 := hid_mk (H1.out.call hb1)
  have HX2 := hid_mk (H2.out.call hb1)
  have hx1 := HX1.out
  have HPR := hide (pright_any s A c G w1 (HGW.out _ hb1') hl (HTW.out _ hb1'))
  rw [hr] at HPR
  clear y0 y1 yf
  (have y0 : w1.cell? ⟨w.heap.size, 0, none⟩ = some (.slice (A) (s).tens.length (c)) := hx1.cell 0; have y1 : w1.cell? ⟨w.heap.size, 1, none⟩ = some (.int .i64 (s).serial) := hx1.cell 1; have yf : ∀ i, w1.frozen? ⟨w.heap.size, i, none⟩ = false := hx1.frozen)
  clear hb1 HGR hx1 hb1' hr
  go_wp2_with fail
  refine (unhide HPR).mono ?_
  rintro e1 w1a ⟨rfl, hb1⟩
  have hb1' := HB1.out.trans (hb1.mono HB1.out.size)
  have HB1A := hid_mk hb1'
  have HX1A := hid_mk (HX1.out.call hb1)
  have HX2A := hid_mk (HX2.out.call hb1)
  have hx1 := HX1A.out
  have hx2 := HX2A.out
  have HPA := hide (papply_any s e A c G w1a (HGW.out _ hb1') hl20 HFIT.out (HTW.out _ hb1') hen htx)
  clear y0 y1 yf
  (have y0 : w1a.cell? ⟨w.heap.size, 0, none⟩ = some (.slice (A) (s).tens.length (c)) := hx1.cell 0; have y1 : w1a.cell? ⟨w.heap.size, 1, none⟩ = some (.int .i64 (s).serial) := hx1.cell 1; have yf : ∀ i, w1a.frozen? ⟨w.heap.size, i, none⟩ = false := hx1.frozen)
  (have x0 : w1a.cell? ⟨w.heap.size + 1, 0, none⟩ = some (.int .i64 (e).kind) := hx2.cell 0; have x1 : w1a.cell? ⟨w.heap.size + 1, 1, none⟩ = some (.string (e).ten) := hx2.cell 1; have x2 : w1a.cell? ⟨w.heap.size + 1, 2, none⟩ = some (.int .i64 (e).num) := hx2.cell 2; have x3 : w1a.cell? ⟨w.heap.size + 1, 3, none⟩ = some (.int .i64 (e).epoch) := hx2.cell 3; have x4 : w1a.cell? ⟨w.heap.size + 1, 4, none⟩ = some (.string (e).txt) := hx2.cell 4; have xf : ∀ i, w1a.frozen? ⟨w.heap.size + 1, i, none⟩ = false := hx2.frozen)
  clear hb1 hx1 hx2 hb1' HPR
  go_wp2_with fail
  cases ha : Rn.apply s e with
  | bad x =>
    rw [ha] at HPA
    have hx := Rn.apply_err ha
    have hx2 : (x != 0) = true := by simpa using hx
    refine (unhide HPA).mono ?_
    intro e1 w2 hre
    obtain ⟨A1, c1, rfl, hb2⟩ := retSE_bad_out hre
    have hb2a : Below w1a.heap.size w1a (w2.alloc (.cells #[.slice A1 0 c1, .int .i64 0] 24)) := hb2.alloc hb2.size _
    have HB2 := hid_mk (HB1A.out.trans (hb2a.mono HB1A.out.size))
    have HWK := hide (works38_any (w2.alloc (.cells #[.slice A1 0 c1, .int .i64 0] 24)))
    clear ha hre hb2 hb2a HPA y0 y1 yf x0 x1 x2 x3 x4 xf
    go_wp2_with fail
    refine (unhide HWK).mono ?_
    rintro e1 w3 ⟨rfl, hb3⟩
    have HB3 := hid_mk (HB2.out.trans (hb3.mono HB2.out.size))
    clear hb3
    go_wp2
    exact bodyPost_ret (v := .bool true) (by simp [results, Try.results4, go_sem]) rfl ⟨rfl, HB3.out⟩
  | ok t =>
  rw [ha] at HPA
  refine (unhide HPA).mono ?_
  intro e1 w2 hre
  obtain ⟨A1, c1, rfl, hf1, hb2, hT1⟩ := retSE_ok_out hre
  have hb2a : Below w1a.heap.size w1a (w2.alloc (.cells #[.slice (A1) (t).tens.length (c1), .int .i64 (t).serial] 24)) := hb2.alloc hb2.size _
  have hbw2 := HB1A.out.trans (hb2a.mono HB1A.out.size)
  have HB2 := hid_mk hbw2
  have HX12 := hid_mk (HX1A.out.call hb2a)
  have HX22 := hid_mk (HX2A.out.call hb2a)
  have HY1 := hid_mk (Blk.new w2 #[.slice (A1) (t).tens.length (c1), .int .i64 (t).serial] 24)
  have HT1 : Hid (TensAt (fun b => b < w2.heap.size) (w2.alloc (.cells #[.slice (A1) (t).tens.length (c1), .int .i64 (t).serial] 24)) A1 t.tens) := hid_mk (tensAt_keep hT1 (fun b h => by rcases h with h | h; have := HGW.out _ HB1A.out b h; have := hb2.size; omega; exact h.2) (kept_below ((Below.refl w2.heap.size w2).alloc (Nat.le_refl _) _) (fun b h => by rcases h with h | h; have := HGW.out _ HB1A.out b h; have := hb2.size; omega; exact h.2)))
  have hs2 : w.heap.size + 1 < w2.heap.size := by have := HX2A.out.lt; have := hb2.size; omega
  have hsz2 : w2.heap.size < (w2.alloc (.cells #[.slice (A1) (t).tens.length (c1), .int .i64 (t).serial] 24)).heap.size := by simp
  clear y0 y1 yf x0 x1 x2 x3 x4 xf hre hf1 hb2 hT1 hb2a hbw2 HPA
  generalize hW2 : w2.alloc (.cells #[.slice (A1) (t).tens.length (c1), .int .i64 (t).serial] 24) = W2 at *
  have hy1 := HY1.out
  have hx1 := HX12.out
  obtain ⟨hrt, hser, hlen, hup⟩ := Rn.apply_rose ha
  have HUP := hid_mk hup
  have h16 := (Rn.right_parts hrt).1
  have HRIS := hid_mk (Rn.right_parts hrt).2.2.2
  have htl : t.tens.length ≤ maxLen := by unfold maxLen; omega
  have HPT := hide (pright_any t A1 c1 (fun b => b < w2.heap.size) W2 (fun b h => by omega) htl HT1.out)
  rw [hrt] at HPT
  have f3 : decide (t.serial < s.serial) = false := decide_eq_false (by omega)
  have f4 : decide ((t.tens.length : Int) < (s.tens.length : Int)) = false := decide_eq_false (by omega)
  have f5 : decide (t.tens.length < s.tens.length) = false := decide_eq_false (by omega)
  have f6 : ¬ t.serial < s.serial := by omega
  have f7 : ¬ (t.tens.length : Int) < (s.tens.length : Int) := by omega
  (have y0 : W2.cell? ⟨w2.heap.size, 0, none⟩ = some (.slice (A1) (t).tens.length (c1)) := hy1.cell 0; have y1 : W2.cell? ⟨w2.heap.size, 1, none⟩ = some (.int .i64 (t).serial) := hy1.cell 1; have yf : ∀ i, W2.frozen? ⟨w2.heap.size, i, none⟩ = false := hy1.frozen)
  (have x0 : W2.cell? ⟨w.heap.size, 0, none⟩ = some (.slice (A) (s).tens.length (c)) := hx1.cell 0; have x1 : W2.cell? ⟨w.heap.size, 1, none⟩ = some (.int .i64 (s).serial) := hx1.cell 1; have xf : ∀ i, W2.frozen? ⟨w.heap.size, i, none⟩ = false := hx1.frozen)
  clear ha hup hrt hser hlen hy1 hx1
  go_wp2_with fail
  have HW2 := hid_mk hW2
  clear hW2
  refine (unhide HPT).mono ?_
  rintro e1 w3 ⟨rfl, hb3⟩
  have HB3 := hid_mk (HB2.out.trans (hb3.mono HB2.out.size))
  have HX13 := hid_mk (HX12.out.call hb3)
  have HX23 := hid_mk (HX22.out.call hb3)
  have HY3 := hid_mk (HY1.out.call hb3)
  have HT3 := hid_mk (tensAt_keep HT1.out (fun b h => h) (kept_below hb3 (fun b h => by omega)))
  have hs3 : w2.heap.size < w3.heap.size := by have := hb3.size; omega
  have hy1 := HY3.out
  have hx1 := HX13.out
  clear y0 y1 yf x0 x1 xf
  (have y0 : w3.cell? ⟨w2.heap.size, 0, none⟩ = some (.slice (A1) (t).tens.length (c1)) := hy1.cell 0; have y1 : w3.cell? ⟨w2.heap.size, 1, none⟩ = some (.int .i64 (t).serial) := hy1.cell 1; have yf : ∀ i, w3.frozen? ⟨w2.heap.size, i, none⟩ = false := hy1.frozen)
  (have x0 : w3.cell? ⟨w.heap.size, 0, none⟩ = some (.slice (A) (s).tens.length (c)) := hx1.cell 0; have x1 : w3.cell? ⟨w.heap.size, 1, none⟩ = some (.int .i64 (s).serial) := hx1.cell 1; have xf : ∀ i, w3.frozen? ⟨w.heap.size, i, none⟩ = false := hx1.frozen)
  clear hb3 hy1 hx1 HPT HX12 HX22 HY1 HT1
  go_wp2
  clear y0 y1 yf x0 x1 xf f3 f4 f5 f6 f7
  have hlm : s.tens.length ≤ 9223372036854775807 := by unfold maxLen at hl; exact hl
  go_loopw [7, 8, 9] (fun v _ _ wr => UpAt s.tens.length w3 v wr) (fun v _ _ _ => s.tens.length - (intOf v).toNat)
  case atStart => exact ⟨0, rfl, Nat.zero_le _, Below.refl _ _⟩
  case round =>
    obtain ⟨k, rfl, hk, hb⟩ := hrel
    have HB := hid_mk hb
    have hbw := HB3.out.trans (hb.mono HB3.out.size)
    have HBW := hid_mk hbw
    have hx1 := HX13.out.call hb
    have hy1 := HY3.out.call hb
    by_cases hlt : k < s.tens.length
    case neg =>
      have hn : ¬ ((k : Int) < (s.tens.length : Int)) := by omega
      have HWK := hide (works38_any wr)
      (have x0 : wr.cell? ⟨w.heap.size, 0, none⟩ = some (.slice (A) (s).tens.length (c)) := hx1.cell 0; have x1 : wr.cell? ⟨w.heap.size, 1, none⟩ = some (.int .i64 (s).serial) := hx1.cell 1; have xf : ∀ i, wr.frozen? ⟨w.heap.size, i, none⟩ = false := hx1.frozen)
      clear hb hbw hx1 hy1
      go_wp2_with fail
      refine (unhide HWK).mono ?_
      rintro e1 w4 ⟨rfl, hb4⟩
      have HB4 := hid_mk (HBW.out.trans (hb4.mono HBW.out.size))
      clear hb4
      go_wp2
      exact bodyPost_ret (v := .bool true) (by simp [results, Try.results4, go_sem]) rfl ⟨rfl, HB4.out⟩
    have hTs := HTW.out _ hbw
    have hTt := tensAt_keep HT3.out (fun b h => h) (kept_below hb (fun b h => by omega))
    obtain ⟨b, o, A', c', e1, hg1, hft, hsl, hsn, hks, p0, p1, p2, p3⟩ := tens_at hTs hlt
    subst e1
    obtain ⟨x, hxm, hxn, hxe, hxx, hxs⟩ := HUP.out _ (List.getElem_mem hlt)
    obtain ⟨j, hj, hfj, hjx⟩ := Rn.find_mem HRIS.out hxm
    obtain ⟨b2, o2, A2, c2, e2, hg2, hft2, hsl2, hsn2, hks2, q0, q1, q2, q3⟩ := tens_at hTt hj
    subst e2
    rw [hjx] at hft2 hsl2 hsn2 hks2 q0 q1 q2 q3
    rw [hxn] at hfj
    have hgb := HGW.out _ hbw b hg1
    generalize s.tens[k] = p at *
    have HC : Hid (∀ d os, Calls Try.prog 18 #[.agg #[.slice ((some ⟨b2, o2, none⟩)) (t).tens.length (c1), .int .i64 (t).serial], .string p.name] (grow (redrawn wr d) os) (fun e w'' => e = .returned (.int .i64 (j : Int)) ∧ ∃ p : Regrown, w'' = grow (redrawn wr p.d) p.os)) := hid_mk (fun d os => by
      have hb' := below_regrown wr d os
      have h1 := pfind_any t (some ⟨b2, o2, none⟩) c1 p.name (fun b => b < w2.heap.size) (grow (redrawn wr d) os) (fun b h => by have := hb'.size; have := hb.size; omega) htl (tensAt_keep hTt (fun b h => h) (kept_below hb' (fun b h => by have := hb.size; omega)))
      rw [hfj] at h1
      exact regrown_call h1)
    have z0 : ∀ d os, (grow (redrawn wr d) os).cell? ⟨w.heap.size, 0, none⟩ = some (.slice (some ⟨b, o, none⟩) s.tens.length c) := fun d os => cell_regrown (hx1.cell 0) d os
    have z1 : ∀ d os, (grow (redrawn wr d) os).cell? ⟨w2.heap.size, 0, none⟩ = some (.slice (some ⟨b2, o2, none⟩) t.tens.length c1) := fun d os => cell_regrown (hy1.cell 0) d os
    have z2 : ∀ d os, (grow (redrawn wr d) os).cell? ⟨w2.heap.size, 1, none⟩ = some (.int .i64 t.serial) := fun d os => cell_regrown (hy1.cell 1) d os
    have z3 : ∀ d os, (grow (redrawn wr d) os).cell? ⟨b, o + k * 4, none⟩ = some (.string p.name) := fun d os => cell_regrown p0 d os
    have hkl : (k : Int) < (s.tens.length : Int) := by omega
    have hxq := hx1.cell 0
    have hx0 : wr.cell? ⟨w.heap.size, 0, none⟩ = some (.slice (some ⟨b, o, none⟩) s.tens.length c) := hxq
    have HPP := hid_mk (show wr.cell? ⟨b, o + k * 4, none⟩ = some (.string p.name) ∧ wr.cell? ⟨b, o + k * 4 + 1, none⟩ = some (.int .i64 p.epoch) ∧ wr.cell? ⟨b, o + k * 4 + 2, none⟩ = some (.int .i64 p.next) ∧ wr.cell? ⟨b, o + k * 4 + 3, none⟩ = some (.slice A' p.keys.length c') from ⟨p0, p1, p2, p3⟩)
    have HQQ := hid_mk (show wr.cell? ⟨b2, o2 + j * 4, none⟩ = some (.string x.name) ∧ wr.cell? ⟨b2, o2 + j * 4 + 1, none⟩ = some (.int .i64 x.epoch) ∧ wr.cell? ⟨b2, o2 + j * 4 + 2, none⟩ = some (.int .i64 x.next) ∧ wr.cell? ⟨b2, o2 + j * 4 + 3, none⟩ = some (.slice A2 x.keys.length c2) from ⟨q0, q1, q2, q3⟩)
    have HKS := hid_mk hks
    have HKT := hid_mk hks2
    have HFT := hid_mk hft
    have HFT2 := hid_mk hft2
    have HXE := hid_mk hxe
    have HXX := hid_mk hxx
    have HXS := hid_mk hxs
    have HX1 := hid_mk hx1
    have HY1 := hid_mk hy1
    have HX2R := hid_mk (HX23.out.call hb)
    have HSN := hid_mk hsn
    have HSL := hid_mk hsl
    clear hb hbw hx1 hy1 hTs hTt hxm hxn hxe hxx hxs hfj hjx hft hsl hsn hks hft2 hsl2 hsn2 hks2 p0 p1 p2 p3 q0 q1 q2 q3 hxq
    go_wp2
    (refine wp_region_quiet_below (by kernel_rfl) (by kernel_rfl) ?_; (repeat (first | go_big_quiet_step ((go_at_call 18; exact HC.out _ _)) | quiet_step ((go_at_call 18; exact HC.out _ _)))); refine wpQuiet_nil ?_; intro _ hw'; obtain ⟨⟨nq, osq⟩, hw''⟩ := hw'; subst hw'')
    have hvb := below_regrown wr nq osq
    have HBV := hid_mk hvb
    clear hvb z0 z1 z2 z3 HC hx0
    generalize grow (redrawn wr nq) osq = V at *
    have zv0 : ∀ d os, (grow (redrawn V d) os).cell? ⟨w.heap.size, 0, none⟩ = some (.slice (some ⟨b, o, none⟩) s.tens.length c) := fun d os => cell_regrown ((HX1.out.call HBV.out).cell 0) d os
    have zv1 : ∀ d os, (grow (redrawn V d) os).cell? ⟨w2.heap.size, 0, none⟩ = some (.slice (some ⟨b2, o2, none⟩) t.tens.length c1) := fun d os => cell_regrown ((HY1.out.call HBV.out).cell 0) d os
    have zp1 : ∀ d os, (grow (redrawn V d) os).cell? ⟨b, o + k * 4 + 1, none⟩ = some (.int .i64 p.epoch) := fun d os => cell_regrown (cell_in HBV.out HPP.out.2.1) d os
    have zp2 : ∀ d os, (grow (redrawn V d) os).cell? ⟨b, o + k * 4 + 2, none⟩ = some (.int .i64 p.next) := fun d os => cell_regrown (cell_in HBV.out HPP.out.2.2.1) d os
    have zq1 : ∀ d os, (grow (redrawn V d) os).cell? ⟨b2, o2 + j * 4 + 1, none⟩ = some (.int .i64 x.epoch) := fun d os => cell_regrown (cell_in HBV.out HQQ.out.2.1) d os
    have zq2 : ∀ d os, (grow (redrawn V d) os).cell? ⟨b2, o2 + j * 4 + 2, none⟩ = some (.int .i64 x.next) := fun d os => cell_regrown (cell_in HBV.out HQQ.out.2.2.1) d os
    have g0 : decide ((j : Int) < 0) = false := decide_eq_false (by omega)
    have g1 : decide ((t.tens.length : Int) ≤ (j : Int)) = false := decide_eq_false (by omega)
    have g2 : decide (x.epoch < p.epoch) = false := decide_eq_false (by have := HXE.out; omega)
    have g3 : decide (x.next < p.next) = false := decide_eq_false (by have := HXX.out; omega)
    have g4 : decide (t.tens.length ≤ j) = false := decide_eq_false (by omega)
    have hjl : (j : Int) < (t.tens.length : Int) := by omega
    go_wp2
    (refine wp_region_quiet_below (by kernel_rfl) (by kernel_rfl) ?_; (repeat (first | go_big_quiet_step (fail) | quiet_step (fail))); refine wpQuiet_nil ?_; intro _ hw'; obtain ⟨⟨nq, osq⟩, hw''⟩ := hw'; subst hw'')
    have hvb := below_regrown V nq osq
    have HBX := hid_mk (HBV.out.trans (hvb.mono HBV.out.size))
    clear hvb zv0 zv1 zp1 zp2 zq1 zq2 g0 g1 g2 g3 g4 HBV
    generalize grow (redrawn V nq) osq = X at *
    have hx1 := HX1.out.call HBX.out
    have hx0 : X.cell? ⟨w.heap.size, 0, none⟩ = some (.slice (some ⟨b, o, none⟩) s.tens.length c) := hx1.cell 0
    have r0 : X.cell? ⟨b, o + k * 4, none⟩ = some (.string p.name) := cell_in HBX.out HPP.out.1
    have r1 : X.cell? ⟨b, o + k * 4 + 1, none⟩ = some (.int .i64 p.epoch) := cell_in HBX.out HPP.out.2.1
    have r2 : X.cell? ⟨b, o + k * 4 + 2, none⟩ = some (.int .i64 p.next) := cell_in HBX.out HPP.out.2.2.1
    have r3 : X.cell? ⟨b, o + k * 4 + 3, none⟩ = some (.slice A' p.keys.length c') := cell_in HBX.out HPP.out.2.2.2
    clear hx1
    go_wp2
    obtain ⟨Y, hY⟩ : ∃ Y, Y = (X.alloc (.cells #[.string (p).name, .int .i64 (p).epoch, .int .i64 (p).next, .slice (A') (p).keys.length (c')] 38)).alloc (.cells #[.slice (some ⟨X.heap.size, 0, none⟩) 1 1, .int .i64 0] 24) := ⟨_, rfl⟩
    have hby : Below X.heap.size X Y := by rw [hY]; exact ((Below.refl _ _).alloc (Nat.le_refl _) _).alloc (by simp) _
    have hN1 : Blk Y X.heap.size #[.string (p).name, .int .i64 (p).epoch, .int .i64 (p).next, .slice (A') (p).keys.length (c')] 38 := by rw [hY]; exact (Blk.new X _ _).alloc _
    have hN2 : Blk Y (X.heap.size + 1) #[.slice (some ⟨X.heap.size, 0, none⟩) 1 1, .int .i64 0] 24 := by rw [hY]; exact blk_new (by simp)
    have HBY := hid_mk (HBX.out.trans (hby.mono HBX.out.size))
    have HN1 := hid_mk hN1
    have HN2 := hid_mk hN2
    have HYS := hid_mk (show wr.heap.size + 2 ≤ Y.heap.size by rw [hY]; have := HBX.out.size; simp; omega)
    have HXS0 := hid_mk (show wr.heap.size ≤ X.heap.size from HBX.out.size)
    have HBYW := hid_mk (HBW.out.trans (HBY.out.mono HBW.out.size))
    have HBYB := hid_mk (HB.out.trans (HBY.out.mono HB.out.size))
    rw [← hY]
    have HX2Y := hid_mk (HX2R.out.call HBY.out)
    clear hby hN1 hN2 hx0 r0 r1 r2 r3 hY
    by_cases hnm : p.name = e.ten
    · have z0 : ∀ d os, (grow (redrawn Y d) os).cell? ⟨w.heap.size, 0, none⟩ = some (.slice (some ⟨b, o, none⟩) s.tens.length c) := fun d os => cell_regrown ((HX1.out.call HBY.out).cell 0) d os
      have z3 : ∀ d os, (grow (redrawn Y d) os).cell? ⟨b, o + k * 4, none⟩ = some (.string e.ten) := fun d os => cell_regrown (cell_in HBY.out (by rw [← hnm]; exact HPP.out.1)) d os
      have ze : ∀ d os, (grow (redrawn Y d) os).cell? ⟨w.heap.size + 1, 1, none⟩ = some (.string e.ten) := fun d os => cell_regrown (HX2Y.out.cell 1) d os
      clear hnm
      (refine wp_region_quiet_below (by kernel_rfl) (by kernel_rfl) ?_; (repeat (first | go_big_quiet_step (fail) | quiet_step (fail))); refine wpQuiet_nil ?_; intro _ hw'; obtain ⟨⟨nq, osq⟩, hw''⟩ := hw'; subst hw'')
      have HBZ := hid_mk (HBYB.out.trans ((below_regrown Y nq osq).mono HBYB.out.size))
      clear z0 z3 ze
      generalize grow (redrawn Y nq) osq = Z at *
      go_wp2
      go_roundw
      case rel => exact ⟨k + 1, by go_num, by omega, HBZ.out⟩
      case measure => simp [intOf]; omega
    · have hxp : x = p := HXS.out hnm
      subst hxp
      have hnb : (x.name.toList == e.ten.toList) = false := by rw [bytes_beq]; exact decide_eq_false hnm
      have hnc : (x.name.toList != e.ten.toList) = true := by rw [bne, hnb]; rfl
      have hnd : ¬ x.name.toList = e.ten.toList := by simpa using hnb
      clear hnm
      have z0 : ∀ p : InB (Below Y.heap.size Y), p.w.cell? ⟨w.heap.size, 0, none⟩ = some (.slice (some ⟨b, o, none⟩) s.tens.length c) := fun p => cell_in p.ok ((HX1.out.call HBY.out).cell 0)
      have z1 : ∀ p : InB (Below Y.heap.size Y), p.w.cell? ⟨w2.heap.size, 0, none⟩ = some (.slice (some ⟨b2, o2, none⟩) t.tens.length c1) := fun p => cell_in p.ok ((HY1.out.call HBY.out).cell 0)
      have z3 : ∀ p : InB (Below Y.heap.size Y), p.w.cell? ⟨b, o + k * 4, none⟩ = some (.string x.name) := fun p => cell_in p.ok (cell_in HBY.out HPP.out.1)
      have ze : ∀ p : InB (Below Y.heap.size Y), p.w.cell? ⟨w.heap.size + 1, 1, none⟩ = some (.string e.ten) := fun p => cell_in p.ok (HX2Y.out.cell 1)
      have zb0 : ∀ p : InB (Below Y.heap.size Y), p.w.cell? ⟨X.heap.size + 1, 0, none⟩ = some (.slice (some ⟨X.heap.size, 0, none⟩) 1 1) := fun p => cell_in p.ok (HN2.out.cell 0)
      have zb1 : ∀ p : InB (Below Y.heap.size Y), p.w.cell? ⟨X.heap.size + 1, 1, none⟩ = some (.int .i64 0) := fun p => cell_in p.ok (HN2.out.cell 1)
      have s0 : ∀ p : InB (Below Y.heap.size Y), p.w.cell? ⟨b2, o2 + j * 4, none⟩ = some (.string x.name) := fun p => cell_in p.ok (cell_in HBY.out HQQ.out.1)
      have s1 : ∀ p : InB (Below Y.heap.size Y), p.w.cell? ⟨b2, o2 + j * 4 + 1, none⟩ = some (.int .i64 x.epoch) := fun p => cell_in p.ok (cell_in HBY.out HQQ.out.2.1)
      have s2 : ∀ p : InB (Below Y.heap.size Y), p.w.cell? ⟨b2, o2 + j * 4 + 2, none⟩ = some (.int .i64 x.next) := fun p => cell_in p.ok (cell_in HBY.out HQQ.out.2.2.1)
      have s3 : ∀ p : InB (Below Y.heap.size Y), p.w.cell? ⟨b2, o2 + j * 4 + 3, none⟩ = some (.slice A2 x.keys.length c2) := fun p => cell_in p.ok (cell_in HBY.out HQQ.out.2.2.2)
      (refine region_plan (S := Meets (Below Y.heap.size Y)) (.read 0 _ (.read 1 _ (.read 2 _ (.read 3 _ (.read 4 _ (.read 5 _ (.read 6 _ (.read 7 _ (.read 8 _ (.read 9 _ (.read 10 _ (.read 11 _ (.read 12 _ (.read 13 _ (.read 14 _ (.read 15 _ (.one 16 _ (.read 17 _ (.one 18 _ (.read 19 _ (.read 20 _ .tail))))))))))))))))))))) 21 (by kernel_rfl) (by kernel_rfl) ⟨rfl, ⟨rfl, ⟨rfl, ⟨rfl, ⟨rfl, ⟨rfl, ⟨rfl, ⟨rfl, ⟨rfl, ⟨rfl, ⟨rfl, ⟨rfl, ⟨rfl, ⟨rfl, ⟨rfl, ⟨rfl, ⟨rfl, ⟨rfl, ⟨rfl, ⟨rfl, ⟨rfl, trivial⟩⟩⟩⟩⟩⟩⟩⟩⟩⟩⟩⟩⟩⟩⟩⟩⟩⟩⟩⟩⟩ (by kernel_rfl) (by kernel_rfl) (fun d v c a w h => by cases d <;> exact h) (fun w p h => by obtain ⟨q, rfl⟩ := h; exact meets_mk (below_grew q.ok p)) (meets_mk ?_) ?_)
      · exact (Below.refl _ _).drew
      intro J hJ
      have HJ := hid_mk hJ
      clear hJ
      (repeat (refine planWp_read (fun K hK => ?_); go_simp; (first | (refine hK _ ?_; clear hK K) | (apply Exists.intro; refine ⟨fun _ => rfl, hK _ ?_⟩; clear hK K))))
      have hby1 : Below Y.heap.size Y (Y.alloc (.cells #[.string (x).name, .int .i64 (x).epoch, .int .i64 (x).next, .slice (A2) (x).keys.length (c2)] 38)).drew := ((Below.refl _ _).alloc (Nat.le_refl _) _).drew
      have hM1 : Blk (Y.alloc (.cells #[.string (x).name, .int .i64 (x).epoch, .int .i64 (x).next, .slice (A2) (x).keys.length (c2)] 38)).drew X.heap.size #[.string (x).name, .int .i64 (x).epoch, .int .i64 (x).next, .slice (A') (x).keys.length (c')] 38 := HN1.out.call hby1
      have hM2 : Blk (Y.alloc (.cells #[.string (x).name, .int .i64 (x).epoch, .int .i64 (x).next, .slice (A2) (x).keys.length (c2)] 38)).drew Y.heap.size #[.string (x).name, .int .i64 (x).epoch, .int .i64 (x).next, .slice (A2) (x).keys.length (c2)] 38 := Blk.new Y _ _
      have hY1s : (Y.alloc (.cells #[.string (x).name, .int .i64 (x).epoch, .int .i64 (x).next, .slice (A2) (x).keys.length (c2)] 38)).drew.heap.size = Y.heap.size + 1 := by show (Y.alloc _).heap.size = _; simp
      have hkA : KeysAt (fun b => b < (Y.alloc (.cells #[.string (x).name, .int .i64 (x).epoch, .int .i64 (x).next, .slice (A2) (x).keys.length (c2)] 38)).drew.heap.size) (Y.alloc (.cells #[.string (x).name, .int .i64 (x).epoch, .int .i64 (x).next, .slice (A2) (x).keys.length (c2)] 38)).drew A' x.keys := keysAt_keep HKS.out (fun b h => by have := HGW.out _ HBYW.out b h; omega) (kept_below (HBY.out.trans (hby1.mono HBY.out.size)) (fun b h => by have := HGW.out _ HBW.out b h; exact this))
      have hkB : KeysAt (fun b => b < (Y.alloc (.cells #[.string (x).name, .int .i64 (x).epoch, .int .i64 (x).next, .slice (A2) (x).keys.length (c2)] 38)).drew.heap.size) (Y.alloc (.cells #[.string (x).name, .int .i64 (x).epoch, .int .i64 (x).next, .slice (A2) (x).keys.length (c2)] 38)).drew A2 x.keys := keysAt_keep HKT.out (fun b h => by have := HYS.out; have := HBYB.out.size; have := HBY.out.size; omega) (kept_below (HBY.out.trans (hby1.mono HBY.out.size)) (fun b h => by have := HB.out.size; omega))
      have HSAME := hid_mk (same_any ⟨[x], 0⟩ (some ⟨X.heap.size, 0, none⟩) (some ⟨Y.heap.size, 0, none⟩) 1 1 (fun b => b < (Y.alloc (.cells #[.string (x).name, .int .i64 (x).epoch, .int .i64 (x).next, .slice (A2) (x).keys.length (c2)] 38)).drew.heap.size) (Y.alloc (.cells #[.string (x).name, .int .i64 (x).epoch, .int .i64 (x).next, .slice (A2) (x).keys.length (c2)] 38)).drew (fun b h => h) (show (1 : Nat) ≤ maxLen by decide) (tens_one hM1 (by show X.heap.size < _; have := HN1.out.lt; omega) HFT.out HSL.out HSN.out hkA) (tens_one hM2 (by show Y.heap.size < _; omega) HFT2.out HSL.out HSN.out hkB))
      have HBY1 := hid_mk hby1
      clear hby1 hM1 hM2 hkA hkB hY1s
      refine planWp_valueG (.slice (some ⟨Y.heap.size, 0, none⟩) 1 1) (w' := (Y.alloc (.cells #[.string (x).name, .int .i64 (x).epoch, .int .i64 (x).next, .slice (A2) (x).keys.length (c2)] 38)).drew) (by go_simp) (by go_simp) (meets_mk HBY1.out) ?_
      (repeat (refine planWp_read (fun K hK => ?_); go_simp; (first | (refine hK _ ?_; clear hK K) | (apply Exists.intro; refine ⟨fun _ => rfl, hK _ ?_⟩; clear hK K))))
      refine planWp_callG 17 #[.agg #[.slice (some ⟨X.heap.size, 0, none⟩) 1 1, .int .i64 0], .agg #[.slice (some ⟨Y.heap.size, 0, none⟩) 1 1, .int .i64 0]] _ (by go_simp) (by go_simp) HSAME.out ?_
      rintro e1 w5 ⟨rfl, hb5⟩
      have HB5 := hid_mk (HBY1.out.trans (hb5.mono HBY1.out.size))
      refine ⟨_, rfl, meets_mk HB5.out, ?_⟩
      clear hb5
      (repeat (refine planWp_read (fun K hK => ?_); go_simp; (first | (refine hK _ ?_; clear hK K) | (apply Exists.intro; refine ⟨fun _ => rfl, hK _ ?_⟩; clear hK K))))
      refine planWp_tail (HJ.out _ _ (meets_mk HB5.out) ?_)
      clear HJ z0 z1 z3 ze zb0 zb1 s0 s1 s2 s3 HSAME
      (unfold PairEnd; simp only [List.drop_succ_cons, List.drop_zero]; refine wpQuiet_nil ?_; intro _ hw'; obtain ⟨⟨nq, osq⟩, hw''⟩ := hw'; subst hw'')
      have HBZ0 := HB5.out.trans ((below_regrown w5 nq osq).mono HB5.out.size)
      have HBZ := hid_mk (HBYB.out.trans (HBZ0.mono HBYB.out.size))
      clear HBZ0
      generalize grow (redrawn w5 nq) osq = Z at *
      go_wp2
      go_roundw
      case rel => exact ⟨k + 1, by go_num, by omega, HBZ.out⟩
      case measure => simp [intOf]; omega
end Go.Proofs.Ytgcgilcalmefgaa
