/- The law RegexTells walked. -/
import Derived.Test.YthgcefppeaopkaaDoorTellsW
import Derived.Test.YthgcefppeaopkaaDoorTellsS
import Derived.Test.YthgcefppeaopkaaDoorTellsR
import Derived.Test.YthgcefppeaopkaaDoorLaidT
namespace Go.Proofs.YthgcefppeaopkaaDoor
open Go Go.RowKit Go.Sort
set_option maxRecDepth 100000
set_option linter.unusedSimpArgs false
set_option linter.unusedVariables false
set_option maxHeartbeats 4000000
theorem tells_any (a b : Node) (A B : Option Addr) (ca cb : Nat) (w : World) (hla : a.lens) (hlb : b.lens) (hsa : SlOk A a.kids.length ca) (hsb : SlOk B b.kids.length cb) (hka : KidsAt (fun x => x < w.heap.size) w A a.kids) (hkb : KidsAt (fun x => x < w.heap.size) w B b.kids) (hT : TabW w) :
    Calls Tryd.prog 5 #[.agg #[.int .i64 (a.kind), .int .u64 ((a.set).a.toNat : Int), .int .u64 ((a.set).b.toNat : Int), .int .u64 ((a.set).c.toNat : Int), .int .u64 ((a.set).d.toNat : Int), .slice (A) (a.kids.length) (ca), .int .i64 (a.min), .int .i64 (a.max)], .agg #[.int .i64 (b.kind), .int .u64 ((b.set).a.toNat : Int), .int .u64 ((b.set).b.toNat : Int), .int .u64 ((b.set).c.toNat : Int), .int .u64 ((b.set).d.toNat : Int), .slice (B) (b.kids.length) (cb), .int .i64 (b.min), .int .i64 (b.max)]] w (RetG (.bool true) w) := by
  obtain ⟨W, hW⟩ : ∃ W, W = (w.alloc (.cells #[.int .i64 (a.kind), .int .u64 ((a.set).a.toNat : Int), .int .u64 ((a.set).b.toNat : Int), .int .u64 ((a.set).c.toNat : Int), .int .u64 ((a.set).d.toNat : Int), .slice (A) (a.kids.length) (ca), .int .i64 (a.min), .int .i64 (a.max)] 28)).alloc (.cells #[.int .i64 (b.kind), .int .u64 ((b.set).a.toNat : Int), .int .u64 ((b.set).b.toNat : Int), .int .u64 ((b.set).c.toNat : Int), .int .u64 ((b.set).d.toNat : Int), .slice (B) (b.kids.length) (cb), .int .i64 (b.min), .int .i64 (b.max)] 28) := ⟨_, rfl⟩
  have hbW : Below w.heap.size w W := by rw [hW]; exact (by repeat (first | with_reducible exact Below.refl _ _ | with_reducible assumption | with_reducible refine Below.setCell ?_ (by first | omega | (dsimp only; omega) | (simp <;> omega)) _ | with_reducible refine Below.alloc ?_ (by first | omega | (simp <;> omega)) _ | with_reducible refine below_drewN ?_ _ | with_reducible refine Below.drew ?_))
  have hxa : Blk W w.heap.size #[.int .i64 (a.kind), .int .u64 ((a.set).a.toNat : Int), .int .u64 ((a.set).b.toNat : Int), .int .u64 ((a.set).c.toNat : Int), .int .u64 ((a.set).d.toNat : Int), .slice (A) (a.kids.length) (ca), .int .i64 (a.min), .int .i64 (a.max)] 28 := by rw [hW]; exact Blk.alloc (Blk.new w _ _) _
  have hxb : Blk W (w.heap.size + 1) #[.int .i64 (b.kind), .int .u64 ((b.set).a.toNat : Int), .int .u64 ((b.set).b.toNat : Int), .int .u64 ((b.set).c.toNat : Int), .int .u64 ((b.set).d.toNat : Int), .slice (B) (b.kids.length) (cb), .int .i64 (b.min), .int .i64 (b.max)] 28 := by rw [hW]; exact Blk.newAt (by simp)
  have HT := hid_mk hT
  have HWK := hide (fun V hT => works_any V hT)
  have HKA := hid_mk hka
  have HKB := hid_mk hkb
  have HSA := hid_mk hsa
  have HSB := hid_mk hsb
  have HLA := hid_mk hla
  have HLB := hid_mk hlb
  have HBW := hid_mk hbW
  have HXA := hid_mk hxa
  have HXB := hid_mk hxb
  have HGA := hide (fun V (hb : Below w.heap.size w V) => great_any a HLA.out A ca (fun x => x < w.heap.size) V (fun x hx => Nat.lt_of_lt_of_le hx hb.size) HSA.out (kids_two HKA.out hb (fun x h => h)))
  have HGB := hide (fun V (hb : Below w.heap.size w V) => great_any b HLB.out B cb (fun x => x < w.heap.size) V (fun x hx => Nat.lt_of_lt_of_le hx hb.size) HSB.out (kids_two HKB.out hb (fun x h => h)))
  subst hW
  clear hT hka hkb hsa hsb hla hlb hbW hxa hxb
  cases hga : greatB a with
  | true =>
    rw [hga] at HGA
    clear hga
    go_enter Tryd.func5, Tryd.ntmps5
    go_wp2_with fail
    refine (unhide HGA _ HBW.out).mono ?_
    rintro x w1 ⟨rfl, hb1⟩
    have HB1 := hid_mk (HBW.out.trans (hb1.mono HBW.out.size))
    clear hb1
    go_wp2_with fail
    refine (unhide HWK _ (HT.out.below HB1.out)).mono ?_
    rintro x w2 ⟨rfl, hb2⟩
    have HB2 := hid_mk (HB1.out.trans (hb2.mono HB1.out.size))
    clear hb2
    go_wp2
    exact bodyPost_ret (v := .bool true) (by simp [results, Tryd.results5, go_sem]) rfl ⟨rfl, HB2.out⟩
  | false =>
    rw [hga] at HGA
    clear hga
    cases hgb : greatB b with
    | true =>
      rw [hgb] at HGB
      clear hgb
      go_enter Tryd.func5, Tryd.ntmps5
      go_wp2_with fail
      refine (unhide HGA _ HBW.out).mono ?_
      rintro x w1 ⟨rfl, hb1⟩
      have HB1 := hid_mk (HBW.out.trans (hb1.mono HBW.out.size))
      have hx1 := HXB.out.call hb1
      (have y0 : w1.cell? ⟨w.heap.size + 1, 0, none⟩ = some (.int .i64 (b.kind)) := hx1.cell 0; have y1 : w1.cell? ⟨w.heap.size + 1, 1, none⟩ = some (.int .u64 ((b.set).a.toNat : Int)) := hx1.cell 1; have y2 : w1.cell? ⟨w.heap.size + 1, 2, none⟩ = some (.int .u64 ((b.set).b.toNat : Int)) := hx1.cell 2; have y3 : w1.cell? ⟨w.heap.size + 1, 3, none⟩ = some (.int .u64 ((b.set).c.toNat : Int)) := hx1.cell 3; have y4 : w1.cell? ⟨w.heap.size + 1, 4, none⟩ = some (.int .u64 ((b.set).d.toNat : Int)) := hx1.cell 4; have y5 : w1.cell? ⟨w.heap.size + 1, 5, none⟩ = some (.slice (B) (b.kids.length) (cb)) := hx1.cell 5; have y6 : w1.cell? ⟨w.heap.size + 1, 6, none⟩ = some (.int .i64 (b.min)) := hx1.cell 6; have y7 : w1.cell? ⟨w.heap.size + 1, 7, none⟩ = some (.int .i64 (b.max)) := hx1.cell 7; have yf : ∀ i, w1.frozen? ⟨w.heap.size + 1, i, none⟩ = false := hx1.frozen)
      clear hb1 hx1
      go_wp2_with fail
      refine (unhide HGB _ HB1.out).mono ?_
      rintro x w2 ⟨rfl, hb2⟩
      have HB2 := hid_mk (HB1.out.trans (hb2.mono HB1.out.size))
      clear hb2
      go_wp2_with fail
      refine (unhide HWK _ (HT.out.below HB2.out)).mono ?_
      rintro x w3 ⟨rfl, hb3⟩
      have HB3 := hid_mk (HB2.out.trans (hb3.mono HB2.out.size))
      clear hb3
      go_wp2
      exact bodyPost_ret (v := .bool true) (by simp [results, Tryd.results5, go_sem]) rfl ⟨rfl, HB3.out⟩
    | false =>
      rw [hgb] at HGB
      clear hgb
      have HSZ := hide (fun V (hb : Below w.heap.size w V) => rsize_any _ a (Nat.le_refl _) HLA.out A ca (fun x => x < w.heap.size) V (fun x hx => Nat.lt_of_lt_of_le hx hb.size) HSA.out (kids_two HKA.out hb (fun x h => h)))
      go_enter Tryd.func5, Tryd.ntmps5
      go_wp2_with fail
      refine (unhide HGA _ HBW.out).mono ?_
      rintro x w1 ⟨rfl, hb1⟩
      have HB1 := hid_mk (HBW.out.trans (hb1.mono HBW.out.size))
      have hx1 := HXB.out.call hb1
      have HXA1 := hid_mk (HXA.out.call hb1)
      have HXB1 := hid_mk hx1
      (have y0 : w1.cell? ⟨w.heap.size + 1, 0, none⟩ = some (.int .i64 (b.kind)) := hx1.cell 0; have y1 : w1.cell? ⟨w.heap.size + 1, 1, none⟩ = some (.int .u64 ((b.set).a.toNat : Int)) := hx1.cell 1; have y2 : w1.cell? ⟨w.heap.size + 1, 2, none⟩ = some (.int .u64 ((b.set).b.toNat : Int)) := hx1.cell 2; have y3 : w1.cell? ⟨w.heap.size + 1, 3, none⟩ = some (.int .u64 ((b.set).c.toNat : Int)) := hx1.cell 3; have y4 : w1.cell? ⟨w.heap.size + 1, 4, none⟩ = some (.int .u64 ((b.set).d.toNat : Int)) := hx1.cell 4; have y5 : w1.cell? ⟨w.heap.size + 1, 5, none⟩ = some (.slice (B) (b.kids.length) (cb)) := hx1.cell 5; have y6 : w1.cell? ⟨w.heap.size + 1, 6, none⟩ = some (.int .i64 (b.min)) := hx1.cell 6; have y7 : w1.cell? ⟨w.heap.size + 1, 7, none⟩ = some (.int .i64 (b.max)) := hx1.cell 7; have yf : ∀ i, w1.frozen? ⟨w.heap.size + 1, i, none⟩ = false := hx1.frozen)
      clear hb1 hx1
      go_wp2_with fail
      refine (unhide HGB _ HB1.out).mono ?_
      rintro x w2 ⟨rfl, hb2⟩
      have HB2 := hid_mk (HB1.out.trans (hb2.mono HB1.out.size))
      have hx2 := HXA1.out.call hb2
      have HXA2 := hid_mk hx2
      have HXB2 := hid_mk (HXB1.out.call hb2)
      clear hb2 y0 y1 y2 y3 y4 y5 y6 y7 yf
      (have y0 : w2.cell? ⟨w.heap.size, 0, none⟩ = some (.int .i64 (a.kind)) := hx2.cell 0; have y1 : w2.cell? ⟨w.heap.size, 1, none⟩ = some (.int .u64 ((a.set).a.toNat : Int)) := hx2.cell 1; have y2 : w2.cell? ⟨w.heap.size, 2, none⟩ = some (.int .u64 ((a.set).b.toNat : Int)) := hx2.cell 2; have y3 : w2.cell? ⟨w.heap.size, 3, none⟩ = some (.int .u64 ((a.set).c.toNat : Int)) := hx2.cell 3; have y4 : w2.cell? ⟨w.heap.size, 4, none⟩ = some (.int .u64 ((a.set).d.toNat : Int)) := hx2.cell 4; have y5 : w2.cell? ⟨w.heap.size, 5, none⟩ = some (.slice (A) (a.kids.length) (ca)) := hx2.cell 5; have y6 : w2.cell? ⟨w.heap.size, 6, none⟩ = some (.int .i64 (a.min)) := hx2.cell 6; have y7 : w2.cell? ⟨w.heap.size, 7, none⟩ = some (.int .i64 (a.max)) := hx2.cell 7; have yf : ∀ i, w2.frozen? ⟨w.heap.size, i, none⟩ = false := hx2.frozen)
      clear hx2
      go_wp2_with fail
      refine (unhide HSZ _ HB2.out).mono ?_
      rintro x w3 ⟨rfl, hb3⟩
      have HB3 := hid_mk (HB2.out.trans (hb3.mono HB2.out.size))
      have hxa3 := HXA2.out.call hb3
      have hxb3 := HXB2.out.call hb3
      have hbg : ∀ d os, Below w.heap.size w (grow (redrawn w3 d) os) := fun d os => HB3.out.trans ((below_regrown w3 d os).mono HB3.out.size)
      have C13 : Hid (∀ d os, Calls Tryd.prog 13 #[.agg #[.int .i64 (a.kind), .int .u64 ((a.set).a.toNat : Int), .int .u64 ((a.set).b.toNat : Int), .int .u64 ((a.set).c.toNat : Int), .int .u64 ((a.set).d.toNat : Int), .slice (A) (a.kids.length) (ca), .int .i64 (a.min), .int .i64 (a.max)]] (grow (redrawn w3 d) os) (fun e w'' => e = .returned (.bool (Rx.right a)) ∧ ∃ p : Regrown, w'' = grow (redrawn w3 p.d) p.os)) := hid_mk (fun d os => retG_qq (prightL _ a (Nat.le_refl _) HLA.out A ca (fun x => x < w.heap.size) _ (fun x hx => Nat.lt_of_lt_of_le hx (hbg d os).size) HSA.out (kids_two HKA.out (hbg d os) (fun x h => h))))
      have C17 : Hid (∀ d os, Calls Tryd.prog 17 #[.agg #[.int .i64 (a.kind), .int .u64 ((a.set).a.toNat : Int), .int .u64 ((a.set).b.toNat : Int), .int .u64 ((a.set).c.toNat : Int), .int .u64 ((a.set).d.toNat : Int), .slice (A) (a.kids.length) (ca), .int .i64 (a.min), .int .i64 (a.max)]] (grow (redrawn w3 d) os) (fun e w'' => e = .returned (.bool (Rx.right a)) ∧ ∃ p : Regrown, w'' = grow (redrawn w3 p.d) p.os)) := hid_mk (fun d os => retG_qq (rright_any _ a (Nat.le_refl _) HLA.out A ca (fun x => x < w.heap.size) _ (fun x hx => Nat.lt_of_lt_of_le hx (hbg d os).size) HSA.out (kids_two HKA.out (hbg d os) (fun x h => h))))
      have C14 : Hid (∀ d os, Calls Tryd.prog 14 #[.agg #[.int .i64 (a.kind), .int .u64 ((a.set).a.toNat : Int), .int .u64 ((a.set).b.toNat : Int), .int .u64 ((a.set).c.toNat : Int), .int .u64 ((a.set).d.toNat : Int), .slice (A) (a.kids.length) (ca), .int .i64 (a.min), .int .i64 (a.max)], .agg #[.int .i64 (b.kind), .int .u64 ((b.set).a.toNat : Int), .int .u64 ((b.set).b.toNat : Int), .int .u64 ((b.set).c.toNat : Int), .int .u64 ((b.set).d.toNat : Int), .slice (B) (b.kids.length) (cb), .int .i64 (b.min), .int .i64 (b.max)]] (grow (redrawn w3 d) os) (fun e w'' => e = .returned (.bool (decide (a = b))) ∧ ∃ p : Regrown, w'' = grow (redrawn w3 p.d) p.os)) := hid_mk (fun d os => retG_qq (psameL _ a b (Nat.le_refl _) HLA.out A B ca cb (fun x => x < w.heap.size) _ (fun x hx => Nat.lt_of_lt_of_le hx (hbg d os).size) HSA.out HSB.out (kids_two HKA.out (hbg d os) (fun x h => h)) (kids_two HKB.out (hbg d os) (fun x h => h))))
      have C12 : Hid (∀ d os, Calls Tryd.prog 12 #[.agg #[.int .i64 (a.kind), .int .u64 ((a.set).a.toNat : Int), .int .u64 ((a.set).b.toNat : Int), .int .u64 ((a.set).c.toNat : Int), .int .u64 ((a.set).d.toNat : Int), .slice (A) (a.kids.length) (ca), .int .i64 (a.min), .int .i64 (a.max)], .agg #[.int .i64 (b.kind), .int .u64 ((b.set).a.toNat : Int), .int .u64 ((b.set).b.toNat : Int), .int .u64 ((b.set).c.toNat : Int), .int .u64 ((b.set).d.toNat : Int), .slice (B) (b.kids.length) (cb), .int .i64 (b.min), .int .i64 (b.max)]] (grow (redrawn w3 d) os) (fun e w'' => e = .returned (.bool (decide (a = b))) ∧ ∃ p : Regrown, w'' = grow (redrawn w3 p.d) p.os)) := hid_mk (fun d os => retG_qq (rsameL _ a b (Nat.le_refl _) HLA.out A B ca cb (fun x => x < w.heap.size) _ (fun x hx => Nat.lt_of_lt_of_le hx (hbg d os).size) HSA.out HSB.out (kids_two HKA.out (hbg d os) (fun x h => h)) (kids_two HKB.out (hbg d os) (fun x h => h))))
      have C11 : Hid (∀ d os, Calls Tryd.prog 14 #[.agg #[.int .i64 (a.kind), .int .u64 ((a.set).a.toNat : Int), .int .u64 ((a.set).b.toNat : Int), .int .u64 ((a.set).c.toNat : Int), .int .u64 ((a.set).d.toNat : Int), .slice (A) (a.kids.length) (ca), .int .i64 (a.min), .int .i64 (a.max)], .agg #[.int .i64 (a.kind), .int .u64 ((a.set).a.toNat : Int), .int .u64 ((a.set).b.toNat : Int), .int .u64 ((a.set).c.toNat : Int), .int .u64 ((a.set).d.toNat : Int), .slice (A) (a.kids.length) (ca), .int .i64 (a.min), .int .i64 (a.max)]] (grow (redrawn w3 d) os) (fun e w'' => e = .returned (.bool (decide (a = a))) ∧ ∃ p : Regrown, w'' = grow (redrawn w3 p.d) p.os)) := hid_mk (fun d os => retG_qq (psameL _ a a (Nat.le_refl _) HLA.out A A ca ca (fun x => x < w.heap.size) _ (fun x hx => Nat.lt_of_lt_of_le hx (hbg d os).size) HSA.out HSA.out (kids_two HKA.out (hbg d os) (fun x h => h)) (kids_two HKA.out (hbg d os) (fun x h => h))))
      have C18 : Hid (∀ d os, Calls Tryd.prog 18 #[.agg #[.int .i64 (a.kind), .int .u64 ((a.set).a.toNat : Int), .int .u64 ((a.set).b.toNat : Int), .int .u64 ((a.set).c.toNat : Int), .int .u64 ((a.set).d.toNat : Int), .slice (A) (a.kids.length) (ca), .int .i64 (a.min), .int .i64 (a.max)]] (grow (redrawn w3 d) os) (fun e w'' => e = .returned (.int .i64 a.many) ∧ ∃ p : Regrown, w'' = grow (redrawn w3 p.d) p.os)) := hid_mk (fun d os => retG_qq (psize_any _ a (Nat.le_refl _) HLA.out A ca (fun x => x < w.heap.size) _ (fun x hx => Nat.lt_of_lt_of_le hx (hbg d os).size) HSA.out (kids_two HKA.out (hbg d os) (fun x h => h))))
      have C9 : Hid (∀ d os, Calls Tryd.prog 9 #[] (grow (redrawn w3 d) os) (fun e w'' => e = .returned (.bool true) ∧ ∃ p : Regrown, w'' = grow (redrawn w3 p.d) p.os)) := hid_mk (fun d os => retG_qq (works_any _ (HT.out.below (hbg d os))))
      rw [decide_eq_true (rfl : a = a)] at C11
      clear hb3 hbg y0 y1 y2 y3 y4 y5 y6 y7 yf
      have ga0 : ∀ d os, (grow (redrawn w3 d) os).cell? ⟨w.heap.size, 0, none⟩ = some (.int .i64 a.kind) := fun d os => cell_regrown (hxa3.cell 0) d os
      have ga1 : ∀ d os, (grow (redrawn w3 d) os).cell? ⟨w.heap.size, 1, none⟩ = some (.int .u64 (a.set.a.toNat : Int)) := fun d os => cell_regrown (hxa3.cell 1) d os
      have ga2 : ∀ d os, (grow (redrawn w3 d) os).cell? ⟨w.heap.size, 2, none⟩ = some (.int .u64 (a.set.b.toNat : Int)) := fun d os => cell_regrown (hxa3.cell 2) d os
      have ga3 : ∀ d os, (grow (redrawn w3 d) os).cell? ⟨w.heap.size, 3, none⟩ = some (.int .u64 (a.set.c.toNat : Int)) := fun d os => cell_regrown (hxa3.cell 3) d os
      have ga4 : ∀ d os, (grow (redrawn w3 d) os).cell? ⟨w.heap.size, 4, none⟩ = some (.int .u64 (a.set.d.toNat : Int)) := fun d os => cell_regrown (hxa3.cell 4) d os
      have ga5 : ∀ d os, (grow (redrawn w3 d) os).cell? ⟨w.heap.size, 5, none⟩ = some (.slice A a.kids.length ca) := fun d os => cell_regrown (hxa3.cell 5) d os
      have ga6 : ∀ d os, (grow (redrawn w3 d) os).cell? ⟨w.heap.size, 6, none⟩ = some (.int .i64 a.min) := fun d os => cell_regrown (hxa3.cell 6) d os
      have ga7 : ∀ d os, (grow (redrawn w3 d) os).cell? ⟨w.heap.size, 7, none⟩ = some (.int .i64 a.max) := fun d os => cell_regrown (hxa3.cell 7) d os
      have gb0 : ∀ d os, (grow (redrawn w3 d) os).cell? ⟨w.heap.size + 1, 0, none⟩ = some (.int .i64 b.kind) := fun d os => cell_regrown (hxb3.cell 0) d os
      have gb1 : ∀ d os, (grow (redrawn w3 d) os).cell? ⟨w.heap.size + 1, 1, none⟩ = some (.int .u64 (b.set.a.toNat : Int)) := fun d os => cell_regrown (hxb3.cell 1) d os
      have gb2 : ∀ d os, (grow (redrawn w3 d) os).cell? ⟨w.heap.size + 1, 2, none⟩ = some (.int .u64 (b.set.b.toNat : Int)) := fun d os => cell_regrown (hxb3.cell 2) d os
      have gb3 : ∀ d os, (grow (redrawn w3 d) os).cell? ⟨w.heap.size + 1, 3, none⟩ = some (.int .u64 (b.set.c.toNat : Int)) := fun d os => cell_regrown (hxb3.cell 3) d os
      have gb4 : ∀ d os, (grow (redrawn w3 d) os).cell? ⟨w.heap.size + 1, 4, none⟩ = some (.int .u64 (b.set.d.toNat : Int)) := fun d os => cell_regrown (hxb3.cell 4) d os
      have gb5 : ∀ d os, (grow (redrawn w3 d) os).cell? ⟨w.heap.size + 1, 5, none⟩ = some (.slice B b.kids.length cb) := fun d os => cell_regrown (hxb3.cell 5) d os
      have gb6 : ∀ d os, (grow (redrawn w3 d) os).cell? ⟨w.heap.size + 1, 6, none⟩ = some (.int .i64 b.min) := fun d os => cell_regrown (hxb3.cell 6) d os
      have gb7 : ∀ d os, (grow (redrawn w3 d) os).cell? ⟨w.heap.size + 1, 7, none⟩ = some (.int .i64 b.max) := fun d os => cell_regrown (hxb3.cell 7) d os
      clear hxa3 hxb3
      generalize Rx.right a = r at *
      generalize decide (a = b) = t at *
      generalize a.many = m at *
      cases r <;> cases t
      all_goals
        go_wp2
        (refine wp_region_quiet_below (by kernel_rfl) (by kernel_rfl) ?_; (repeat (first | go_big_quiet_step ((first | (go_at_call 13; with_reducible exact C13.out _ _) | (go_at_call 17; with_reducible exact C17.out _ _) | (go_at_call 14; first | with_reducible exact C14.out _ _ | with_reducible exact C11.out _ _) | (go_at_call 12; with_reducible exact C12.out _ _) | (go_at_call 18; with_reducible exact C18.out _ _) | (go_at_call 9; with_reducible exact C9.out _ _))) | quiet_step ((first | (go_at_call 13; with_reducible exact C13.out _ _) | (go_at_call 17; with_reducible exact C17.out _ _) | (go_at_call 14; first | with_reducible exact C14.out _ _ | with_reducible exact C11.out _ _) | (go_at_call 12; with_reducible exact C12.out _ _) | (go_at_call 18; with_reducible exact C18.out _ _) | (go_at_call 9; with_reducible exact C9.out _ _))))); refine wpQuiet_nil ?_; intro _ hw'; obtain ⟨⟨nq, osq⟩, hw''⟩ := hw'; subst hw'')
        have HBX := hid_mk (HB3.out.trans ((below_regrown w3 nq osq).mono HB3.out.size))
        generalize grow (redrawn w3 nq) osq = V at *
        go_wp2
        exact bodyPost_ret (v := .bool true) (by simp [results, Tryd.results5, go_sem]) rfl ⟨rfl, HBX.out⟩
end Go.Proofs.YthgcefppeaopkaaDoor
