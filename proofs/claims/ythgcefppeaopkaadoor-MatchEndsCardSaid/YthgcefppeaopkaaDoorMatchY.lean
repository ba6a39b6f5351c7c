/- The law MatchEnds walked. -/
import Derived.Test.YthgcefppeaopkaaDoorMatchQ
import Derived.Test.YthgcefppeaopkaaDoorMatchR
import Derived.Test.YthgcefppeaopkaaDoorMatchX
import Derived.Test.YthgcefppeaopkaaDoorReg
namespace Go.Proofs.YthgcefppeaopkaaDoor
open Go Go.RowKit Go.Sort
set_option maxRecDepth 100000
set_option linter.unusedSimpArgs false
set_option linter.unusedVariables false
set_option maxHeartbeats 4000000
theorem rgreat_any (L : Nat) (hL : L ≤ 100) (n : Node) (hl : n.lens) (A : Option Addr) (ca : Nat) (G : Nat → Prop) (w : World) (hG : ∀ x, G x → x < w.heap.size) (hs : SlOk A n.kids.length ca) (hk : KidsAt G w A n.kids) :
    Calls Tryd.prog 19 #[.agg #[.int .i64 (n.kind), .int .u64 ((n.set).a.toNat : Int), .int .u64 ((n.set).b.toNat : Int), .int .u64 ((n.set).c.toNat : Int), .int .u64 ((n.set).d.toNat : Int), .slice (A) (n.kids.length) (ca), .int .i64 (n.min), .int .i64 (n.max)], .int .i64 L] w (RetBit w) := by
  have HC := hide (rcost_any L hL _ n (Nat.le_refl _) hl A ca G (w.alloc (.cells #[.int .i64 (n.kind), .int .u64 ((n.set).a.toNat : Int), .int .u64 ((n.set).b.toNat : Int), .int .u64 ((n.set).c.toNat : Int), .int .u64 ((n.set).d.toNat : Int), .slice (A) (n.kids.length) (ca), .int .i64 (n.min), .int .i64 (n.max)] 28)) (fun x hx => by have := hG x hx; simp; omega) hs (kidsAt_keep (below_keeps ((Below.refl w.heap.size w).alloc (Nat.le_refl _) _) hG) (fun b h => h) hk))
  clear hG hs hk hl
  go_enter Tryd.func19, Tryd.ntmps19
  go_wp2_with fail
  refine (unhide HC).mono ?_
  rintro e w3 ⟨v, rfl, hb3⟩
  have HB : Hid (Below w.heap.size w w3) := hid_mk ((show Below w.heap.size w (w.alloc (.cells #[.int .i64 (n.kind), .int .u64 ((n.set).a.toNat : Int), .int .u64 ((n.set).b.toNat : Int), .int .u64 ((n.set).c.toNat : Int), .int .u64 ((n.set).d.toNat : Int), .slice (A) (n.kids.length) (ca), .int .i64 (n.min), .int .i64 (n.max)] 28)) from (by repeat (first | with_reducible exact Below.refl _ _ | with_reducible assumption | with_reducible refine Below.setCell ?_ (by first | omega | (dsimp only; omega) | (simp <;> omega)) _ | with_reducible refine Below.alloc ?_ (by first | omega | (simp <;> omega)) _ | with_reducible refine below_drewN ?_ _ | with_reducible refine Below.drew ?_))).trans (hb3.mono (by simp)))
  clear hb3
  go_wp2
  exact bodyPost_ret (v := .bool (decide (3000 < v))) (by simp [results, Tryd.results19, go_sem]) rfl ⟨_, rfl, HB.out⟩
theorem matchends_any (s : ByteArray) (n : Node) (at_ : Int) (hs : s.size ≤ maxLen) (hl : n.lens) (A : Option Addr) (ca : Nat) (w : World) (hsa : SlOk A n.kids.length ca) (hk : KidsAt (fun x => x < w.heap.size) w A n.kids) (hT : TabW w) :
    Calls Tryd.prog 6 #[.agg #[.int .i64 (n.kind), .int .u64 ((n.set).a.toNat : Int), .int .u64 ((n.set).b.toNat : Int), .int .u64 ((n.set).c.toNat : Int), .int .u64 ((n.set).d.toNat : Int), .slice (A) (n.kids.length) (ca), .int .i64 (n.min), .int .i64 (n.max)], .string s, .int .i64 at_] w (RetG (.bool true) w) := by
  unfold maxLen at hs
  obtain ⟨W, hW⟩ : ∃ W, W = w.alloc (.cells #[.int .i64 (n.kind), .int .u64 ((n.set).a.toNat : Int), .int .u64 ((n.set).b.toNat : Int), .int .u64 ((n.set).c.toNat : Int), .int .u64 ((n.set).d.toNat : Int), .slice (A) (n.kids.length) (ca), .int .i64 (n.min), .int .i64 (n.max)] 28) := ⟨_, rfl⟩
  have hbW : Below w.heap.size w W := by rw [hW]; exact (by repeat (first | with_reducible exact Below.refl _ _ | with_reducible assumption | with_reducible refine Below.setCell ?_ (by first | omega | (dsimp only; omega) | (simp <;> omega)) _ | with_reducible refine Below.alloc ?_ (by first | omega | (simp <;> omega)) _ | with_reducible refine below_drewN ?_ _ | with_reducible refine Below.drew ?_))
  have hxa : Blk W w.heap.size #[.int .i64 (n.kind), .int .u64 ((n.set).a.toNat : Int), .int .u64 ((n.set).b.toNat : Int), .int .u64 ((n.set).c.toNat : Int), .int .u64 ((n.set).d.toNat : Int), .slice (A) (n.kids.length) (ca), .int .i64 (n.min), .int .i64 (n.max)] 28 := by rw [hW]; exact Blk.new w _ _
  have HT := hid_mk hT
  have HWK := hide (fun V hT => works15_any V hT)
  have HKA := hid_mk hk
  have HSA := hid_mk hsa
  have HL := hid_mk hl
  have HBW := hid_mk hbW
  have HXA := hid_mk hxa
  have HGA := hide (fun V (hb : Below w.heap.size w V) => great_any n HL.out A ca (fun x => x < w.heap.size) V (fun x hx => Nat.lt_of_lt_of_le hx hb.size) HSA.out (kids_two HKA.out hb (fun x h => h)))
  subst hW
  clear hT hk hsa hl hbW hxa
  cases hga : greatB n with
  | true =>
    rw [hga] at HGA
    clear hga
    go_enter Tryd.func6, Tryd.ntmps6
    go_wp2_with fail
    refine (unhide HGA _ HBW.out).mono ?_
    rintro x w1 ⟨rfl, hb1⟩
    have HB1 := hid_mk (HBW.out.trans (hb1.mono HBW.out.size))
    clear hb1
    go_wp2_with fail
    refine (unhide HWK _ (HT.out.below HB1.out)).mono ?_
    rintro x w2 ⟨rfl, hb2⟩
    have HB2 := hid_mk (HB1.out.trans (hb2.mono HB1.out.size))
    clear hb2
    go_wp2
    exact bodyPost_ret (v := .bool true) (by simp [results, Tryd.results6, go_sem]) rfl ⟨rfl, HB2.out⟩
  | false =>
    rw [hga] at HGA
    clear hga
    by_cases h8 : 8 < s.size
    · have f8 : decide ((8 : Int) < (s.size : Int)) = true := by simp; omega
      go_enter Tryd.func6, Tryd.ntmps6
      go_wp2_with fail
      refine (unhide HGA _ HBW.out).mono ?_
      rintro x w1 ⟨rfl, hb1⟩
      have HB1 := hid_mk (HBW.out.trans (hb1.mono HBW.out.size))
      clear hb1
      go_wp2_with fail
      refine (unhide HWK _ (HT.out.below HB1.out)).mono ?_
      rintro x w2 ⟨rfl, hb2⟩
      have HB2 := hid_mk (HB1.out.trans (hb2.mono HB1.out.size))
      clear hb2
      go_wp2
      exact bodyPost_ret (v := .bool true) (by simp [results, Tryd.results6, go_sem]) rfl ⟨rfl, HB2.out⟩
    have f8 : decide ((8 : Int) < (s.size : Int)) = false := by simp; omega
    have HRG := hide (fun V (hb : Below w.heap.size w V) => rgreat_any s.size (by omega) n HL.out A ca (fun x => x < w.heap.size) V (fun x hx => Nat.lt_of_lt_of_le hx hb.size) HSA.out (kids_two HKA.out hb (fun x h => h)))
    have HPE := hide (fun V (hb : Below w.heap.size w V) => ends_any s n at_ HL.out (by omega) A ca (fun x => x < w.heap.size) V (fun x hx => Nat.lt_of_lt_of_le hx hb.size) HSA.out (kids_two HKA.out hb (fun x h => h)))
    have HRE := hide (fun V (hb : Below w.heap.size w V) => rEnds_any s n at_ HL.out (by omega) A ca (fun x => x < w.heap.size) V (fun x hx => Nat.lt_of_lt_of_le hx hb.size) HSA.out (kids_two HKA.out hb (fun x h => h)))
    have HPM := hide (fun V (hb : Below w.heap.size w V) => match_any s n HL.out (by omega) A ca (fun x => x < w.heap.size) V (fun x hx => Nat.lt_of_lt_of_le hx hb.size) HSA.out (kids_two HKA.out hb (fun x h => h)))
    have HRM := hide (fun V (hb : Below w.heap.size w V) => rmatch_any s n HL.out (by omega) A ca (fun x => x < w.heap.size) V (fun x hx => Nat.lt_of_lt_of_le hx hb.size) HSA.out (kids_two HKA.out hb (fun x h => h)))
    have hln : (endsL n s.data.toList at_).length ≤ 100000 := by have := endsL_len n s.data.toList at_; rw [len_data] at this; omega
    generalize endsL n s.data.toList at_ = l at *
    generalize matchB n s.data.toList = b at *
    go_enter Tryd.func6, Tryd.ntmps6
    go_wp2_with fail
    refine (unhide HGA _ HBW.out).mono ?_
    rintro x w1 ⟨rfl, hb1⟩
    have HB1 := hid_mk (HBW.out.trans (hb1.mono HBW.out.size))
    have HX1 := hid_mk (HXA.out.call hb1)
    (have y0 : w1.cell? ⟨w.heap.size, 0, none⟩ = some (.int .i64 (n.kind)) := HX1.out.cell 0; have y1 : w1.cell? ⟨w.heap.size, 1, none⟩ = some (.int .u64 ((n.set).a.toNat : Int)) := HX1.out.cell 1; have y2 : w1.cell? ⟨w.heap.size, 2, none⟩ = some (.int .u64 ((n.set).b.toNat : Int)) := HX1.out.cell 2; have y3 : w1.cell? ⟨w.heap.size, 3, none⟩ = some (.int .u64 ((n.set).c.toNat : Int)) := HX1.out.cell 3; have y4 : w1.cell? ⟨w.heap.size, 4, none⟩ = some (.int .u64 ((n.set).d.toNat : Int)) := HX1.out.cell 4; have y5 : w1.cell? ⟨w.heap.size, 5, none⟩ = some (.slice (A) (n.kids.length) (ca)) := HX1.out.cell 5; have y6 : w1.cell? ⟨w.heap.size, 6, none⟩ = some (.int .i64 (n.min)) := HX1.out.cell 6; have y7 : w1.cell? ⟨w.heap.size, 7, none⟩ = some (.int .i64 (n.max)) := HX1.out.cell 7; have yf : ∀ i, w1.frozen? ⟨w.heap.size, i, none⟩ = false := HX1.out.frozen)
    clear hb1
    go_wp2_with fail
    refine (unhide HRG _ HB1.out).mono ?_
    rintro x w2 ⟨g, rfl, hb2⟩
    have HB2 := hid_mk (HB1.out.trans (hb2.mono HB1.out.size))
    have HX2 := hid_mk (HX1.out.call hb2)
    clear hb2 y0 y1 y2 y3 y4 y5 y6 y7 yf
    cases g with
    | true =>
      go_wp2_with fail
      refine (unhide HWK _ (HT.out.below HB2.out)).mono ?_
      rintro x w3 ⟨rfl, hb3⟩
      have HB3 := hid_mk (HB2.out.trans (hb3.mono HB2.out.size))
      clear hb3
      go_wp2
      exact bodyPost_ret (v := .bool true) (by simp [results, Tryd.results6, go_sem]) rfl ⟨rfl, HB3.out⟩
    | false =>
      have hq0 : ∀ p : InB (Below w2.heap.size w2), p.w.cell? ⟨w.heap.size, 0, none⟩ = some (.int .i64 n.kind) := fun p => (HX2.out.call p.ok).cell 0
      have hq1 : ∀ p : InB (Below w2.heap.size w2), p.w.cell? ⟨w.heap.size, 1, none⟩ = some (.int .u64 (n.set.a.toNat : Int)) := fun p => (HX2.out.call p.ok).cell 1
      have hq2 : ∀ p : InB (Below w2.heap.size w2), p.w.cell? ⟨w.heap.size, 2, none⟩ = some (.int .u64 (n.set.b.toNat : Int)) := fun p => (HX2.out.call p.ok).cell 2
      have hq3 : ∀ p : InB (Below w2.heap.size w2), p.w.cell? ⟨w.heap.size, 3, none⟩ = some (.int .u64 (n.set.c.toNat : Int)) := fun p => (HX2.out.call p.ok).cell 3
      have hq4 : ∀ p : InB (Below w2.heap.size w2), p.w.cell? ⟨w.heap.size, 4, none⟩ = some (.int .u64 (n.set.d.toNat : Int)) := fun p => (HX2.out.call p.ok).cell 4
      have hq5 : ∀ p : InB (Below w2.heap.size w2), p.w.cell? ⟨w.heap.size, 5, none⟩ = some (.slice A n.kids.length ca) := fun p => (HX2.out.call p.ok).cell 5
      have hq6 : ∀ p : InB (Below w2.heap.size w2), p.w.cell? ⟨w.heap.size, 6, none⟩ = some (.int .i64 n.min) := fun p => (HX2.out.call p.ok).cell 6
      have hq7 : ∀ p : InB (Below w2.heap.size w2), p.w.cell? ⟨w.heap.size, 7, none⟩ = some (.int .i64 n.max) := fun p => (HX2.out.call p.ok).cell 7
      go_wp2
      (refine region_pair (S := Meets (Below w2.heap.size w2)) [0, 1, 2, 4, 5, 6] [3, 7] 8 [_, _] [_, _, _, _, _, _] (by kernel_rfl) (by kernel_rfl) rfl rfl (fun d v c a w h => by cases d <;> exact h) (fun w p h => by obtain ⟨q, rfl⟩ := h; exact meets_mk (below_grew q.ok p)) (meets_mk ?_) ?_)
      case _ => exact (Below.refl _ _).drew
      ((repeat (refine wpReads_step (fun K hK => ?_); go_simp; (first | (refine hK _ ?_; clear hK K) | (apply Exists.intro; refine ⟨fun _ => rfl, hK _ ?_⟩; clear hK K)))); refine wpReads_nil ?_; intro J hJ; go_simp)
      clear hq0 hq1 hq2 hq3 hq4 hq5 hq6 hq7
      have hd2 : Below w2.heap.size w2 w2.drew := (Below.refl _ _).drew
      refine (unhide HPE _ (HB2.out.trans (hd2.mono HB2.out.size))).mono ?_
      rintro x w3 ⟨v, rfl, hown3, hb3⟩
      have hc3 : Below w2.heap.size w2 w3 := hd2.trans hb3
      have I3 := IntsAt.of hown3
      dsimp only
      refine ⟨⟨⟨w3, hc3⟩, rfl⟩, ?_⟩
      refine (unhide HRE _ (HB2.out.trans (hc3.mono HB2.out.size))).mono ?_
      rintro x w4 ⟨u, rfl, hown4, hb4⟩
      have hc4 : Below w2.heap.size w2 w4 := hc3.trans (hb4.mono hc3.size)
      have I4 := hid_mk (IntsAt.of hown4)
      have I3' := hid_mk (I3.below hb4)
      have HB4 := hid_mk (HB2.out.trans (hc4.mono HB2.out.size))
      have HX4 := hid_mk (HX2.out.call hc4)
      dsimp only
      refine ⟨⟨⟨w4, hc4⟩, rfl⟩, hJ _ _ ⟨⟨w4, hc4⟩, rfl⟩ ?_⟩
      clear hown3 hown4 hb3 hb4 hc3 hc4 I3 hJ J hd2
      have hbg : ∀ d os, Below w.heap.size w (grow (redrawn w4 d) os) := fun d os => HB4.out.trans ((below_regrown w4 d os).mono HB4.out.size)
      have C21 : Hid (∀ d os, Calls Tryd.prog 21 #[v, u] (grow (redrawn w4 d) os) (fun e w'' => e = .returned (.bool true) ∧ ∃ p : Regrown, w'' = grow (redrawn w4 p.d) p.os)) := hid_mk (fun d os => by
        have h := sameints_any l l v u (grow (redrawn w4 d) os) hln (I3'.out.below (below_regrown w4 d os)) (I4.out.below (below_regrown w4 d os))
        rw [decide_eq_true rfl] at h
        exact regrown_callN h)
      have C24 : Hid (∀ d os, Calls Tryd.prog 24 #[.agg #[.int .i64 (n.kind), .int .u64 ((n.set).a.toNat : Int), .int .u64 ((n.set).b.toNat : Int), .int .u64 ((n.set).c.toNat : Int), .int .u64 ((n.set).d.toNat : Int), .slice (A) (n.kids.length) (ca), .int .i64 (n.min), .int .i64 (n.max)], .string s] (grow (redrawn w4 d) os) (fun e w'' => e = .returned (.bool b) ∧ ∃ p : Regrown, w'' = grow (redrawn w4 p.d) p.os)) := hid_mk (fun d os => retG_qq (unhide HPM _ (hbg d os)))
      have C25 : Hid (∀ d os, Calls Tryd.prog 25 #[.agg #[.int .i64 (n.kind), .int .u64 ((n.set).a.toNat : Int), .int .u64 ((n.set).b.toNat : Int), .int .u64 ((n.set).c.toNat : Int), .int .u64 ((n.set).d.toNat : Int), .slice (A) (n.kids.length) (ca), .int .i64 (n.min), .int .i64 (n.max)], .string s] (grow (redrawn w4 d) os) (fun e w'' => e = .returned (.bool b) ∧ ∃ p : Regrown, w'' = grow (redrawn w4 p.d) p.os)) := hid_mk (fun d os => retG_qq (unhide HRM _ (hbg d os)))
      have C20 : Hid (∀ d os, Calls Tryd.prog 20 #[] (grow (redrawn w4 d) os) (fun e w'' => e = .returned (.bool true) ∧ ∃ p : Regrown, w'' = grow (redrawn w4 p.d) p.os)) := hid_mk (fun d os => retG_qq (unhide HWK _ (HT.out.below (hbg d os))))
      have ga0 : ∀ d os, (grow (redrawn w4 d) os).cell? ⟨w.heap.size, 0, none⟩ = some (.int .i64 n.kind) := fun d os => cell_regrown (HX4.out.cell 0) d os
      have ga1 : ∀ d os, (grow (redrawn w4 d) os).cell? ⟨w.heap.size, 1, none⟩ = some (.int .u64 (n.set.a.toNat : Int)) := fun d os => cell_regrown (HX4.out.cell 1) d os
      have ga2 : ∀ d os, (grow (redrawn w4 d) os).cell? ⟨w.heap.size, 2, none⟩ = some (.int .u64 (n.set.b.toNat : Int)) := fun d os => cell_regrown (HX4.out.cell 2) d os
      have ga3 : ∀ d os, (grow (redrawn w4 d) os).cell? ⟨w.heap.size, 3, none⟩ = some (.int .u64 (n.set.c.toNat : Int)) := fun d os => cell_regrown (HX4.out.cell 3) d os
      have ga4 : ∀ d os, (grow (redrawn w4 d) os).cell? ⟨w.heap.size, 4, none⟩ = some (.int .u64 (n.set.d.toNat : Int)) := fun d os => cell_regrown (HX4.out.cell 4) d os
      have ga5 : ∀ d os, (grow (redrawn w4 d) os).cell? ⟨w.heap.size, 5, none⟩ = some (.slice A n.kids.length ca) := fun d os => cell_regrown (HX4.out.cell 5) d os
      have ga6 : ∀ d os, (grow (redrawn w4 d) os).cell? ⟨w.heap.size, 6, none⟩ = some (.int .i64 n.min) := fun d os => cell_regrown (HX4.out.cell 6) d os
      have ga7 : ∀ d os, (grow (redrawn w4 d) os).cell? ⟨w.heap.size, 7, none⟩ = some (.int .i64 n.max) := fun d os => cell_regrown (HX4.out.cell 7) d os
      clear hbg
      unfold PairEnd
      simp only [List.drop_succ_cons, List.drop_zero]
      cases b
      all_goals
        (repeat (first | go_big_quiet_step ((first | (go_at_call 21; with_reducible exact C21.out _ _) | (go_at_call 24; with_reducible exact C24.out _ _) | (go_at_call 25; with_reducible exact C25.out _ _) | (go_at_call 20; with_reducible exact C20.out _ _))) | quiet_step ((first | (go_at_call 21; with_reducible exact C21.out _ _) | (go_at_call 24; with_reducible exact C24.out _ _) | (go_at_call 25; with_reducible exact C25.out _ _) | (go_at_call 20; with_reducible exact C20.out _ _)))))
        refine wpQuiet_nil ?_
        intro _ hw'
        obtain ⟨⟨nq, osq⟩, hw''⟩ := hw'
        subst hw''
        have HBX := hid_mk (HB4.out.trans ((below_regrown w4 nq osq).mono HB4.out.size))
        generalize grow (redrawn w4 nq) osq = V at *
        go_wp2
        exact bodyPost_ret (v := .bool true) (by simp [results, Tryd.results6, go_sem]) rfl ⟨rfl, HBX.out⟩
end Go.Proofs.YthgcefppeaopkaaDoor
