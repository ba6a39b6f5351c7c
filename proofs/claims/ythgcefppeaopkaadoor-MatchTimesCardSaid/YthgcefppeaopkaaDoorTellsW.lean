/- Walks: trees held against each other, and looked at, whatever their size. -/
import Derived.Test.YthgcefppeaopkaaDoorRightW
import Derived.Test.YthgcefppeaopkaaDoorSameW
import Derived.Test.YthgcefppeaopkaaDoorOpenN
namespace Go.Proofs.YthgcefppeaopkaaDoor
open Go Go.RowKit Go.Sort
set_option maxRecDepth 100000
set_option linter.unusedSimpArgs false
set_option linter.unusedVariables false
set_option maxHeartbeats 4000000
theorem rsameL : ∀ (m : Nat) (a b : Node), a.size ≤ m → a.lens → ∀ (A B : Option Addr) (ca cb : Nat) (G : Nat → Prop) (w : World), (∀ x, G x → x < w.heap.size) → SlOk A a.kids.length ca → SlOk B b.kids.length cb → KidsAt G w A a.kids → KidsAt G w B b.kids →
    Calls Tryd.prog 12 #[.agg #[.int .i64 (a.kind), .int .u64 ((a.set).a.toNat : Int), .int .u64 ((a.set).b.toNat : Int), .int .u64 ((a.set).c.toNat : Int), .int .u64 ((a.set).d.toNat : Int), .slice (A) (a.kids.length) (ca), .int .i64 (a.min), .int .i64 (a.max)], .agg #[.int .i64 (b.kind), .int .u64 ((b.set).a.toNat : Int), .int .u64 ((b.set).b.toNat : Int), .int .u64 ((b.set).c.toNat : Int), .int .u64 ((b.set).d.toNat : Int), .slice (B) (b.kids.length) (cb), .int .i64 (b.min), .int .i64 (b.max)]] w (RetG (.bool (decide (a = b))) w) := by
  intro m
  induction m with
  | zero => intro a b h; exact absurd h (by have := a.size_pos; omega)
  | succ m ih =>
    intro a b ha ha2 A B ca cb G w hG hsa hsb hka hkb
    by_cases h0 : a.kind = b.kind
    case neg =>
      rw [decide_eq_false (show ¬ a = b from fun e => h0 (by rw [e]))]
      exact rsame_no0 a b A B ca cb w h0
    by_cases h1 : a.set = b.set
    case neg =>
      rw [decide_eq_false (show ¬ a = b from fun e => h1 (by rw [e]))]
      exact rsame_no1 a b A B ca cb w h0 h1
    by_cases h2 : a.min = b.min
    case neg =>
      rw [decide_eq_false (show ¬ a = b from fun e => h2 (by rw [e]))]
      exact rsame_no2 a b A B ca cb w h0 h1 h2
    by_cases h3 : a.max = b.max
    case neg =>
      rw [decide_eq_false (show ¬ a = b from fun e => h3 (by rw [e]))]
      exact rsame_no3 a b A B ca cb w h0 h1 h2 h3
    by_cases h4 : a.kids.length = b.kids.length
    case neg =>
      rw [decide_eq_false (show ¬ a = b from fun e => h4 (by rw [e]))]
      exact rsame_no4 a b A B ca cb w h0 h1 h2 h3 h4
    have f0 : (a.kind != b.kind) = false := by simp [h0]
    have hse := fun w => set_eq_yes h1 w
    have f2 : (a.min != b.min) = false := by simp [h2]
    have f3 : (a.max != b.max) = false := by simp [h3]
    have g4 : (a.kids.length != b.kids.length) = false := by simp [h4]
    have f4 : ((a.kids.length : Int) != (b.kids.length : Int)) = false := by simp [h4]
    have HS : Hid (∀ k, k = a.kids.length → a.kids.take k = b.kids.take k → decide (a = b) = true) := hid_mk (fun k hk e => decide_eq_true (Node.ext' h0 h1 (by subst hk; rw [List.take_length] at e; rw [e, h4, List.take_length]) h2 h3))
    have HN : Hid (∀ k (hka : k < a.kids.length) (hkb : k < b.kids.length), ¬ a.kids[k] = b.kids[k] → decide (a = b) = false) := hid_mk (fun k hka hkb hne => decide_eq_false (fun e => hne (by subst e; rfl)))
    have hlen : a.kids.length = b.kids.length := h4
    have hal := Node.lens_len ha2
    unfold maxLen at hal
    have HL := hid_mk hlen
    have HG := hid_mk hG
    have HKA := hid_mk hka
    have HKB := hid_mk hkb
    have HIH := hid_mk (fun x y (hx : x ∈ a.kids) => ih x y (by have := Node.size_mem_kids hx; omega) (Node.lens_mem ha2 hx))
    clear h0 h1 h2 h3 h4 hlen hka hkb ih ha ha2 hsa hsb hG
    go_enter Tryd.func12, Tryd.ntmps12
    go_wp2
    go_loopw [5] (fun v wr => rsameAt a b ((w.alloc (.cells #[.int .i64 (a.kind), .int .u64 ((a.set).a.toNat : Int), .int .u64 ((a.set).b.toNat : Int), .int .u64 ((a.set).c.toNat : Int), .int .u64 ((a.set).d.toNat : Int), .slice (A) (a.kids.length) (ca), .int .i64 (a.min), .int .i64 (a.max)] 28)).alloc (.cells #[.int .i64 (b.kind), .int .u64 ((b.set).a.toNat : Int), .int .u64 ((b.set).b.toNat : Int), .int .u64 ((b.set).c.toNat : Int), .int .u64 ((b.set).d.toNat : Int), .slice (B) (b.kids.length) (cb), .int .i64 (b.min), .int .i64 (b.max)] 28)) v wr) (fun v _ => a.kids.length - (intOf v).toNat)
    case atStart => exact ⟨0, rfl, Nat.zero_le _, rfl, Below.refl _ _⟩
    case round =>
      obtain ⟨k, rfl, hk, htk, hbw⟩ := hrel
      have HTK := hid_mk htk
      have HBW := hid_mk hbw
      clear htk
      by_cases hlt : k < a.kids.length
      · have hltb : k < b.kids.length := by have := HL.out; omega
        have hbw0 : Below w.heap.size w wr := (show Below w.heap.size w ((w.alloc (.cells #[.int .i64 (a.kind), .int .u64 ((a.set).a.toNat : Int), .int .u64 ((a.set).b.toNat : Int), .int .u64 ((a.set).c.toNat : Int), .int .u64 ((a.set).d.toNat : Int), .slice (A) (a.kids.length) (ca), .int .i64 (a.min), .int .i64 (a.max)] 28)).alloc (.cells #[.int .i64 (b.kind), .int .u64 ((b.set).a.toNat : Int), .int .u64 ((b.set).b.toNat : Int), .int .u64 ((b.set).c.toNat : Int), .int .u64 ((b.set).d.toNat : Int), .slice (B) (b.kids.length) (cb), .int .i64 (b.min), .int .i64 (b.max)] 28)) from (by repeat (first | with_reducible exact Below.refl _ _ | with_reducible assumption | with_reducible refine Below.setCell ?_ (by first | omega | (dsimp only; omega) | (simp <;> omega)) _ | with_reducible refine Below.alloc ?_ (by first | omega | (simp <;> omega)) _ | with_reducible refine below_drewN ?_ _ | with_reducible refine Below.drew ?_))).trans (hbw.mono (by simp; omega))
        have hka := kids_two HKA.out hbw0 HG.out
        have hkb := kids_two HKB.out hbw0 HG.out
        obtain ⟨ba, oa, A', ca', rfl, hga, hsa', hka', hca⟩ := kidsAt_at hka hlt
        obtain ⟨bb, ob, B', cb', rfl, hgb, hsb', hkb', hcb⟩ := kidsAt_at hkb hltb
        have HNX := hid_mk (HN.out k hlt hltb)
        have HTN : Hid (a.kids[k] = b.kids[k] → a.kids.take (k + 1) = b.kids.take (k + 1)) := hid_mk (fun e => by rw [List.take_succ_eq_append_getElem hlt, List.take_succ_eq_append_getElem hltb, HTK.out, e])
        have hsz := hbw.size
        have HI2 := hid_mk (HIH.out a.kids[k] b.kids[k] (List.getElem_mem hlt))
        generalize a.kids[k] = x at *
        generalize b.kids[k] = y at *
        have HC : Hid (∀ d os, Calls Tryd.prog 12 #[.agg #[.int .i64 (x.kind), .int .u64 ((x.set).a.toNat : Int), .int .u64 ((x.set).b.toNat : Int), .int .u64 ((x.set).c.toNat : Int), .int .u64 ((x.set).d.toNat : Int), .slice (A') (x.kids.length) (ca'), .int .i64 (x.min), .int .i64 (x.max)], .agg #[.int .i64 (y.kind), .int .u64 ((y.set).a.toNat : Int), .int .u64 ((y.set).b.toNat : Int), .int .u64 ((y.set).c.toNat : Int), .int .u64 ((y.set).d.toNat : Int), .slice (B') (y.kids.length) (cb'), .int .i64 (y.min), .int .i64 (y.max)]] (grow (redrawn wr d) os) (fun e w'' => e = .returned (.bool (decide (x = y))) ∧ ∃ p : Regrown, w'' = grow (redrawn wr p.d) p.os)) := hid_mk (fun d os => retG_qq (HI2.out A' B' ca' cb' G (grow (redrawn wr d) os) (fun b hb => Nat.lt_of_lt_of_le (HG.out b hb) (Nat.le_trans hbw0.size (below_regrown wr d os).size)) hsa' hsb' (kidsAt_keep (below_keeps (below_regrown wr d os) (fun b hb => Nat.lt_of_lt_of_le (HG.out b hb) hbw0.size)) (fun b h => h) hka') (kidsAt_keep (below_keeps (below_regrown wr d os) (fun b hb => Nat.lt_of_lt_of_le (HG.out b hb) hbw0.size)) (fun b h => h) hkb')))
        have za0 : ∀ d os, (grow (redrawn wr d) os).cell? ⟨ba, oa + k * 8, none⟩ = some (.int .i64 x.kind) := fun d os => cell_regrown (hca 0 _ rfl) d os
        have za1 : ∀ d os, (grow (redrawn wr d) os).cell? ⟨ba, oa + k * 8 + 1, none⟩ = some (.int .u64 (x.set.a.toNat : Int)) := fun d os => cell_regrown (hca 1 _ rfl) d os
        have za2 : ∀ d os, (grow (redrawn wr d) os).cell? ⟨ba, oa + k * 8 + 2, none⟩ = some (.int .u64 (x.set.b.toNat : Int)) := fun d os => cell_regrown (hca 2 _ rfl) d os
        have za3 : ∀ d os, (grow (redrawn wr d) os).cell? ⟨ba, oa + k * 8 + 3, none⟩ = some (.int .u64 (x.set.c.toNat : Int)) := fun d os => cell_regrown (hca 3 _ rfl) d os
        have za4 : ∀ d os, (grow (redrawn wr d) os).cell? ⟨ba, oa + k * 8 + 4, none⟩ = some (.int .u64 (x.set.d.toNat : Int)) := fun d os => cell_regrown (hca 4 _ rfl) d os
        have za5 : ∀ d os, (grow (redrawn wr d) os).cell? ⟨ba, oa + k * 8 + 5, none⟩ = some (.slice A' x.kids.length ca') := fun d os => cell_regrown (hca 5 _ rfl) d os
        have za6 : ∀ d os, (grow (redrawn wr d) os).cell? ⟨ba, oa + k * 8 + 6, none⟩ = some (.int .i64 x.min) := fun d os => cell_regrown (hca 6 _ rfl) d os
        have za7 : ∀ d os, (grow (redrawn wr d) os).cell? ⟨ba, oa + k * 8 + 7, none⟩ = some (.int .i64 x.max) := fun d os => cell_regrown (hca 7 _ rfl) d os
        have zb0 : ∀ d os, (grow (redrawn wr d) os).cell? ⟨bb, ob + k * 8, none⟩ = some (.int .i64 y.kind) := fun d os => cell_regrown (hcb 0 _ rfl) d os
        have zb1 : ∀ d os, (grow (redrawn wr d) os).cell? ⟨bb, ob + k * 8 + 1, none⟩ = some (.int .u64 (y.set.a.toNat : Int)) := fun d os => cell_regrown (hcb 1 _ rfl) d os
        have zb2 : ∀ d os, (grow (redrawn wr d) os).cell? ⟨bb, ob + k * 8 + 2, none⟩ = some (.int .u64 (y.set.b.toNat : Int)) := fun d os => cell_regrown (hcb 2 _ rfl) d os
        have zb3 : ∀ d os, (grow (redrawn wr d) os).cell? ⟨bb, ob + k * 8 + 3, none⟩ = some (.int .u64 (y.set.c.toNat : Int)) := fun d os => cell_regrown (hcb 3 _ rfl) d os
        have zb4 : ∀ d os, (grow (redrawn wr d) os).cell? ⟨bb, ob + k * 8 + 4, none⟩ = some (.int .u64 (y.set.d.toNat : Int)) := fun d os => cell_regrown (hcb 4 _ rfl) d os
        have zb5 : ∀ d os, (grow (redrawn wr d) os).cell? ⟨bb, ob + k * 8 + 5, none⟩ = some (.slice B' y.kids.length cb') := fun d os => cell_regrown (hcb 5 _ rfl) d os
        have zb6 : ∀ d os, (grow (redrawn wr d) os).cell? ⟨bb, ob + k * 8 + 6, none⟩ = some (.int .i64 y.min) := fun d os => cell_regrown (hcb 6 _ rfl) d os
        have zb7 : ∀ d os, (grow (redrawn wr d) os).cell? ⟨bb, ob + k * 8 + 7, none⟩ = some (.int .i64 y.max) := fun d os => cell_regrown (hcb 7 _ rfl) d os
        have hxa : Blk wr w.heap.size #[.int .i64 (a.kind), .int .u64 ((a.set).a.toNat : Int), .int .u64 ((a.set).b.toNat : Int), .int .u64 ((a.set).c.toNat : Int), .int .u64 ((a.set).d.toNat : Int), .slice (some ⟨ba, oa, none⟩) (a.kids.length) (ca), .int .i64 (a.min), .int .i64 (a.max)] 28 := (Blk.alloc (Blk.new w _ _) _).below hbw (by simp; omega)
        have hxb : Blk wr (w.heap.size + 1) #[.int .i64 (b.kind), .int .u64 ((b.set).a.toNat : Int), .int .u64 ((b.set).b.toNat : Int), .int .u64 ((b.set).c.toNat : Int), .int .u64 ((b.set).d.toNat : Int), .slice (some ⟨bb, ob, none⟩) (b.kids.length) (cb), .int .i64 (b.min), .int .i64 (b.max)] 28 := (Blk.newAt (by simp)).below hbw (by simp)
        have qa : ∀ d os, (grow (redrawn wr d) os).cell? ⟨w.heap.size, 5, none⟩ = some (.slice (some ⟨ba, oa, none⟩) a.kids.length ca) := fun d os => cell_regrown (hxa.cell 5) d os
        have qb : ∀ d os, (grow (redrawn wr d) os).cell? ⟨w.heap.size + 1, 5, none⟩ = some (.slice (some ⟨bb, ob, none⟩) b.kids.length cb) := fun d os => cell_regrown (hxb.cell 5) d os
        have ra : wr.cell? ⟨w.heap.size, 5, none⟩ = some (.slice (some ⟨ba, oa, none⟩) a.kids.length ca) := hxa.cell 5
        have rb : wr.cell? ⟨w.heap.size + 1, 5, none⟩ = some (.slice (some ⟨bb, ob, none⟩) b.kids.length cb) := hxb.cell 5
        have HBW0 := hid_mk hbw0
        clear hbw hbw0 hka hkb hka' hkb' hca hcb hxa hxb
        by_cases hxy : x = y
        · have HT2 := hid_mk (HTN.out hxy)
          rw [decide_eq_true hxy] at HC
          clear hxy HNX HTN HI2
          go_wp2
          (refine wp_region_quiet_below (by kernel_rfl) (by kernel_rfl) ?_; (repeat (quiet_step ((go_at_call 12; with_reducible exact HC.out _ _)))); refine wpQuiet_nil ?_; intro _ hw'; obtain ⟨⟨nq, osq⟩, hw''⟩ := hw'; subst hw'')
          have HBX := hid_mk (HBW.out.trans ((below_regrown wr nq osq).mono hsz))
          generalize grow (redrawn wr nq) osq = V at *
          go_wp2
          go_roundw
          case rel => exact ⟨k + 1, by go_num, by omega, HT2.out, HBX.out⟩
          case measure => simp [intOf]; omega
        · have HE := hid_mk (HNX.out hxy)
          rw [decide_eq_false hxy] at HC
          clear hxy HNX HTN HI2
          go_wp2
          (refine wp_region_quiet_below (by kernel_rfl) (by kernel_rfl) ?_; (repeat (quiet_step ((go_at_call 12; with_reducible exact HC.out _ _)))); refine wpQuiet_nil ?_; intro _ hw'; obtain ⟨⟨nq, osq⟩, hw''⟩ := hw'; subst hw'')
          have HBX := hid_mk (HBW0.out.trans ((below_regrown wr nq osq).mono HBW0.out.size))
          generalize grow (redrawn wr nq) osq = V at *
          go_wp2
          refine bodyPost_ret (v := .bool false) (by simp [results, Tryd.results12, go_sem]) rfl ⟨by rw [HE.out], HBX.out⟩
      · have HE := hid_mk (HS.out k (by omega) HTK.out)
        have hxa : Blk wr w.heap.size #[.int .i64 (a.kind), .int .u64 ((a.set).a.toNat : Int), .int .u64 ((a.set).b.toNat : Int), .int .u64 ((a.set).c.toNat : Int), .int .u64 ((a.set).d.toNat : Int), .slice (A) (a.kids.length) (ca), .int .i64 (a.min), .int .i64 (a.max)] 28 := (Blk.alloc (Blk.new w _ _) _).below hbw (by simp; omega)
        have ra : wr.cell? ⟨w.heap.size, 5, none⟩ = some (.slice A a.kids.length ca) := hxa.cell 5
        have HB0 : Hid (Below w.heap.size w wr) := hid_mk ((show Below w.heap.size w ((w.alloc (.cells #[.int .i64 (a.kind), .int .u64 ((a.set).a.toNat : Int), .int .u64 ((a.set).b.toNat : Int), .int .u64 ((a.set).c.toNat : Int), .int .u64 ((a.set).d.toNat : Int), .slice (A) (a.kids.length) (ca), .int .i64 (a.min), .int .i64 (a.max)] 28)).alloc (.cells #[.int .i64 (b.kind), .int .u64 ((b.set).a.toNat : Int), .int .u64 ((b.set).b.toNat : Int), .int .u64 ((b.set).c.toNat : Int), .int .u64 ((b.set).d.toNat : Int), .slice (B) (b.kids.length) (cb), .int .i64 (b.min), .int .i64 (b.max)] 28)) from (by repeat (first | with_reducible exact Below.refl _ _ | with_reducible assumption | with_reducible refine Below.setCell ?_ (by first | omega | (dsimp only; omega) | (simp <;> omega)) _ | with_reducible refine Below.alloc ?_ (by first | omega | (simp <;> omega)) _ | with_reducible refine below_drewN ?_ _ | with_reducible refine Below.drew ?_))).trans (hbw.mono (by simp; omega)))
        clear hbw hxa
        go_wp2
        refine bodyPost_ret (v := .bool true) (by simp [results, Tryd.results12, go_sem]) rfl ⟨by rw [HE.out], HB0.out⟩
theorem psameL : ∀ (m : Nat) (a b : Node), a.size ≤ m → a.lens → ∀ (A B : Option Addr) (ca cb : Nat) (G : Nat → Prop) (w : World), (∀ x, G x → x < w.heap.size) → SlOk A a.kids.length ca → SlOk B b.kids.length cb → KidsAt G w A a.kids → KidsAt G w B b.kids →
    Calls Tryd.prog 14 #[.agg #[.int .i64 (a.kind), .int .u64 ((a.set).a.toNat : Int), .int .u64 ((a.set).b.toNat : Int), .int .u64 ((a.set).c.toNat : Int), .int .u64 ((a.set).d.toNat : Int), .slice (A) (a.kids.length) (ca), .int .i64 (a.min), .int .i64 (a.max)], .agg #[.int .i64 (b.kind), .int .u64 ((b.set).a.toNat : Int), .int .u64 ((b.set).b.toNat : Int), .int .u64 ((b.set).c.toNat : Int), .int .u64 ((b.set).d.toNat : Int), .slice (B) (b.kids.length) (cb), .int .i64 (b.min), .int .i64 (b.max)]] w (RetG (.bool (decide (a = b))) w) := by
  intro m
  induction m with
  | zero => intro a b h; exact absurd h (by have := a.size_pos; omega)
  | succ m ih =>
    intro a b ha ha2 A B ca cb G w hG hsa hsb hka hkb
    by_cases h0 : a.kind = b.kind
    case neg =>
      rw [decide_eq_false (show ¬ a = b from fun e => h0 (by rw [e]))]
      exact psame_no0 a b A B ca cb w h0
    by_cases h1 : a.set = b.set
    case neg =>
      rw [decide_eq_false (show ¬ a = b from fun e => h1 (by rw [e]))]
      exact psame_no1 a b A B ca cb w h0 h1
    by_cases h2 : a.min = b.min
    case neg =>
      rw [decide_eq_false (show ¬ a = b from fun e => h2 (by rw [e]))]
      exact psame_no2 a b A B ca cb w h0 h1 h2
    by_cases h3 : a.max = b.max
    case neg =>
      rw [decide_eq_false (show ¬ a = b from fun e => h3 (by rw [e]))]
      exact psame_no3 a b A B ca cb w h0 h1 h2 h3
    by_cases h4 : a.kids.length = b.kids.length
    case neg =>
      rw [decide_eq_false (show ¬ a = b from fun e => h4 (by rw [e]))]
      exact psame_no4 a b A B ca cb w h0 h1 h2 h3 h4
    have f0 : (a.kind != b.kind) = false := by simp [h0]
    have hse := fun w => set_eq_yes h1 w
    have f2 : (a.min != b.min) = false := by simp [h2]
    have f3 : (a.max != b.max) = false := by simp [h3]
    have g4 : (a.kids.length != b.kids.length) = false := by simp [h4]
    have f4 : ((a.kids.length : Int) != (b.kids.length : Int)) = false := by simp [h4]
    have HS : Hid (∀ k, k = a.kids.length → a.kids.take k = b.kids.take k → decide (a = b) = true) := hid_mk (fun k hk e => decide_eq_true (Node.ext' h0 h1 (by subst hk; rw [List.take_length] at e; rw [e, h4, List.take_length]) h2 h3))
    have HN : Hid (∀ k (hka : k < a.kids.length) (hkb : k < b.kids.length), ¬ a.kids[k] = b.kids[k] → decide (a = b) = false) := hid_mk (fun k hka hkb hne => decide_eq_false (fun e => hne (by subst e; rfl)))
    have hlen : a.kids.length = b.kids.length := h4
    have hal := Node.lens_len ha2
    unfold maxLen at hal
    have HL := hid_mk hlen
    have HG := hid_mk hG
    have HKA := hid_mk hka
    have HKB := hid_mk hkb
    have HIH := hid_mk (fun x y (hx : x ∈ a.kids) => ih x y (by have := Node.size_mem_kids hx; omega) (Node.lens_mem ha2 hx))
    clear h0 h1 h2 h3 h4 hlen hka hkb ih ha ha2 hsa hsb hG
    go_enter Tryd.func14, Tryd.ntmps14
    go_wp2
    go_loopw [44] (fun v wr => psameAt a b ((w.alloc (.cells #[.int .i64 (a.kind), .int .u64 ((a.set).a.toNat : Int), .int .u64 ((a.set).b.toNat : Int), .int .u64 ((a.set).c.toNat : Int), .int .u64 ((a.set).d.toNat : Int), .slice (A) (a.kids.length) (ca), .int .i64 (a.min), .int .i64 (a.max)] 28)).alloc (.cells #[.int .i64 (b.kind), .int .u64 ((b.set).a.toNat : Int), .int .u64 ((b.set).b.toNat : Int), .int .u64 ((b.set).c.toNat : Int), .int .u64 ((b.set).d.toNat : Int), .slice (B) (b.kids.length) (cb), .int .i64 (b.min), .int .i64 (b.max)] 28)) v wr) (fun v _ => a.kids.length - (intOf v).toNat)
    case atStart => exact ⟨0, rfl, Nat.zero_le _, rfl, Below.refl _ _⟩
    case round =>
      obtain ⟨k, rfl, hk, htk, hbw⟩ := hrel
      have HTK := hid_mk htk
      have HBW := hid_mk hbw
      clear htk
      by_cases hlt : k < a.kids.length
      · have hltb : k < b.kids.length := by have := HL.out; omega
        have hbw0 : Below w.heap.size w wr := (show Below w.heap.size w ((w.alloc (.cells #[.int .i64 (a.kind), .int .u64 ((a.set).a.toNat : Int), .int .u64 ((a.set).b.toNat : Int), .int .u64 ((a.set).c.toNat : Int), .int .u64 ((a.set).d.toNat : Int), .slice (A) (a.kids.length) (ca), .int .i64 (a.min), .int .i64 (a.max)] 28)).alloc (.cells #[.int .i64 (b.kind), .int .u64 ((b.set).a.toNat : Int), .int .u64 ((b.set).b.toNat : Int), .int .u64 ((b.set).c.toNat : Int), .int .u64 ((b.set).d.toNat : Int), .slice (B) (b.kids.length) (cb), .int .i64 (b.min), .int .i64 (b.max)] 28)) from (by repeat (first | with_reducible exact Below.refl _ _ | with_reducible assumption | with_reducible refine Below.setCell ?_ (by first | omega | (dsimp only; omega) | (simp <;> omega)) _ | with_reducible refine Below.alloc ?_ (by first | omega | (simp <;> omega)) _ | with_reducible refine below_drewN ?_ _ | with_reducible refine Below.drew ?_))).trans (hbw.mono (by simp; omega))
        have hka := kids_two HKA.out hbw0 HG.out
        have hkb := kids_two HKB.out hbw0 HG.out
        obtain ⟨ba, oa, A', ca', rfl, hga, hsa', hka', hca⟩ := kidsAt_at hka hlt
        obtain ⟨bb, ob, B', cb', rfl, hgb, hsb', hkb', hcb⟩ := kidsAt_at hkb hltb
        have HNX := hid_mk (HN.out k hlt hltb)
        have HTN : Hid (a.kids[k] = b.kids[k] → a.kids.take (k + 1) = b.kids.take (k + 1)) := hid_mk (fun e => by rw [List.take_succ_eq_append_getElem hlt, List.take_succ_eq_append_getElem hltb, HTK.out, e])
        have hsz := hbw.size
        have HI2 := hid_mk (HIH.out a.kids[k] b.kids[k] (List.getElem_mem hlt))
        generalize a.kids[k] = x at *
        generalize b.kids[k] = y at *
        have HC : Hid (∀ d os, Calls Tryd.prog 14 #[.agg #[.int .i64 (x.kind), .int .u64 ((x.set).a.toNat : Int), .int .u64 ((x.set).b.toNat : Int), .int .u64 ((x.set).c.toNat : Int), .int .u64 ((x.set).d.toNat : Int), .slice (A') (x.kids.length) (ca'), .int .i64 (x.min), .int .i64 (x.max)], .agg #[.int .i64 (y.kind), .int .u64 ((y.set).a.toNat : Int), .int .u64 ((y.set).b.toNat : Int), .int .u64 ((y.set).c.toNat : Int), .int .u64 ((y.set).d.toNat : Int), .slice (B') (y.kids.length) (cb'), .int .i64 (y.min), .int .i64 (y.max)]] (grow (redrawn wr d) os) (fun e w'' => e = .returned (.bool (decide (x = y))) ∧ ∃ p : Regrown, w'' = grow (redrawn wr p.d) p.os)) := hid_mk (fun d os => retG_qq (HI2.out A' B' ca' cb' G (grow (redrawn wr d) os) (fun b hb => Nat.lt_of_lt_of_le (HG.out b hb) (Nat.le_trans hbw0.size (below_regrown wr d os).size)) hsa' hsb' (kidsAt_keep (below_keeps (below_regrown wr d os) (fun b hb => Nat.lt_of_lt_of_le (HG.out b hb) hbw0.size)) (fun b h => h) hka') (kidsAt_keep (below_keeps (below_regrown wr d os) (fun b hb => Nat.lt_of_lt_of_le (HG.out b hb) hbw0.size)) (fun b h => h) hkb')))
        have za0 : ∀ d os, (grow (redrawn wr d) os).cell? ⟨ba, oa + k * 8, none⟩ = some (.int .i64 x.kind) := fun d os => cell_regrown (hca 0 _ rfl) d os
        have za1 : ∀ d os, (grow (redrawn wr d) os).cell? ⟨ba, oa + k * 8 + 1, none⟩ = some (.int .u64 (x.set.a.toNat : Int)) := fun d os => cell_regrown (hca 1 _ rfl) d os
        have za2 : ∀ d os, (grow (redrawn wr d) os).cell? ⟨ba, oa + k * 8 + 2, none⟩ = some (.int .u64 (x.set.b.toNat : Int)) := fun d os => cell_regrown (hca 2 _ rfl) d os
        have za3 : ∀ d os, (grow (redrawn wr d) os).cell? ⟨ba, oa + k * 8 + 3, none⟩ = some (.int .u64 (x.set.c.toNat : Int)) := fun d os => cell_regrown (hca 3 _ rfl) d os
        have za4 : ∀ d os, (grow (redrawn wr d) os).cell? ⟨ba, oa + k * 8 + 4, none⟩ = some (.int .u64 (x.set.d.toNat : Int)) := fun d os => cell_regrown (hca 4 _ rfl) d os
        have za5 : ∀ d os, (grow (redrawn wr d) os).cell? ⟨ba, oa + k * 8 + 5, none⟩ = some (.slice A' x.kids.length ca') := fun d os => cell_regrown (hca 5 _ rfl) d os
        have za6 : ∀ d os, (grow (redrawn wr d) os).cell? ⟨ba, oa + k * 8 + 6, none⟩ = some (.int .i64 x.min) := fun d os => cell_regrown (hca 6 _ rfl) d os
        have za7 : ∀ d os, (grow (redrawn wr d) os).cell? ⟨ba, oa + k * 8 + 7, none⟩ = some (.int .i64 x.max) := fun d os => cell_regrown (hca 7 _ rfl) d os
        have zb0 : ∀ d os, (grow (redrawn wr d) os).cell? ⟨bb, ob + k * 8, none⟩ = some (.int .i64 y.kind) := fun d os => cell_regrown (hcb 0 _ rfl) d os
        have zb1 : ∀ d os, (grow (redrawn wr d) os).cell? ⟨bb, ob + k * 8 + 1, none⟩ = some (.int .u64 (y.set.a.toNat : Int)) := fun d os => cell_regrown (hcb 1 _ rfl) d os
        have zb2 : ∀ d os, (grow (redrawn wr d) os).cell? ⟨bb, ob + k * 8 + 2, none⟩ = some (.int .u64 (y.set.b.toNat : Int)) := fun d os => cell_regrown (hcb 2 _ rfl) d os
        have zb3 : ∀ d os, (grow (redrawn wr d) os).cell? ⟨bb, ob + k * 8 + 3, none⟩ = some (.int .u64 (y.set.c.toNat : Int)) := fun d os => cell_regrown (hcb 3 _ rfl) d os
        have zb4 : ∀ d os, (grow (redrawn wr d) os).cell? ⟨bb, ob + k * 8 + 4, none⟩ = some (.int .u64 (y.set.d.toNat : Int)) := fun d os => cell_regrown (hcb 4 _ rfl) d os
        have zb5 : ∀ d os, (grow (redrawn wr d) os).cell? ⟨bb, ob + k * 8 + 5, none⟩ = some (.slice B' y.kids.length cb') := fun d os => cell_regrown (hcb 5 _ rfl) d os
        have zb6 : ∀ d os, (grow (redrawn wr d) os).cell? ⟨bb, ob + k * 8 + 6, none⟩ = some (.int .i64 y.min) := fun d os => cell_regrown (hcb 6 _ rfl) d os
        have zb7 : ∀ d os, (grow (redrawn wr d) os).cell? ⟨bb, ob + k * 8 + 7, none⟩ = some (.int .i64 y.max) := fun d os => cell_regrown (hcb 7 _ rfl) d os
        have hxa : Blk wr w.heap.size #[.int .i64 (a.kind), .int .u64 ((a.set).a.toNat : Int), .int .u64 ((a.set).b.toNat : Int), .int .u64 ((a.set).c.toNat : Int), .int .u64 ((a.set).d.toNat : Int), .slice (some ⟨ba, oa, none⟩) (a.kids.length) (ca), .int .i64 (a.min), .int .i64 (a.max)] 28 := (Blk.alloc (Blk.new w _ _) _).below hbw (by simp; omega)
        have hxb : Blk wr (w.heap.size + 1) #[.int .i64 (b.kind), .int .u64 ((b.set).a.toNat : Int), .int .u64 ((b.set).b.toNat : Int), .int .u64 ((b.set).c.toNat : Int), .int .u64 ((b.set).d.toNat : Int), .slice (some ⟨bb, ob, none⟩) (b.kids.length) (cb), .int .i64 (b.min), .int .i64 (b.max)] 28 := (Blk.newAt (by simp)).below hbw (by simp)
        have qa : ∀ d os, (grow (redrawn wr d) os).cell? ⟨w.heap.size, 5, none⟩ = some (.slice (some ⟨ba, oa, none⟩) a.kids.length ca) := fun d os => cell_regrown (hxa.cell 5) d os
        have qb : ∀ d os, (grow (redrawn wr d) os).cell? ⟨w.heap.size + 1, 5, none⟩ = some (.slice (some ⟨bb, ob, none⟩) b.kids.length cb) := fun d os => cell_regrown (hxb.cell 5) d os
        have ra : wr.cell? ⟨w.heap.size, 5, none⟩ = some (.slice (some ⟨ba, oa, none⟩) a.kids.length ca) := hxa.cell 5
        have rb : wr.cell? ⟨w.heap.size + 1, 5, none⟩ = some (.slice (some ⟨bb, ob, none⟩) b.kids.length cb) := hxb.cell 5
        have HBW0 := hid_mk hbw0
        clear hbw hbw0 hka hkb hka' hkb' hca hcb hxa hxb
        by_cases hxy : x = y
        · have HT2 := hid_mk (HTN.out hxy)
          rw [decide_eq_true hxy] at HC
          clear hxy HNX HTN HI2
          go_wp2
          (refine wp_region_quiet_below (by kernel_rfl) (by kernel_rfl) ?_; (repeat (quiet_step ((go_at_call 14; with_reducible exact HC.out _ _)))); refine wpQuiet_nil ?_; intro _ hw'; obtain ⟨⟨nq, osq⟩, hw''⟩ := hw'; subst hw'')
          have HBX := hid_mk (HBW.out.trans ((below_regrown wr nq osq).mono hsz))
          generalize grow (redrawn wr nq) osq = V at *
          go_wp2
          go_roundw
          case rel => exact ⟨k + 1, by go_num, by omega, HT2.out, HBX.out⟩
          case measure => simp [intOf]; omega
        · have HE := hid_mk (HNX.out hxy)
          rw [decide_eq_false hxy] at HC
          clear hxy HNX HTN HI2
          go_wp2
          (refine wp_region_quiet_below (by kernel_rfl) (by kernel_rfl) ?_; (repeat (quiet_step ((go_at_call 14; with_reducible exact HC.out _ _)))); refine wpQuiet_nil ?_; intro _ hw'; obtain ⟨⟨nq, osq⟩, hw''⟩ := hw'; subst hw'')
          have HBX := hid_mk (HBW0.out.trans ((below_regrown wr nq osq).mono HBW0.out.size))
          generalize grow (redrawn wr nq) osq = V at *
          go_wp2
          refine bodyPost_ret (v := .bool false) (by simp [results, Tryd.results14, go_sem]) rfl ⟨by rw [HE.out], HBX.out⟩
      · have HE := hid_mk (HS.out k (by omega) HTK.out)
        have hxa : Blk wr w.heap.size #[.int .i64 (a.kind), .int .u64 ((a.set).a.toNat : Int), .int .u64 ((a.set).b.toNat : Int), .int .u64 ((a.set).c.toNat : Int), .int .u64 ((a.set).d.toNat : Int), .slice (A) (a.kids.length) (ca), .int .i64 (a.min), .int .i64 (a.max)] 28 := (Blk.alloc (Blk.new w _ _) _).below hbw (by simp; omega)
        have ra : wr.cell? ⟨w.heap.size, 5, none⟩ = some (.slice A a.kids.length ca) := hxa.cell 5
        have HB0 : Hid (Below w.heap.size w wr) := hid_mk ((show Below w.heap.size w ((w.alloc (.cells #[.int .i64 (a.kind), .int .u64 ((a.set).a.toNat : Int), .int .u64 ((a.set).b.toNat : Int), .int .u64 ((a.set).c.toNat : Int), .int .u64 ((a.set).d.toNat : Int), .slice (A) (a.kids.length) (ca), .int .i64 (a.min), .int .i64 (a.max)] 28)).alloc (.cells #[.int .i64 (b.kind), .int .u64 ((b.set).a.toNat : Int), .int .u64 ((b.set).b.toNat : Int), .int .u64 ((b.set).c.toNat : Int), .int .u64 ((b.set).d.toNat : Int), .slice (B) (b.kids.length) (cb), .int .i64 (b.min), .int .i64 (b.max)] 28)) from (by repeat (first | with_reducible exact Below.refl _ _ | with_reducible assumption | with_reducible refine Below.setCell ?_ (by first | omega | (dsimp only; omega) | (simp <;> omega)) _ | with_reducible refine Below.alloc ?_ (by first | omega | (simp <;> omega)) _ | with_reducible refine below_drewN ?_ _ | with_reducible refine Below.drew ?_))).trans (hbw.mono (by simp; omega)))
        clear hbw hxa
        go_wp2
        refine bodyPost_ret (v := .bool true) (by simp [results, Tryd.results14, go_sem]) rfl ⟨by rw [HE.out], HB0.out⟩
theorem prightL : ∀ (m : Nat) (n : Node), n.size ≤ m → n.lens → ∀ (A : Option Addr) (ca : Nat) (G : Nat → Prop) (w : World), (∀ x, G x → x < w.heap.size) → SlOk A n.kids.length ca → KidsAt G w A n.kids →
    Calls Tryd.prog 13 #[.agg #[.int .i64 (n.kind), .int .u64 ((n.set).a.toNat : Int), .int .u64 ((n.set).b.toNat : Int), .int .u64 ((n.set).c.toNat : Int), .int .u64 ((n.set).d.toNat : Int), .slice (A) (n.kids.length) (ca), .int .i64 (n.min), .int .i64 (n.max)]] w (RetG (.bool (Rx.right n)) w) := by
  intro m
  induction m with
  | zero => intro a h; exact absurd h (by have := a.size_pos; omega)
  | succ m ih =>
    intro n ha ha2 A ca G w hG hsa hka
    have hal := Node.lens_len ha2
    unfold maxLen at hal
    have HIH := hid_mk (fun x (hx : x ∈ n.kids) => ih x (by have := Node.size_mem_kids hx; omega) (Node.lens_mem ha2 hx))
    have HG := hid_mk hG
    have HKA := hid_mk hka
    clear ih ha ha2 hG hka
    cases n with
    | mk kd S kids mn mx =>
    simp only [Node.kind, Node.set, Node.kids, Node.min, Node.max] at *
    have HE : Hid (Rx.right (.mk kd S kids mn mx) = (Rx.topB kd S kids.length mn mx && Rx.rights kd kids)) := hid_mk (by rw [Rx.right])
    generalize Rx.right (.mk kd S kids mn mx) = R at *
    clear hsa
    go_enter Tryd.func13, Tryd.ntmps13
    go_wp2
    go_loopw [8] (fun v wr => PRightAt kd kids (w.alloc (.cells #[.int .i64 (kd), .int .u64 ((S).a.toNat : Int), .int .u64 ((S).b.toNat : Int), .int .u64 ((S).c.toNat : Int), .int .u64 ((S).d.toNat : Int), .slice (A) (kids.length) (ca), .int .i64 (mn), .int .i64 (mx)] 28)) v wr) (fun v _ => kids.length - (intOf v).toNat)
    case atStart => exact ⟨0, rfl, Nat.zero_le _, rfl, Below.refl _ _⟩
    case round =>
      obtain ⟨k, rfl, hk, htk, hbw⟩ := hrel
      have HTK := hid_mk htk
      have hbw0 : Below w.heap.size w wr := (show Below w.heap.size w (w.alloc (.cells #[.int .i64 (kd), .int .u64 ((S).a.toNat : Int), .int .u64 ((S).b.toNat : Int), .int .u64 ((S).c.toNat : Int), .int .u64 ((S).d.toNat : Int), .slice (A) (kids.length) (ca), .int .i64 (mn), .int .i64 (mx)] 28)) from (by repeat (first | with_reducible exact Below.refl _ _ | with_reducible assumption | with_reducible refine Below.setCell ?_ (by first | omega | (dsimp only; omega) | (simp <;> omega)) _ | with_reducible refine Below.alloc ?_ (by first | omega | (simp <;> omega)) _ | with_reducible refine below_drewN ?_ _ | with_reducible refine Below.drew ?_))).trans (hbw.mono (by first | omega | (simp; omega) | simp))
      have hxa : Blk wr w.heap.size #[.int .i64 (kd), .int .u64 ((S).a.toNat : Int), .int .u64 ((S).b.toNat : Int), .int .u64 ((S).c.toNat : Int), .int .u64 ((S).d.toNat : Int), .slice (A) (kids.length) (ca), .int .i64 (mn), .int .i64 (mx)] 28 := (Blk.new w _ _).below hbw (by simp)
      clear htk
      by_cases hlt : k < kids.length
      · have hka := kids_two HKA.out hbw0 HG.out
        obtain ⟨ba, oa, A', ca', hAE, hga, hsa', hka', hca⟩ := kidsAt_at hka hlt
        subst hAE
        have HIX := hid_mk (HIH.out kids[k] (List.getElem_mem hlt))
        have HNO := hid_mk (rights_bad (kd := kd) hlt)
        have HOK := hid_mk (rights_good (kd := kd) hlt HTK.out)
        generalize kids[k] = x at *
        (have z0 : wr.cell? ⟨ba, oa + k * 8, none⟩ = some (.int .i64 (x.kind)) := hca 0 _ rfl; have z1 : wr.cell? ⟨ba, oa + k * 8 + 1, none⟩ = some (.int .u64 ((x.set).a.toNat : Int)) := hca 1 _ rfl; have z2 : wr.cell? ⟨ba, oa + k * 8 + 2, none⟩ = some (.int .u64 ((x.set).b.toNat : Int)) := hca 2 _ rfl; have z3 : wr.cell? ⟨ba, oa + k * 8 + 3, none⟩ = some (.int .u64 ((x.set).c.toNat : Int)) := hca 3 _ rfl; have z4 : wr.cell? ⟨ba, oa + k * 8 + 4, none⟩ = some (.int .u64 ((x.set).d.toNat : Int)) := hca 4 _ rfl; have z5 : wr.cell? ⟨ba, oa + k * 8 + 5, none⟩ = some (.slice (A') (x.kids.length) (ca')) := hca 5 _ rfl; have z6 : wr.cell? ⟨ba, oa + k * 8 + 6, none⟩ = some (.int .i64 (x.min)) := hca 6 _ rfl; have z7 : wr.cell? ⟨ba, oa + k * 8 + 7, none⟩ = some (.int .i64 (x.max)) := hca 7 _ rfl)
        have hsz := hbw0.size
        have HBW := hid_mk hbw
        have HBW0 := hid_mk hbw0
        have HXA := hid_mk hxa
        have HCX := hide (HIX.out A' ca' G (wr.alloc (.cells #[.int .i64 (x.kind), .int .u64 ((x.set).a.toNat : Int), .int .u64 ((x.set).b.toNat : Int), .int .u64 ((x.set).c.toNat : Int), .int .u64 ((x.set).d.toNat : Int), .slice (A') (x.kids.length) (ca'), .int .i64 (x.min), .int .i64 (x.max)] 28)) (fun b hb => by have := HG.out b hb; have := hsz; first | omega | (simp; omega)) hsa' (kidsAt_keep (below_keeps ((Below.refl wr.heap.size wr).alloc (Nat.le_refl _) _) (fun b hb => by have := HG.out b hb; omega)) (fun b h => h) hka'))
        clear hbw hbw0 hka hka' hca hxa HIX
        cases hx : Rx.right x with
        | false =>
          rw [hx] at HCX HNO
          have HRF : Hid (R = false) := hid_mk (by rw [HE.out, HNO.out rfl, Bool.and_false])
          clear hx HOK HNO
          go_wp2_with fail
          refine (unhide HCX).mono ?_
          rintro e w3 ⟨rfl, hb3⟩
          have hb := HBW0.out
          have HB3 : Hid (Below w.heap.size w w3) := hid_mk ((show Below w.heap.size w (wr.alloc (.cells #[.int .i64 (x.kind), .int .u64 ((x.set).a.toNat : Int), .int .u64 ((x.set).b.toNat : Int), .int .u64 ((x.set).c.toNat : Int), .int .u64 ((x.set).d.toNat : Int), .slice (A') (x.kids.length) (ca'), .int .i64 (x.min), .int .i64 (x.max)] 28)) from (by repeat (first | with_reducible exact Below.refl _ _ | with_reducible assumption | with_reducible refine Below.setCell ?_ (by first | omega | (dsimp only; omega) | (simp <;> omega)) _ | with_reducible refine Below.alloc ?_ (by first | omega | (simp <;> omega)) _ | with_reducible refine below_drewN ?_ _ | with_reducible refine Below.drew ?_))).trans (hb3.mono (by simp; omega)))
          clear hb hb3
          go_wp2
          refine bodyPost_ret (v := .bool false) (by simp [results, Tryd.results13, go_sem]) rfl ?_
          exact ret_boolG HRF.out.symm HB3.out
        | true =>
          rw [hx] at HCX HNO HOK
          clear hx
          have hbx : Blk (wr.alloc (.cells #[.int .i64 (x.kind), .int .u64 ((x.set).a.toNat : Int), .int .u64 ((x.set).b.toNat : Int), .int .u64 ((x.set).c.toNat : Int), .int .u64 ((x.set).d.toNat : Int), .slice (A') (x.kids.length) (ca'), .int .i64 (x.min), .int .i64 (x.max)] 28)) wr.heap.size #[.int .i64 (x.kind), .int .u64 ((x.set).a.toNat : Int), .int .u64 ((x.set).b.toNat : Int), .int .u64 ((x.set).c.toNat : Int), .int .u64 ((x.set).d.toNat : Int), .slice (A') (x.kids.length) (ca'), .int .i64 (x.min), .int .i64 (x.max)] 28 := Blk.new _ _ _
          have hbn : Blk (wr.alloc (.cells #[.int .i64 (x.kind), .int .u64 ((x.set).a.toNat : Int), .int .u64 ((x.set).b.toNat : Int), .int .u64 ((x.set).c.toNat : Int), .int .u64 ((x.set).d.toNat : Int), .slice (A') (x.kids.length) (ca'), .int .i64 (x.min), .int .i64 (x.max)] 28)) w.heap.size #[.int .i64 (kd), .int .u64 ((S).a.toNat : Int), .int .u64 ((S).b.toNat : Int), .int .u64 ((S).c.toNat : Int), .int .u64 ((S).d.toNat : Int), .slice (some ⟨ba, oa, none⟩) (kids.length) (ca), .int .i64 (mn), .int .i64 (mx)] 28 := by
            have h := HXA.out
            exact h.alloc _
          have HBX := hid_mk hbx
          have HBN := hid_mk hbn
          clear hbx hbn
          by_cases hkk : x.kind = kd
          · have e1 : (x.kind == kd) = true := by simpa using hkk
            by_cases hk4 : kd = 4
            · have e2 : (kd != 4) = false := by simpa using hk4
              have HT2 := hid_mk (HOK.out (by rw [e1, e2]; rfl))
              clear hkk hk4 HNO HOK
              go_wp2_with fail
              refine (unhide HCX).mono ?_
              rintro e w3 ⟨rfl, hb3⟩
              have x0 : w3.cell? ⟨wr.heap.size, 0, none⟩ = some (.int .i64 x.kind) := (HBX.out.call hb3).cell 0
              have n0 : w3.cell? ⟨w.heap.size, 0, none⟩ = some (.int .i64 kd) := (HBN.out.call hb3).cell 0
              have hb1 := HBW.out
              have hs1 := hb1.size
              have HB3 : Hid (Below (w.alloc (.cells #[.int .i64 (kd), .int .u64 ((S).a.toNat : Int), .int .u64 ((S).b.toNat : Int), .int .u64 ((S).c.toNat : Int), .int .u64 ((S).d.toNat : Int), .slice (some ⟨ba, oa, none⟩) (kids.length) (ca), .int .i64 (mn), .int .i64 (mx)] 28)).heap.size (w.alloc (.cells #[.int .i64 (kd), .int .u64 ((S).a.toNat : Int), .int .u64 ((S).b.toNat : Int), .int .u64 ((S).c.toNat : Int), .int .u64 ((S).d.toNat : Int), .slice (some ⟨ba, oa, none⟩) (kids.length) (ca), .int .i64 (mn), .int .i64 (mx)] 28)) w3) := hid_mk ((hb1.alloc hs1 (.cells #[.int .i64 (x.kind), .int .u64 ((x.set).a.toNat : Int), .int .u64 ((x.set).b.toNat : Int), .int .u64 ((x.set).c.toNat : Int), .int .u64 ((x.set).d.toNat : Int), .slice (A') (x.kids.length) (ca'), .int .i64 (x.min), .int .i64 (x.max)] 28)).trans (hb3.mono (by have := hs1; simp at *; omega)))
              clear hb1 hs1 hb3
              go_wp2
              go_roundw
              case rel => exact ⟨k + 1, by go_num, by omega, HT2.out, HB3.out⟩
              case measure => simp [intOf]; omega
            · have e2 : (kd != 4) = true := by simpa using hk4
              have HRF : Hid (R = false) := hid_mk (by rw [HE.out, HNO.out (by rw [e1, e2]; rfl), Bool.and_false])
              clear hkk hk4 HNO HOK
              go_wp2_with fail
              refine (unhide HCX).mono ?_
              rintro e w3 ⟨rfl, hb3⟩
              have x0 : w3.cell? ⟨wr.heap.size, 0, none⟩ = some (.int .i64 x.kind) := (HBX.out.call hb3).cell 0
              have n0 : w3.cell? ⟨w.heap.size, 0, none⟩ = some (.int .i64 kd) := (HBN.out.call hb3).cell 0
              have hb := HBW0.out
              have HB3 : Hid (Below w.heap.size w w3) := hid_mk ((show Below w.heap.size w (wr.alloc (.cells #[.int .i64 (x.kind), .int .u64 ((x.set).a.toNat : Int), .int .u64 ((x.set).b.toNat : Int), .int .u64 ((x.set).c.toNat : Int), .int .u64 ((x.set).d.toNat : Int), .slice (A') (x.kids.length) (ca'), .int .i64 (x.min), .int .i64 (x.max)] 28)) from (by repeat (first | with_reducible exact Below.refl _ _ | with_reducible assumption | with_reducible refine Below.setCell ?_ (by first | omega | (dsimp only; omega) | (simp <;> omega)) _ | with_reducible refine Below.alloc ?_ (by first | omega | (simp <;> omega)) _ | with_reducible refine below_drewN ?_ _ | with_reducible refine Below.drew ?_))).trans (hb3.mono (by simp; omega)))
              clear hb hb3
              go_wp2
              refine bodyPost_ret (v := .bool false) (by simp [results, Tryd.results13, go_sem]) rfl ?_
              exact ret_boolG HRF.out.symm HB3.out
          · have e1 : (x.kind == kd) = false := by simpa using hkk
            have HT2 := hid_mk (HOK.out (by rw [e1]; rfl))
            clear hkk HNO HOK
            go_wp2_with fail
            refine (unhide HCX).mono ?_
            rintro e w3 ⟨rfl, hb3⟩
            have x0 : w3.cell? ⟨wr.heap.size, 0, none⟩ = some (.int .i64 x.kind) := (HBX.out.call hb3).cell 0
            have n0 : w3.cell? ⟨w.heap.size, 0, none⟩ = some (.int .i64 kd) := (HBN.out.call hb3).cell 0
            have hb1 := HBW.out
            have hs1 := hb1.size
            have HB3 : Hid (Below (w.alloc (.cells #[.int .i64 (kd), .int .u64 ((S).a.toNat : Int), .int .u64 ((S).b.toNat : Int), .int .u64 ((S).c.toNat : Int), .int .u64 ((S).d.toNat : Int), .slice (some ⟨ba, oa, none⟩) (kids.length) (ca), .int .i64 (mn), .int .i64 (mx)] 28)).heap.size (w.alloc (.cells #[.int .i64 (kd), .int .u64 ((S).a.toNat : Int), .int .u64 ((S).b.toNat : Int), .int .u64 ((S).c.toNat : Int), .int .u64 ((S).d.toNat : Int), .slice (some ⟨ba, oa, none⟩) (kids.length) (ca), .int .i64 (mn), .int .i64 (mx)] 28)) w3) := hid_mk ((hb1.alloc hs1 (.cells #[.int .i64 (x.kind), .int .u64 ((x.set).a.toNat : Int), .int .u64 ((x.set).b.toNat : Int), .int .u64 ((x.set).c.toNat : Int), .int .u64 ((x.set).d.toNat : Int), .slice (A') (x.kids.length) (ca'), .int .i64 (x.min), .int .i64 (x.max)] 28)).trans (hb3.mono (by have := hs1; simp at *; omega)))
            clear hb1 hs1 hb3
            go_wp2
            go_roundw
            case rel => exact ⟨k + 1, by go_num, by omega, HT2.out, HB3.out⟩
            case measure => simp [intOf]; omega
      · have hkl : k = kids.length := by omega
        subst hkl
        have HB0 := hid_mk hbw0
        have HTT : Hid (Rx.rights kd kids = true) := hid_mk (by have := HTK.out; rwa [List.take_length] at this)
        (have y0 : wr.cell? ⟨w.heap.size, 0, none⟩ = some (.int .i64 (kd)) := hxa.cell 0; have y1 : wr.cell? ⟨w.heap.size, 1, none⟩ = some (.int .u64 ((S).a.toNat : Int)) := hxa.cell 1; have y2 : wr.cell? ⟨w.heap.size, 2, none⟩ = some (.int .u64 ((S).b.toNat : Int)) := hxa.cell 2; have y3 : wr.cell? ⟨w.heap.size, 3, none⟩ = some (.int .u64 ((S).c.toNat : Int)) := hxa.cell 3; have y4 : wr.cell? ⟨w.heap.size, 4, none⟩ = some (.int .u64 ((S).d.toNat : Int)) := hxa.cell 4; have y5 : wr.cell? ⟨w.heap.size, 5, none⟩ = some (.slice (A) (kids.length) (ca)) := hxa.cell 5; have y6 : wr.cell? ⟨w.heap.size, 6, none⟩ = some (.int .i64 (mn)) := hxa.cell 6; have y7 : wr.cell? ⟨w.heap.size, 7, none⟩ = some (.int .i64 (mx)) := hxa.cell 7; have yf : ∀ i, wr.frozen? ⟨w.heap.size, i, none⟩ = false := hxa.frozen)
        clear hbw hbw0 hxa HTK
        by_cases hk1 : kd = 1
        case pos =>
          subst hk1
          by_cases hmn : mn = 0
          case neg =>
            have hmb : (mn != 0) = true := by simpa using hmn
            go_wp2
            refine bodyPost_ret (v := .bool false) (by simp [results, Tryd.results13, go_sem]) rfl ?_
            exact ret_boolG (by rw [HE.out, HTT.out]; simp [Rx.topB, hmn]) HB0.out
          by_cases hmx : mx = 0
          case neg =>
            subst hmn
            have hxb : (mx != 0) = true := by simpa using hmx
            go_wp2
            refine bodyPost_ret (v := .bool false) (by simp [results, Tryd.results13, go_sem]) rfl ?_
            exact ret_boolG (by rw [HE.out, HTT.out]; simp [Rx.topB, hmx]) HB0.out
          subst hmn hmx
          by_cases hln : kids.length = 0
          case pos =>
            have g : (kids.length == 0) = true := beq_iff_eq.2 hln
            have g2 : ((kids.length : Int) == 0) = true := beq_iff_eq.2 (by omega)
            go_wp2
            refine bodyPost_ret (v := .bool true) (by simp [results, Tryd.results13, go_sem]) rfl ?_
            exact ret_boolG (by rw [HE.out, HTT.out]; simp [Rx.topB, hln]) HB0.out
          have g : (kids.length == 0) = false := beq_eq_false_iff_ne.2 hln
          have g2 : ((kids.length : Int) == 0) = false := beq_eq_false_iff_ne.2 (by omega)
          go_wp2
          refine bodyPost_ret (v := .bool false) (by simp [results, Tryd.results13, go_sem]) rfl ?_
          exact ret_boolG (by rw [HE.out, HTT.out]; simp [Rx.topB, hln]) HB0.out
        by_cases hk2 : kd = 2
        case pos =>
          subst hk2
          by_cases hS : S = CSet.empty
          case neg =>
            have hse : ∀ w, (Op.equalIn 10000 25 (.agg #[.int .u64 ((S).a.toNat : Int), .int .u64 ((S).b.toNat : Int), .int .u64 ((S).c.toNat : Int), .int .u64 ((S).d.toNat : Int)]) (.agg #[.int .u64 0, .int .u64 0, .int .u64 0, .int .u64 0])).run Tryd.prog w = .ok false w := fun w => by rw [set_none, decide_eq_false hS]
            go_wp2
            refine bodyPost_ret (v := .bool false) (by simp [results, Tryd.results13, go_sem]) rfl ?_
            exact ret_boolG (by rw [HE.out, HTT.out]; simp [Rx.topB, hS]) HB0.out
          have hse : ∀ w, (Op.equalIn 10000 25 (.agg #[.int .u64 ((S).a.toNat : Int), .int .u64 ((S).b.toNat : Int), .int .u64 ((S).c.toNat : Int), .int .u64 ((S).d.toNat : Int)]) (.agg #[.int .u64 0, .int .u64 0, .int .u64 0, .int .u64 0])).run Tryd.prog w = .ok true w := fun w => by rw [set_none, decide_eq_true hS]
          have HS := hid_mk hS
          clear hS
          by_cases hmn : mn = 0
          case neg =>
            have hmb : (mn != 0) = true := by simpa using hmn
            go_wp2
            refine bodyPost_ret (v := .bool false) (by simp [results, Tryd.results13, go_sem]) rfl ?_
            exact ret_boolG (by rw [HE.out, HTT.out]; simp [Rx.topB, HS.out, hmn]) HB0.out
          by_cases hmx : mx = 0
          case neg =>
            subst hmn
            have hxb : (mx != 0) = true := by simpa using hmx
            go_wp2
            refine bodyPost_ret (v := .bool false) (by simp [results, Tryd.results13, go_sem]) rfl ?_
            exact ret_boolG (by rw [HE.out, HTT.out]; simp [Rx.topB, HS.out, hmx]) HB0.out
          subst hmn hmx
          by_cases hln : kids.length ≠ 1
          case pos =>
            have g : (kids.length != 1) = true := bne_iff_ne.2 hln
            have g2 : ((kids.length : Int) != 1) = true := bne_iff_ne.2 (by omega)
            go_wp2
            refine bodyPost_ret (v := .bool true) (by simp [results, Tryd.results13, go_sem]) rfl ?_
            exact ret_boolG (by rw [HE.out, HTT.out]; simp [Rx.topB, HS.out, hln]) HB0.out
          have hln2 : kids.length = 1 := by omega
          clear hln
          have hln := hln2
          have g : (kids.length != 1) = false := by simp [hln2]
          have g2 : ((kids.length : Int) != 1) = false := by simp [hln2]
          go_wp2
          refine bodyPost_ret (v := .bool false) (by simp [results, Tryd.results13, go_sem]) rfl ?_
          exact ret_boolG (by rw [HE.out, HTT.out]; simp [Rx.topB, HS.out, hln]) HB0.out
        by_cases hk3 : kd = 3
        case pos =>
          subst hk3
          by_cases hS : S = CSet.empty
          case neg =>
            have hse : ∀ w, (Op.equalIn 10000 25 (.agg #[.int .u64 ((S).a.toNat : Int), .int .u64 ((S).b.toNat : Int), .int .u64 ((S).c.toNat : Int), .int .u64 ((S).d.toNat : Int)]) (.agg #[.int .u64 0, .int .u64 0, .int .u64 0, .int .u64 0])).run Tryd.prog w = .ok false w := fun w => by rw [set_none, decide_eq_false hS]
            go_wp2
            refine bodyPost_ret (v := .bool false) (by simp [results, Tryd.results13, go_sem]) rfl ?_
            exact ret_boolG (by rw [HE.out, HTT.out]; simp [Rx.topB, hS]) HB0.out
          have hse : ∀ w, (Op.equalIn 10000 25 (.agg #[.int .u64 ((S).a.toNat : Int), .int .u64 ((S).b.toNat : Int), .int .u64 ((S).c.toNat : Int), .int .u64 ((S).d.toNat : Int)]) (.agg #[.int .u64 0, .int .u64 0, .int .u64 0, .int .u64 0])).run Tryd.prog w = .ok true w := fun w => by rw [set_none, decide_eq_true hS]
          have HS := hid_mk hS
          clear hS
          by_cases hmn : mn = 0
          case neg =>
            have hmb : (mn != 0) = true := by simpa using hmn
            go_wp2
            refine bodyPost_ret (v := .bool false) (by simp [results, Tryd.results13, go_sem]) rfl ?_
            exact ret_boolG (by rw [HE.out, HTT.out]; simp [Rx.topB, HS.out, hmn]) HB0.out
          by_cases hmx : mx = 0
          case neg =>
            subst hmn
            have hxb : (mx != 0) = true := by simpa using hmx
            go_wp2
            refine bodyPost_ret (v := .bool false) (by simp [results, Tryd.results13, go_sem]) rfl ?_
            exact ret_boolG (by rw [HE.out, HTT.out]; simp [Rx.topB, HS.out, hmx]) HB0.out
          subst hmn hmx
          by_cases hln : 1 < kids.length
          case pos =>
            have g2 : decide ((1 : Int) < (kids.length : Int)) = true := decide_eq_true (by omega)
            have g3 : decide (1 < kids.length) = true := decide_eq_true hln
            go_wp2
            refine bodyPost_ret (v := .bool true) (by simp [results, Tryd.results13, go_sem]) rfl ?_
            exact ret_boolG (by rw [HE.out, HTT.out]; simp [Rx.topB, HS.out, hln]) HB0.out
          have g2 : decide ((1 : Int) < (kids.length : Int)) = false := decide_eq_false (by omega)
          have g3 : decide (1 < kids.length) = false := decide_eq_false hln
          go_wp2
          refine bodyPost_ret (v := .bool false) (by simp [results, Tryd.results13, go_sem]) rfl ?_
          exact ret_boolG (by rw [HE.out, HTT.out]; simp [Rx.topB, HS.out, hln]) HB0.out
        by_cases hk4 : kd = 4
        case pos =>
          subst hk4
          by_cases hS : S = CSet.empty
          case neg =>
            have hse : ∀ w, (Op.equalIn 10000 25 (.agg #[.int .u64 ((S).a.toNat : Int), .int .u64 ((S).b.toNat : Int), .int .u64 ((S).c.toNat : Int), .int .u64 ((S).d.toNat : Int)]) (.agg #[.int .u64 0, .int .u64 0, .int .u64 0, .int .u64 0])).run Tryd.prog w = .ok false w := fun w => by rw [set_none, decide_eq_false hS]
            go_wp2
            refine bodyPost_ret (v := .bool false) (by simp [results, Tryd.results13, go_sem]) rfl ?_
            exact ret_boolG (by rw [HE.out, HTT.out]; simp [Rx.topB, hS]) HB0.out
          have hse : ∀ w, (Op.equalIn 10000 25 (.agg #[.int .u64 ((S).a.toNat : Int), .int .u64 ((S).b.toNat : Int), .int .u64 ((S).c.toNat : Int), .int .u64 ((S).d.toNat : Int)]) (.agg #[.int .u64 0, .int .u64 0, .int .u64 0, .int .u64 0])).run Tryd.prog w = .ok true w := fun w => by rw [set_none, decide_eq_true hS]
          have HS := hid_mk hS
          clear hS
          by_cases hln : kids.length = 1
          case neg =>
            have g : (kids.length == 1) = false := beq_eq_false_iff_ne.2 hln
            have g2 : ((kids.length : Int) == 1) = false := beq_eq_false_iff_ne.2 (by omega)
            go_wp2
            refine bodyPost_ret (v := .bool false) (by simp [results, Tryd.results13, go_sem]) rfl ?_
            exact ret_boolG (by rw [HE.out, HTT.out]; simp [Rx.topB, HS.out, hln]) HB0.out
          have g : (kids.length == 1) = true := by simpa using hln
          have g2 : ((kids.length : Int) == 1) = true := by simp [hln]
          have HTM := hide (fun w => ptimes_any mn mx w)
          cases hti : Rx.timesB mn mx with
          | true =>
            rw [hti] at HTM
            have HTI := hid_mk hti
            clear hti
            go_wp2_with fail
            refine (unhide HTM _).mono ?_
            rintro e w2 ⟨rfl, rfl⟩
            go_wp2
            refine bodyPost_ret (v := .bool true) (by simp [results, Tryd.results13, go_sem]) rfl ?_
            exact ret_boolG (by rw [HE.out, HTT.out]; simp [Rx.topB, HS.out, hln, HTI.out]) HB0.out
          | false =>
            rw [hti] at HTM
            have HTI := hid_mk hti
            clear hti
            go_wp2_with fail
            refine (unhide HTM _).mono ?_
            rintro e w2 ⟨rfl, rfl⟩
            go_wp2
            refine bodyPost_ret (v := .bool false) (by simp [results, Tryd.results13, go_sem]) rfl ?_
            exact ret_boolG (by rw [HE.out, HTT.out]; simp [Rx.topB, HS.out, hln, HTI.out]) HB0.out
        have b1 : (kd == 1) = false := by simpa using hk1
        have b2 : (kd == 2) = false := by simpa using hk2
        have b3 : (kd == 3) = false := by simpa using hk3
        have b4 : (kd == 4) = false := by simpa using hk4
        have c1 : (kd != 1) = true := by simpa using hk1
        have c4 : (kd != 4) = true := by simpa using hk4
        by_cases hS : S = CSet.empty
        case neg =>
          have hse : ∀ w, (Op.equalIn 10000 25 (.agg #[.int .u64 ((S).a.toNat : Int), .int .u64 ((S).b.toNat : Int), .int .u64 ((S).c.toNat : Int), .int .u64 ((S).d.toNat : Int)]) (.agg #[.int .u64 0, .int .u64 0, .int .u64 0, .int .u64 0])).run Tryd.prog w = .ok false w := fun w => by rw [set_none, decide_eq_false hS]
          go_wp2
          refine bodyPost_ret (v := .bool false) (by simp [results, Tryd.results13, go_sem]) rfl ?_
          exact ret_boolG (by rw [HE.out, HTT.out]; simp [Rx.topB, hS, hk1, hk2, hk3, hk4]) HB0.out
        have hse : ∀ w, (Op.equalIn 10000 25 (.agg #[.int .u64 ((S).a.toNat : Int), .int .u64 ((S).b.toNat : Int), .int .u64 ((S).c.toNat : Int), .int .u64 ((S).d.toNat : Int)]) (.agg #[.int .u64 0, .int .u64 0, .int .u64 0, .int .u64 0])).run Tryd.prog w = .ok true w := fun w => by rw [set_none, decide_eq_true hS]
        have HS := hid_mk hS
        clear hS
        by_cases hmn : mn = 0
        case neg =>
          have hmb : (mn != 0) = true := by simpa using hmn
          go_wp2
          refine bodyPost_ret (v := .bool false) (by simp [results, Tryd.results13, go_sem]) rfl ?_
          exact ret_boolG (by rw [HE.out, HTT.out]; simp [Rx.topB, hk1, hk2, hk3, hk4, hmn]) HB0.out
        by_cases hmx : mx = 0
        case neg =>
          subst hmn
          have hxb : (mx != 0) = true := by simpa using hmx
          go_wp2
          refine bodyPost_ret (v := .bool false) (by simp [results, Tryd.results13, go_sem]) rfl ?_
          exact ret_boolG (by rw [HE.out, HTT.out]; simp [Rx.topB, hk1, hk2, hk3, hk4, hmx]) HB0.out
        subst hmn hmx
        go_wp2
        refine bodyPost_ret (v := .bool false) (by simp [results, Tryd.results13, go_sem]) rfl ?_
        exact ret_boolG (by rw [HE.out, HTT.out]; simp [Rx.topB, hk1, hk2, hk3, hk4]) HB0.out
end Go.Proofs.YthgcefppeaopkaaDoor
