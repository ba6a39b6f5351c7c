/- Walks: two trees held against each other (the program's). -/
import Derived.Test.YthgcefppeaopkaaDoorWorks
namespace Go.Proofs.YthgcefppeaopkaaDoor
open Go Go.RowKit Go.Sort
set_option maxRecDepth 100000
set_option linter.unusedSimpArgs false
set_option linter.unusedVariables false
set_option maxHeartbeats 1000000
theorem psame_no0 (a b : Node) (A B : Option Addr) (ca cb : Nat) (w : World)  (h0 : ¬ a.kind = b.kind) :
    Calls Tryd.prog 14 #[.agg #[.int .i64 (a.kind), .int .u64 ((a.set).a.toNat : Int), .int .u64 ((a.set).b.toNat : Int), .int .u64 ((a.set).c.toNat : Int), .int .u64 ((a.set).d.toNat : Int), .slice (A) (a.kids.length) (ca), .int .i64 (a.min), .int .i64 (a.max)], .agg #[.int .i64 (b.kind), .int .u64 ((b.set).a.toNat : Int), .int .u64 ((b.set).b.toNat : Int), .int .u64 ((b.set).c.toNat : Int), .int .u64 ((b.set).d.toNat : Int), .slice (B) (b.kids.length) (cb), .int .i64 (b.min), .int .i64 (b.max)]] w (RetG (.bool false) w) := by
  have f0 : (a.kind != b.kind) = true := by simpa using h0
  clear h0
  go_enter Tryd.func14, Tryd.ntmps14
  go_wp2
  refine bodyPost_ret (v := .bool false) (by simp [results, Tryd.results14, go_sem]) rfl ⟨rfl, ?_⟩
  exact (by repeat (first | with_reducible exact Below.refl _ _ | with_reducible assumption | with_reducible refine Below.setCell ?_ (by first | omega | (dsimp only; omega) | (simp <;> omega)) _ | with_reducible refine Below.alloc ?_ (by first | omega | (simp <;> omega)) _ | with_reducible refine below_drewN ?_ _ | with_reducible refine Below.drew ?_))
theorem psame_no1 (a b : Node) (A B : Option Addr) (ca cb : Nat) (w : World) (h0 : a.kind = b.kind) (h1 : ¬ a.set = b.set) :
    Calls Tryd.prog 14 #[.agg #[.int .i64 (a.kind), .int .u64 ((a.set).a.toNat : Int), .int .u64 ((a.set).b.toNat : Int), .int .u64 ((a.set).c.toNat : Int), .int .u64 ((a.set).d.toNat : Int), .slice (A) (a.kids.length) (ca), .int .i64 (a.min), .int .i64 (a.max)], .agg #[.int .i64 (b.kind), .int .u64 ((b.set).a.toNat : Int), .int .u64 ((b.set).b.toNat : Int), .int .u64 ((b.set).c.toNat : Int), .int .u64 ((b.set).d.toNat : Int), .slice (B) (b.kids.length) (cb), .int .i64 (b.min), .int .i64 (b.max)]] w (RetG (.bool false) w) := by
  have f0 : (a.kind != b.kind) = false := by simp [h0]
  have hse := fun w => set_eq_no h1 w
  clear h0 h1
  go_enter Tryd.func14, Tryd.ntmps14
  go_wp2
  refine bodyPost_ret (v := .bool false) (by simp [results, Tryd.results14, go_sem]) rfl ⟨rfl, ?_⟩
  exact (by repeat (first | with_reducible exact Below.refl _ _ | with_reducible assumption | with_reducible refine Below.setCell ?_ (by first | omega | (dsimp only; omega) | (simp <;> omega)) _ | with_reducible refine Below.alloc ?_ (by first | omega | (simp <;> omega)) _ | with_reducible refine below_drewN ?_ _ | with_reducible refine Below.drew ?_))
theorem psame_no2 (a b : Node) (A B : Option Addr) (ca cb : Nat) (w : World) (h0 : a.kind = b.kind) (h1 : a.set = b.set) (h2 : ¬ a.min = b.min) :
    Calls Tryd.prog 14 #[.agg #[.int .i64 (a.kind), .int .u64 ((a.set).a.toNat : Int), .int .u64 ((a.set).b.toNat : Int), .int .u64 ((a.set).c.toNat : Int), .int .u64 ((a.set).d.toNat : Int), .slice (A) (a.kids.length) (ca), .int .i64 (a.min), .int .i64 (a.max)], .agg #[.int .i64 (b.kind), .int .u64 ((b.set).a.toNat : Int), .int .u64 ((b.set).b.toNat : Int), .int .u64 ((b.set).c.toNat : Int), .int .u64 ((b.set).d.toNat : Int), .slice (B) (b.kids.length) (cb), .int .i64 (b.min), .int .i64 (b.max)]] w (RetG (.bool false) w) := by
  have f0 : (a.kind != b.kind) = false := by simp [h0]
  have hse := fun w => set_eq_yes h1 w
  have f2 : (a.min != b.min) = true := by simpa using h2
  clear h0 h1 h2
  go_enter Tryd.func14, Tryd.ntmps14
  go_wp2
  refine bodyPost_ret (v := .bool false) (by simp [results, Tryd.results14, go_sem]) rfl ⟨rfl, ?_⟩
  exact (by repeat (first | with_reducible exact Below.refl _ _ | with_reducible assumption | with_reducible refine Below.setCell ?_ (by first | omega | (dsimp only; omega) | (simp <;> omega)) _ | with_reducible refine Below.alloc ?_ (by first | omega | (simp <;> omega)) _ | with_reducible refine below_drewN ?_ _ | with_reducible refine Below.drew ?_))
theorem psame_no3 (a b : Node) (A B : Option Addr) (ca cb : Nat) (w : World) (h0 : a.kind = b.kind) (h1 : a.set = b.set) (h2 : a.min = b.min) (h3 : ¬ a.max = b.max) :
    Calls Tryd.prog 14 #[.agg #[.int .i64 (a.kind), .int .u64 ((a.set).a.toNat : Int), .int .u64 ((a.set).b.toNat : Int), .int .u64 ((a.set).c.toNat : Int), .int .u64 ((a.set).d.toNat : Int), .slice (A) (a.kids.length) (ca), .int .i64 (a.min), .int .i64 (a.max)], .agg #[.int .i64 (b.kind), .int .u64 ((b.set).a.toNat : Int), .int .u64 ((b.set).b.toNat : Int), .int .u64 ((b.set).c.toNat : Int), .int .u64 ((b.set).d.toNat : Int), .slice (B) (b.kids.length) (cb), .int .i64 (b.min), .int .i64 (b.max)]] w (RetG (.bool false) w) := by
  have f0 : (a.kind != b.kind) = false := by simp [h0]
  have hse := fun w => set_eq_yes h1 w
  have f2 : (a.min != b.min) = false := by simp [h2]
  have f3 : (a.max != b.max) = true := by simpa using h3
  clear h0 h1 h2 h3
  go_enter Tryd.func14, Tryd.ntmps14
  go_wp2
  refine bodyPost_ret (v := .bool false) (by simp [results, Tryd.results14, go_sem]) rfl ⟨rfl, ?_⟩
  exact (by repeat (first | with_reducible exact Below.refl _ _ | with_reducible assumption | with_reducible refine Below.setCell ?_ (by first | omega | (dsimp only; omega) | (simp <;> omega)) _ | with_reducible refine Below.alloc ?_ (by first | omega | (simp <;> omega)) _ | with_reducible refine below_drewN ?_ _ | with_reducible refine Below.drew ?_))
theorem psame_no4 (a b : Node) (A B : Option Addr) (ca cb : Nat) (w : World) (h0 : a.kind = b.kind) (h1 : a.set = b.set) (h2 : a.min = b.min) (h3 : a.max = b.max) (h4 : ¬ a.kids.length = b.kids.length) :
    Calls Tryd.prog 14 #[.agg #[.int .i64 (a.kind), .int .u64 ((a.set).a.toNat : Int), .int .u64 ((a.set).b.toNat : Int), .int .u64 ((a.set).c.toNat : Int), .int .u64 ((a.set).d.toNat : Int), .slice (A) (a.kids.length) (ca), .int .i64 (a.min), .int .i64 (a.max)], .agg #[.int .i64 (b.kind), .int .u64 ((b.set).a.toNat : Int), .int .u64 ((b.set).b.toNat : Int), .int .u64 ((b.set).c.toNat : Int), .int .u64 ((b.set).d.toNat : Int), .slice (B) (b.kids.length) (cb), .int .i64 (b.min), .int .i64 (b.max)]] w (RetG (.bool false) w) := by
  have f0 : (a.kind != b.kind) = false := by simp [h0]
  have hse := fun w => set_eq_yes h1 w
  have f2 : (a.min != b.min) = false := by simp [h2]
  have f3 : (a.max != b.max) = false := by simp [h3]
  have g4 : (a.kids.length != b.kids.length) = true := by simpa using h4
  have f4 : ((a.kids.length : Int) != (b.kids.length : Int)) = true := by simp; omega
  clear h0 h1 h2 h3 h4
  go_enter Tryd.func14, Tryd.ntmps14
  go_wp2
  refine bodyPost_ret (v := .bool false) (by simp [results, Tryd.results14, go_sem]) rfl ⟨rfl, ?_⟩
  exact (by repeat (first | with_reducible exact Below.refl _ _ | with_reducible assumption | with_reducible refine Below.setCell ?_ (by first | omega | (dsimp only; omega) | (simp <;> omega)) _ | with_reducible refine Below.alloc ?_ (by first | omega | (simp <;> omega)) _ | with_reducible refine below_drewN ?_ _ | with_reducible refine Below.drew ?_))
/-- at a round's head: the first kids are the same -/
def psameAt (a b : Node) (W : World) (v : Value) (wr : World) : Prop := ∃ k : Nat, v = .int .i64 (k : Nat) ∧ k ≤ a.kids.length ∧ a.kids.take k = b.kids.take k ∧ Below W.heap.size W wr
theorem psame_any : ∀ (m : Nat) (a b : Node), a.size ≤ m → a.size ≤ 10000 → ∀ (A B : Option Addr) (ca cb : Nat) (G : Nat → Prop) (w : World), (∀ x, G x → x < w.heap.size) → SlOk A a.kids.length ca → SlOk B b.kids.length cb → KidsAt G w A a.kids → KidsAt G w B b.kids →
    Calls Tryd.prog 14 #[.agg #[.int .i64 (a.kind), .int .u64 ((a.set).a.toNat : Int), .int .u64 ((a.set).b.toNat : Int), .int .u64 ((a.set).c.toNat : Int), .int .u64 ((a.set).d.toNat : Int), .slice (A) (a.kids.length) (ca), .int .i64 (a.min), .int .i64 (a.max)], .agg #[.int .i64 (b.kind), .int .u64 ((b.set).a.toNat : Int), .int .u64 ((b.set).b.toNat : Int), .int .u64 ((b.set).c.toNat : Int), .int .u64 ((b.set).d.toNat : Int), .slice (B) (b.kids.length) (cb), .int .i64 (b.min), .int .i64 (b.max)]] w (RetG (.bool (decide (a = b))) w) := by
  intro m
  induction m with
  | zero => intro a b h; exact absurd h (by have := a.size_pos; omega)
  | succ m ih =>
    intro a b ha ha2 A B ca cb G w hG hsa hsb hka hkb
    by_cases h0 : a.kind = b.kind
    case neg =>
      rw [decide_eq_false (show ¬ a = b from fun e => h0 (by rw [e]))]
      exact psame_no0 a b A B ca cb w h0
    by_cases h1 : a.set = b.set
    case neg =>
      rw [decide_eq_false (show ¬ a = b from fun e => h1 (by rw [e]))]
      exact psame_no1 a b A B ca cb w h0 h1
    by_cases h2 : a.min = b.min
    case neg =>
      rw [decide_eq_false (show ¬ a = b from fun e => h2 (by rw [e]))]
      exact psame_no2 a b A B ca cb w h0 h1 h2
    by_cases h3 : a.max = b.max
    case neg =>
      rw [decide_eq_false (show ¬ a = b from fun e => h3 (by rw [e]))]
      exact psame_no3 a b A B ca cb w h0 h1 h2 h3
    by_cases h4 : a.kids.length = b.kids.length
    case neg =>
      rw [decide_eq_false (show ¬ a = b from fun e => h4 (by rw [e]))]
      exact psame_no4 a b A B ca cb w h0 h1 h2 h3 h4
    have f0 : (a.kind != b.kind) = false := by simp [h0]
    have hse := fun w => set_eq_yes h1 w
    have f2 : (a.min != b.min) = false := by simp [h2]
    have f3 : (a.max != b.max) = false := by simp [h3]
    have g4 : (a.kids.length != b.kids.length) = false := by simp [h4]
    have f4 : ((a.kids.length : Int) != (b.kids.length : Int)) = false := by simp [h4]
    have HS : Hid (∀ k, k = a.kids.length → a.kids.take k = b.kids.take k → decide (a = b) = true) := hid_mk (fun k hk e => decide_eq_true (Node.ext' h0 h1 (by subst hk; rw [List.take_length] at e; rw [e, h4, List.take_length]) h2 h3))
    have HN : Hid (∀ k (hka : k < a.kids.length) (hkb : k < b.kids.length), ¬ a.kids[k] = b.kids[k] → decide (a = b) = false) := hid_mk (fun k hka hkb hne => decide_eq_false (fun e => hne (by subst e; rfl)))
    have hlen : a.kids.length = b.kids.length := h4
    have hal : a.kids.length ≤ 10000 := by have := Node.length_le_sizes a.kids; have := a.size_eq; omega
    have HL := hid_mk hlen
    have HG := hid_mk hG
    have HKA := hid_mk hka
    have HKB := hid_mk hkb
    have HIH := hid_mk (fun x y (hx : x ∈ a.kids) => ih x y (by have := Node.size_mem_kids hx; omega) (by have := Node.size_mem_kids hx; omega))
    clear h0 h1 h2 h3 h4 hlen hka hkb ih ha ha2 hsa hsb hG
    go_enter Tryd.func14, Tryd.ntmps14
    go_wp2
    go_loopw [44] (fun v wr => psameAt a b ((w.alloc (.cells #[.int .i64 (a.kind), .int .u64 ((a.set).a.toNat : Int), .int .u64 ((a.set).b.toNat : Int), .int .u64 ((a.set).c.toNat : Int), .int .u64 ((a.set).d.toNat : Int), .slice (A) (a.kids.length) (ca), .int .i64 (a.min), .int .i64 (a.max)] 28)).alloc (.cells #[.int .i64 (b.kind), .int .u64 ((b.set).a.toNat : Int), .int .u64 ((b.set).b.toNat : Int), .int .u64 ((b.set).c.toNat : Int), .int .u64 ((b.set).d.toNat : Int), .slice (B) (b.kids.length) (cb), .int .i64 (b.min), .int .i64 (b.max)] 28)) v wr) (fun v _ => a.kids.length - (intOf v).toNat)
    case atStart => exact ⟨0, rfl, Nat.zero_le _, rfl, Below.refl _ _⟩
    case round =>
      obtain ⟨k, rfl, hk, htk, hbw⟩ := hrel
      have HTK := hid_mk htk
      have HBW := hid_mk hbw
      clear htk
      by_cases hlt : k < a.kids.length
      · have hltb : k < b.kids.length := by have := HL.out; omega
        have hbw0 : Below w.heap.size w wr := (show Below w.heap.size w ((w.alloc (.cells #[.int .i64 (a.kind), .int .u64 ((a.set).a.toNat : Int), .int .u64 ((a.set).b.toNat : Int), .int .u64 ((a.set).c.toNat : Int), .int .u64 ((a.set).d.toNat : Int), .slice (A) (a.kids.length) (ca), .int .i64 (a.min), .int .i64 (a.max)] 28)).alloc (.cells #[.int .i64 (b.kind), .int .u64 ((b.set).a.toNat : Int), .int .u64 ((b.set).b.toNat : Int), .int .u64 ((b.set).c.toNat : Int), .int .u64 ((b.set).d.toNat : Int), .slice (B) (b.kids.length) (cb), .int .i64 (b.min), .int .i64 (b.max)] 28)) from (by repeat (first | with_reducible exact Below.refl _ _ | with_reducible assumption | with_reducible refine Below.setCell ?_ (by first | omega | (dsimp only; omega) | (simp <;> omega)) _ | with_reducible refine Below.alloc ?_ (by first | omega | (simp <;> omega)) _ | with_reducible refine below_drewN ?_ _ | with_reducible refine Below.drew ?_))).trans (hbw.mono (by simp; omega))
        have hka := kids_two HKA.out hbw0 HG.out
        have hkb := kids_two HKB.out hbw0 HG.out
        obtain ⟨ba, oa, A', ca', rfl, hga, hsa', hka', hca⟩ := kidsAt_at hka hlt
        obtain ⟨bb, ob, B', cb', rfl, hgb, hsb', hkb', hcb⟩ := kidsAt_at hkb hltb
        have HNX := hid_mk (HN.out k hlt hltb)
        have HTN : Hid (a.kids[k] = b.kids[k] → a.kids.take (k + 1) = b.kids.take (k + 1)) := hid_mk (fun e => by rw [List.take_succ_eq_append_getElem hlt, List.take_succ_eq_append_getElem hltb, HTK.out, e])
        have hsz := hbw.size
        have HI2 := hid_mk (HIH.out a.kids[k] b.kids[k] (List.getElem_mem hlt))
        generalize a.kids[k] = x at *
        generalize b.kids[k] = y at *
        have HC : Hid (∀ d os, Calls Tryd.prog 14 #[.agg #[.int .i64 (x.kind), .int .u64 ((x.set).a.toNat : Int), .int .u64 ((x.set).b.toNat : Int), .int .u64 ((x.set).c.toNat : Int), .int .u64 ((x.set).d.toNat : Int), .slice (A') (x.kids.length) (ca'), .int .i64 (x.min), .int .i64 (x.max)], .agg #[.int .i64 (y.kind), .int .u64 ((y.set).a.toNat : Int), .int .u64 ((y.set).b.toNat : Int), .int .u64 ((y.set).c.toNat : Int), .int .u64 ((y.set).d.toNat : Int), .slice (B') (y.kids.length) (cb'), .int .i64 (y.min), .int .i64 (y.max)]] (grow (redrawn wr d) os) (fun e w'' => e = .returned (.bool (decide (x = y))) ∧ ∃ p : Regrown, w'' = grow (redrawn wr p.d) p.os)) := hid_mk (fun d os => retG_qq (HI2.out A' B' ca' cb' G (grow (redrawn wr d) os) (fun b hb => Nat.lt_of_lt_of_le (HG.out b hb) (Nat.le_trans hbw0.size (below_regrown wr d os).size)) hsa' hsb' (kidsAt_keep (below_keeps (below_regrown wr d os) (fun b hb => Nat.lt_of_lt_of_le (HG.out b hb) hbw0.size)) (fun b h => h) hka') (kidsAt_keep (below_keeps (below_regrown wr d os) (fun b hb => Nat.lt_of_lt_of_le (HG.out b hb) hbw0.size)) (fun b h => h) hkb')))
        have za0 : ∀ d os, (grow (redrawn wr d) os).cell? ⟨ba, oa + k * 8, none⟩ = some (.int .i64 x.kind) := fun d os => cell_regrown (hca 0 _ rfl) d os
        have za1 : ∀ d os, (grow (redrawn wr d) os).cell? ⟨ba, oa + k * 8 + 1, none⟩ = some (.int .u64 (x.set.a.toNat : Int)) := fun d os => cell_regrown (hca 1 _ rfl) d os
        have za2 : ∀ d os, (grow (redrawn wr d) os).cell? ⟨ba, oa + k * 8 + 2, none⟩ = some (.int .u64 (x.set.b.toNat : Int)) := fun d os => cell_regrown (hca 2 _ rfl) d os
        have za3 : ∀ d os, (grow (redrawn wr d) os).cell? ⟨ba, oa + k * 8 + 3, none⟩ = some (.int .u64 (x.set.c.toNat : Int)) := fun d os => cell_regrown (hca 3 _ rfl) d os
        have za4 : ∀ d os, (grow (redrawn wr d) os).cell? ⟨ba, oa + k * 8 + 4, none⟩ = some (.int .u64 (x.set.d.toNat : Int)) := fun d os => cell_regrown (hca 4 _ rfl) d os
        have za5 : ∀ d os, (grow (redrawn wr d) os).cell? ⟨ba, oa + k * 8 + 5, none⟩ = some (.slice A' x.kids.length ca') := fun d os => cell_regrown (hca 5 _ rfl) d os
        have za6 : ∀ d os, (grow (redrawn wr d) os).cell? ⟨ba, oa + k * 8 + 6, none⟩ = some (.int .i64 x.min) := fun d os => cell_regrown (hca 6 _ rfl) d os
        have za7 : ∀ d os, (grow (redrawn wr d) os).cell? ⟨ba, oa + k * 8 + 7, none⟩ = some (.int .i64 x.max) := fun d os => cell_regrown (hca 7 _ rfl) d os
        have zb0 : ∀ d os, (grow (redrawn wr d) os).cell? ⟨bb, ob + k * 8, none⟩ = some (.int .i64 y.kind) := fun d os => cell_regrown (hcb 0 _ rfl) d os
        have zb1 : ∀ d os, (grow (redrawn wr d) os).cell? ⟨bb, ob + k * 8 + 1, none⟩ = some (.int .u64 (y.set.a.toNat : Int)) := fun d os => cell_regrown (hcb 1 _ rfl) d os
        have zb2 : ∀ d os, (grow (redrawn wr d) os).cell? ⟨bb, ob + k * 8 + 2, none⟩ = some (.int .u64 (y.set.b.toNat : Int)) := fun d os => cell_regrown (hcb 2 _ rfl) d os
        have zb3 : ∀ d os, (grow (redrawn wr d) os).cell? ⟨bb, ob + k * 8 + 3, none⟩ = some (.int .u64 (y.set.c.toNat : Int)) := fun d os => cell_regrown (hcb 3 _ rfl) d os
        have zb4 : ∀ d os, (grow (redrawn wr d) os).cell? ⟨bb, ob + k * 8 + 4, none⟩ = some (.int .u64 (y.set.d.toNat : Int)) := fun d os => cell_regrown (hcb 4 _ rfl) d os
        have zb5 : ∀ d os, (grow (redrawn wr d) os).cell? ⟨bb, ob + k * 8 + 5, none⟩ = some (.slice B' y.kids.length cb') := fun d os => cell_regrown (hcb 5 _ rfl) d os
        have zb6 : ∀ d os, (grow (redrawn wr d) os).cell? ⟨bb, ob + k * 8 + 6, none⟩ = some (.int .i64 y.min) := fun d os => cell_regrown (hcb 6 _ rfl) d os
        have zb7 : ∀ d os, (grow (redrawn wr d) os).cell? ⟨bb, ob + k * 8 + 7, none⟩ = some (.int .i64 y.max) := fun d os => cell_regrown (hcb 7 _ rfl) d os
        have hxa : Blk wr w.heap.size #[.int .i64 (a.kind), .int .u64 ((a.set).a.toNat : Int), .int .u64 ((a.set).b.toNat : Int), .int .u64 ((a.set).c.toNat : Int), .int .u64 ((a.set).d.toNat : Int), .slice (some ⟨ba, oa, none⟩) (a.kids.length) (ca), .int .i64 (a.min), .int .i64 (a.max)] 28 := (Blk.alloc (Blk.new w _ _) _).below hbw (by simp; omega)
        have hxb : Blk wr (w.heap.size + 1) #[.int .i64 (b.kind), .int .u64 ((b.set).a.toNat : Int), .int .u64 ((b.set).b.toNat : Int), .int .u64 ((b.set).c.toNat : Int), .int .u64 ((b.set).d.toNat : Int), .slice (some ⟨bb, ob, none⟩) (b.kids.length) (cb), .int .i64 (b.min), .int .i64 (b.max)] 28 := (Blk.newAt (by simp)).below hbw (by simp)
        have qa : ∀ d os, (grow (redrawn wr d) os).cell? ⟨w.heap.size, 5, none⟩ = some (.slice (some ⟨ba, oa, none⟩) a.kids.length ca) := fun d os => cell_regrown (hxa.cell 5) d os
        have qb : ∀ d os, (grow (redrawn wr d) os).cell? ⟨w.heap.size + 1, 5, none⟩ = some (.slice (some ⟨bb, ob, none⟩) b.kids.length cb) := fun d os => cell_regrown (hxb.cell 5) d os
        have ra : wr.cell? ⟨w.heap.size, 5, none⟩ = some (.slice (some ⟨ba, oa, none⟩) a.kids.length ca) := hxa.cell 5
        have rb : wr.cell? ⟨w.heap.size + 1, 5, none⟩ = some (.slice (some ⟨bb, ob, none⟩) b.kids.length cb) := hxb.cell 5
        have HBW0 := hid_mk hbw0
        clear hbw hbw0 hka hkb hka' hkb' hca hcb hxa hxb
        by_cases hxy : x = y
        · have HT2 := hid_mk (HTN.out hxy)
          rw [decide_eq_true hxy] at HC
          clear hxy HNX HTN HI2
          go_wp2
          (refine wp_region_quiet_below (by kernel_rfl) (by kernel_rfl) ?_; (repeat (quiet_step ((go_at_call 14; with_reducible exact HC.out _ _)))); refine wpQuiet_nil ?_; intro _ hw'; obtain ⟨⟨nq, osq⟩, hw''⟩ := hw'; subst hw'')
          have HBX := hid_mk (HBW.out.trans ((below_regrown wr nq osq).mono hsz))
          generalize grow (redrawn wr nq) osq = V at *
          go_wp2
          go_roundw
          case rel => exact ⟨k + 1, by go_num, by omega, HT2.out, HBX.out⟩
          case measure => simp [intOf]; omega
        · have HE := hid_mk (HNX.out hxy)
          rw [decide_eq_false hxy] at HC
          clear hxy HNX HTN HI2
          go_wp2
          (refine wp_region_quiet_below (by kernel_rfl) (by kernel_rfl) ?_; (repeat (quiet_step ((go_at_call 14; with_reducible exact HC.out _ _)))); refine wpQuiet_nil ?_; intro _ hw'; obtain ⟨⟨nq, osq⟩, hw''⟩ := hw'; subst hw'')
          have HBX := hid_mk (HBW0.out.trans ((below_regrown wr nq osq).mono HBW0.out.size))
          generalize grow (redrawn wr nq) osq = V at *
          go_wp2
          refine bodyPost_ret (v := .bool false) (by simp [results, Tryd.results14, go_sem]) rfl ⟨by rw [HE.out], HBX.out⟩
      · have HE := hid_mk (HS.out k (by omega) HTK.out)
        have hxa : Blk wr w.heap.size #[.int .i64 (a.kind), .int .u64 ((a.set).a.toNat : Int), .int .u64 ((a.set).b.toNat : Int), .int .u64 ((a.set).c.toNat : Int), .int .u64 ((a.set).d.toNat : Int), .slice (A) (a.kids.length) (ca), .int .i64 (a.min), .int .i64 (a.max)] 28 := (Blk.alloc (Blk.new w _ _) _).below hbw (by simp; omega)
        have ra : wr.cell? ⟨w.heap.size, 5, none⟩ = some (.slice A a.kids.length ca) := hxa.cell 5
        have HB0 : Hid (Below w.heap.size w wr) := hid_mk ((show Below w.heap.size w ((w.alloc (.cells #[.int .i64 (a.kind), .int .u64 ((a.set).a.toNat : Int), .int .u64 ((a.set).b.toNat : Int), .int .u64 ((a.set).c.toNat : Int), .int .u64 ((a.set).d.toNat : Int), .slice (A) (a.kids.length) (ca), .int .i64 (a.min), .int .i64 (a.max)] 28)).alloc (.cells #[.int .i64 (b.kind), .int .u64 ((b.set).a.toNat : Int), .int .u64 ((b.set).b.toNat : Int), .int .u64 ((b.set).c.toNat : Int), .int .u64 ((b.set).d.toNat : Int), .slice (B) (b.kids.length) (cb), .int .i64 (b.min), .int .i64 (b.max)] 28)) from (by repeat (first | with_reducible exact Below.refl _ _ | with_reducible assumption | with_reducible refine Below.setCell ?_ (by first | omega | (dsimp only; omega) | (simp <;> omega)) _ | with_reducible refine Below.alloc ?_ (by first | omega | (simp <;> omega)) _ | with_reducible refine below_drewN ?_ _ | with_reducible refine Below.drew ?_))).trans (hbw.mono (by simp; omega)))
        clear hbw hxa
        go_wp2
        refine bodyPost_ret (v := .bool true) (by simp [results, Tryd.results14, go_sem]) rfl ⟨by rw [HE.out], HB0.out⟩
end Go.Proofs.YthgcefppeaopkaaDoor
