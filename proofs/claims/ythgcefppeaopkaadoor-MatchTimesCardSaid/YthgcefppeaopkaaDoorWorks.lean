/- Two sets of bytes held against each other. -/
import Derived.Test.YthgcefppeaopkaaDoorReadWG
import Derived.Test.YthgcefppeaopkaaDoorReg
import Derived.Test.YthgcefppeaopkaaDoorRow
import Derived.ChangeKeysEq
import Derived.Laws.StructEq
namespace Go.Proofs.YthgcefppeaopkaaDoor
open Go Go.RowKit Go.Sort
set_option maxRecDepth 100000
set_option linter.unusedSimpArgs false
set_option linter.unusedVariables false
set_option maxHeartbeats 1000000
theorem bv_beq (x y : BitVec 64) : ((x.toNat : Int) == (y.toNat : Int)) = decide (x = y) := by
  rw [Bool.eq_iff_iff, beq_iff_eq, decide_eq_true_iff]
  exact ⟨fun e => BitVec.eq_of_toNat_eq (by omega), fun e => by rw [e]⟩
theorem CSet.eq4 (S T : CSet) : decide (S = T) = (decide (S.a = T.a) && decide (S.b = T.b) && decide (S.c = T.c) && decide (S.d = T.d)) := by
  cases S; cases T
  rw [Bool.eq_iff_iff]
  simp [and_assoc]
theorem set_eq_run (S T : CSet) (w : World) : (Op.equalIn 10000 25 (.agg #[.int .u64 ((S).a.toNat : Int), .int .u64 ((S).b.toNat : Int), .int .u64 ((S).c.toNat : Int), .int .u64 ((S).d.toNat : Int)]) (.agg #[.int .u64 ((T).a.toNat : Int), .int .u64 ((T).b.toNat : Int), .int .u64 ((T).c.toNat : Int), .int .u64 ((T).d.toNat : Int)])).run Tryd.prog w = .ok (decide (S = T)) w := by
  have hi : (Tryd.prog.info? 23).isSome = true := by kernel_rfl
  obtain ⟨i, hi⟩ := Option.isSome_iff_exists.1 hi
  rw [run_equalIn_array (d := 9999) (w := w) (n := 4) (e := 23) (i := i) _ _ Tryd.underlying25 hi]
  rw [show Tryd.prog.cellsOf 23 = 1 by kernel_rfl, show List.range 4 = [0, 1, 2, 3] from rfl, CSet.eq4]
  simp only [Op.eqItems, Sem.run_bind]
  simp [go_sem, part, bv_beq]
  by_cases h1 : S.a = T.a <;> by_cases h2 : S.b = T.b <;> by_cases h3 : S.c = T.c <;> by_cases h4 : S.d = T.d <;> simp [h1, h2, h3, h4]
theorem set_eq_yes {S T : CSet} (h : S = T) (w : World) : (Op.equalIn 10000 25 (.agg #[.int .u64 ((S).a.toNat : Int), .int .u64 ((S).b.toNat : Int), .int .u64 ((S).c.toNat : Int), .int .u64 ((S).d.toNat : Int)]) (.agg #[.int .u64 ((T).a.toNat : Int), .int .u64 ((T).b.toNat : Int), .int .u64 ((T).c.toNat : Int), .int .u64 ((T).d.toNat : Int)])).run Tryd.prog w = .ok true w := by rw [set_eq_run, decide_eq_true h]
theorem set_eq_no {S T : CSet} (h : ¬ S = T) (w : World) : (Op.equalIn 10000 25 (.agg #[.int .u64 ((S).a.toNat : Int), .int .u64 ((S).b.toNat : Int), .int .u64 ((S).c.toNat : Int), .int .u64 ((S).d.toNat : Int)]) (.agg #[.int .u64 ((T).a.toNat : Int), .int .u64 ((T).b.toNat : Int), .int .u64 ((T).c.toNat : Int), .int .u64 ((T).d.toNat : Int)])).run Tryd.prog w = .ok false w := by rw [set_eq_run, decide_eq_false h]
noncomputable instance : DecidableEq Node := fun a b => Classical.propDecidable (a = b)
theorem Node.size_mem_kids {n x : Node} (h : x ∈ n.kids) : x.size + 1 ≤ n.size := by
  rw [Node.size_eq n]
  have : ∀ l : List Node, x ∈ l → x.size ≤ Node.sizes l := by
    intro l
    induction l with
    | nil => intro h; cases h
    | cons a r ih =>
      intro h
      rw [Node.sizes_cons]
      rcases List.mem_cons.1 h with rfl | h
      · omega
      · have := ih h; omega
  have := this _ h
  omega
theorem Node.ext' {a b : Node} (h1 : a.kind = b.kind) (h2 : a.set = b.set) (h3 : a.kids = b.kids) (h4 : a.min = b.min) (h5 : a.max = b.max) : a = b := by
  cases a; cases b; simp [Node.kind, Node.set, Node.kids, Node.min, Node.max] at *; exact ⟨h1, h2, h3, h4, h5⟩
theorem retG_qq {P : Program} {f : FuncId} {args : Array Value} {v : Value} {W : World} {d : Nat} {os : Array Obj} (h : Calls P f args (grow (redrawn W d) os) (RetG v (grow (redrawn W d) os))) : Calls P f args (grow (redrawn W d) os) (fun e w'' => e = .returned v ∧ ∃ p : Regrown, w'' = grow (redrawn W p.d) p.os) := regrown_call h
theorem kids_two {G : Nat → Prop} {w w' : World} {A : Option Addr} {ns : List Node} (h : KidsAt G w A ns) (hb : Below w.heap.size w w') (hG : ∀ b, G b → b < w.heap.size) : KidsAt G w' A ns := kidsAt_keep (below_keeps hb hG) (fun b h => h) h
theorem rsame_no0 (a b : Node) (A B : Option Addr) (ca cb : Nat) (w : World)  (h0 : ¬ a.kind = b.kind) :
    Calls Tryd.prog 12 #[.agg #[.int .i64 (a.kind), .int .u64 ((a.set).a.toNat : Int), .int .u64 ((a.set).b.toNat : Int), .int .u64 ((a.set).c.toNat : Int), .int .u64 ((a.set).d.toNat : Int), .slice (A) (a.kids.length) (ca), .int .i64 (a.min), .int .i64 (a.max)], .agg #[.int .i64 (b.kind), .int .u64 ((b.set).a.toNat : Int), .int .u64 ((b.set).b.toNat : Int), .int .u64 ((b.set).c.toNat : Int), .int .u64 ((b.set).d.toNat : Int), .slice (B) (b.kids.length) (cb), .int .i64 (b.min), .int .i64 (b.max)]] w (RetG (.bool false) w) := by
  have f0 : (a.kind != b.kind) = true := by simpa using h0
  clear h0
  go_enter Tryd.func12, Tryd.ntmps12
  go_wp2
  refine bodyPost_ret (v := .bool false) (by simp [results, Tryd.results12, go_sem]) rfl ⟨rfl, ?_⟩
  exact (by repeat (first | with_reducible exact Below.refl _ _ | with_reducible assumption | with_reducible refine Below.setCell ?_ (by first | omega | (dsimp only; omega) | (simp <;> omega)) _ | with_reducible refine Below.alloc ?_ (by first | omega | (simp <;> omega)) _ | with_reducible refine below_drewN ?_ _ | with_reducible refine Below.drew ?_))
theorem rsame_no1 (a b : Node) (A B : Option Addr) (ca cb : Nat) (w : World) (h0 : a.kind = b.kind) (h1 : ¬ a.set = b.set) :
    Calls Tryd.prog 12 #[.agg #[.int .i64 (a.kind), .int .u64 ((a.set).a.toNat : Int), .int .u64 ((a.set).b.toNat : Int), .int .u64 ((a.set).c.toNat : Int), .int .u64 ((a.set).d.toNat : Int), .slice (A) (a.kids.length) (ca), .int .i64 (a.min), .int .i64 (a.max)], .agg #[.int .i64 (b.kind), .int .u64 ((b.set).a.toNat : Int), .int .u64 ((b.set).b.toNat : Int), .int .u64 ((b.set).c.toNat : Int), .int .u64 ((b.set).d.toNat : Int), .slice (B) (b.kids.length) (cb), .int .i64 (b.min), .int .i64 (b.max)]] w (RetG (.bool false) w) := by
  have f0 : (a.kind != b.kind) = false := by simp [h0]
  have hse := fun w => set_eq_no h1 w
  clear h0 h1
  go_enter Tryd.func12, Tryd.ntmps12
  go_wp2
  refine bodyPost_ret (v := .bool false) (by simp [results, Tryd.results12, go_sem]) rfl ⟨rfl, ?_⟩
  exact (by repeat (first | with_reducible exact Below.refl _ _ | with_reducible assumption | with_reducible refine Below.setCell ?_ (by first | omega | (dsimp only; omega) | (simp <;> omega)) _ | with_reducible refine Below.alloc ?_ (by first | omega | (simp <;> omega)) _ | with_reducible refine below_drewN ?_ _ | with_reducible refine Below.drew ?_))
theorem rsame_no2 (a b : Node) (A B : Option Addr) (ca cb : Nat) (w : World) (h0 : a.kind = b.kind) (h1 : a.set = b.set) (h2 : ¬ a.min = b.min) :
    Calls Tryd.prog 12 #[.agg #[.int .i64 (a.kind), .int .u64 ((a.set).a.toNat : Int), .int .u64 ((a.set).b.toNat : Int), .int .u64 ((a.set).c.toNat : Int), .int .u64 ((a.set).d.toNat : Int), .slice (A) (a.kids.length) (ca), .int .i64 (a.min), .int .i64 (a.max)], .agg #[.int .i64 (b.kind), .int .u64 ((b.set).a.toNat : Int), .int .u64 ((b.set).b.toNat : Int), .int .u64 ((b.set).c.toNat : Int), .int .u64 ((b.set).d.toNat : Int), .slice (B) (b.kids.length) (cb), .int .i64 (b.min), .int .i64 (b.max)]] w (RetG (.bool false) w) := by
  have f0 : (a.kind != b.kind) = false := by simp [h0]
  have hse := fun w => set_eq_yes h1 w
  have f2 : (a.min != b.min) = true := by simpa using h2
  clear h0 h1 h2
  go_enter Tryd.func12, Tryd.ntmps12
  go_wp2
  refine bodyPost_ret (v := .bool false) (by simp [results, Tryd.results12, go_sem]) rfl ⟨rfl, ?_⟩
  exact (by repeat (first | with_reducible exact Below.refl _ _ | with_reducible assumption | with_reducible refine Below.setCell ?_ (by first | omega | (dsimp only; omega) | (simp <;> omega)) _ | with_reducible refine Below.alloc ?_ (by first | omega | (simp <;> omega)) _ | with_reducible refine below_drewN ?_ _ | with_reducible refine Below.drew ?_))
theorem rsame_no3 (a b : Node) (A B : Option Addr) (ca cb : Nat) (w : World) (h0 : a.kind = b.kind) (h1 : a.set = b.set) (h2 : a.min = b.min) (h3 : ¬ a.max = b.max) :
    Calls Tryd.prog 12 #[.agg #[.int .i64 (a.kind), .int .u64 ((a.set).a.toNat : Int), .int .u64 ((a.set).b.toNat : Int), .int .u64 ((a.set).c.toNat : Int), .int .u64 ((a.set).d.toNat : Int), .slice (A) (a.kids.length) (ca), .int .i64 (a.min), .int .i64 (a.max)], .agg #[.int .i64 (b.kind), .int .u64 ((b.set).a.toNat : Int), .int .u64 ((b.set).b.toNat : Int), .int .u64 ((b.set).c.toNat : Int), .int .u64 ((b.set).d.toNat : Int), .slice (B) (b.kids.length) (cb), .int .i64 (b.min), .int .i64 (b.max)]] w (RetG (.bool false) w) := by
  have f0 : (a.kind != b.kind) = false := by simp [h0]
  have hse := fun w => set_eq_yes h1 w
  have f2 : (a.min != b.min) = false := by simp [h2]
  have f3 : (a.max != b.max) = true := by simpa using h3
  clear h0 h1 h2 h3
  go_enter Tryd.func12, Tryd.ntmps12
  go_wp2
  refine bodyPost_ret (v := .bool false) (by simp [results, Tryd.results12, go_sem]) rfl ⟨rfl, ?_⟩
  exact (by repeat (first | with_reducible exact Below.refl _ _ | with_reducible assumption | with_reducible refine Below.setCell ?_ (by first | omega | (dsimp only; omega) | (simp <;> omega)) _ | with_reducible refine Below.alloc ?_ (by first | omega | (simp <;> omega)) _ | with_reducible refine below_drewN ?_ _ | with_reducible refine Below.drew ?_))
theorem rsame_no4 (a b : Node) (A B : Option Addr) (ca cb : Nat) (w : World) (h0 : a.kind = b.kind) (h1 : a.set = b.set) (h2 : a.min = b.min) (h3 : a.max = b.max) (h4 : ¬ a.kids.length = b.kids.length) :
    Calls Tryd.prog 12 #[.agg #[.int .i64 (a.kind), .int .u64 ((a.set).a.toNat : Int), .int .u64 ((a.set).b.toNat : Int), .int .u64 ((a.set).c.toNat : Int), .int .u64 ((a.set).d.toNat : Int), .slice (A) (a.kids.length) (ca), .int .i64 (a.min), .int .i64 (a.max)], .agg #[.int .i64 (b.kind), .int .u64 ((b.set).a.toNat : Int), .int .u64 ((b.set).b.toNat : Int), .int .u64 ((b.set).c.toNat : Int), .int .u64 ((b.set).d.toNat : Int), .slice (B) (b.kids.length) (cb), .int .i64 (b.min), .int .i64 (b.max)]] w (RetG (.bool false) w) := by
  have f0 : (a.kind != b.kind) = false := by simp [h0]
  have hse := fun w => set_eq_yes h1 w
  have f2 : (a.min != b.min) = false := by simp [h2]
  have f3 : (a.max != b.max) = false := by simp [h3]
  have g4 : (a.kids.length != b.kids.length) = true := by simpa using h4
  have f4 : ((a.kids.length : Int) != (b.kids.length : Int)) = true := by simp; omega
  clear h0 h1 h2 h3 h4
  go_enter Tryd.func12, Tryd.ntmps12
  go_wp2
  refine bodyPost_ret (v := .bool false) (by simp [results, Tryd.results12, go_sem]) rfl ⟨rfl, ?_⟩
  exact (by repeat (first | with_reducible exact Below.refl _ _ | with_reducible assumption | with_reducible refine Below.setCell ?_ (by first | omega | (dsimp only; omega) | (simp <;> omega)) _ | with_reducible refine Below.alloc ?_ (by first | omega | (simp <;> omega)) _ | with_reducible refine below_drewN ?_ _ | with_reducible refine Below.drew ?_))
/-- at a round's head: the first kids are the same -/
def rsameAt (a b : Node) (W : World) (v : Value) (wr : World) : Prop := ∃ k : Nat, v = .int .i64 (k : Nat) ∧ k ≤ a.kids.length ∧ a.kids.take k = b.kids.take k ∧ Below W.heap.size W wr
theorem rsame_any : ∀ (m : Nat) (a b : Node), a.size ≤ m → a.size ≤ 10000 → ∀ (A B : Option Addr) (ca cb : Nat) (G : Nat → Prop) (w : World), (∀ x, G x → x < w.heap.size) → SlOk A a.kids.length ca → SlOk B b.kids.length cb → KidsAt G w A a.kids → KidsAt G w B b.kids →
    Calls Tryd.prog 12 #[.agg #[.int .i64 (a.kind), .int .u64 ((a.set).a.toNat : Int), .int .u64 ((a.set).b.toNat : Int), .int .u64 ((a.set).c.toNat : Int), .int .u64 ((a.set).d.toNat : Int), .slice (A) (a.kids.length) (ca), .int .i64 (a.min), .int .i64 (a.max)], .agg #[.int .i64 (b.kind), .int .u64 ((b.set).a.toNat : Int), .int .u64 ((b.set).b.toNat : Int), .int .u64 ((b.set).c.toNat : Int), .int .u64 ((b.set).d.toNat : Int), .slice (B) (b.kids.length) (cb), .int .i64 (b.min), .int .i64 (b.max)]] w (RetG (.bool (decide (a = b))) w) := by
  intro m
  induction m with
  | zero => intro a b h; exact absurd h (by have := a.size_pos; omega)
  | succ m ih =>
    intro a b ha ha2 A B ca cb G w hG hsa hsb hka hkb
    by_cases h0 : a.kind = b.kind
    case neg =>
      rw [decide_eq_false (show ¬ a = b from fun e => h0 (by rw [e]))]
      exact rsame_no0 a b A B ca cb w h0
    by_cases h1 : a.set = b.set
    case neg =>
      rw [decide_eq_false (show ¬ a = b from fun e => h1 (by rw [e]))]
      exact rsame_no1 a b A B ca cb w h0 h1
    by_cases h2 : a.min = b.min
    case neg =>
      rw [decide_eq_false (show ¬ a = b from fun e => h2 (by rw [e]))]
      exact rsame_no2 a b A B ca cb w h0 h1 h2
    by_cases h3 : a.max = b.max
    case neg =>
      rw [decide_eq_false (show ¬ a = b from fun e => h3 (by rw [e]))]
      exact rsame_no3 a b A B ca cb w h0 h1 h2 h3
    by_cases h4 : a.kids.length = b.kids.length
    case neg =>
      rw [decide_eq_false (show ¬ a = b from fun e => h4 (by rw [e]))]
      exact rsame_no4 a b A B ca cb w h0 h1 h2 h3 h4
    have f0 : (a.kind != b.kind) = false := by simp [h0]
    have hse := fun w => set_eq_yes h1 w
    have f2 : (a.min != b.min) = false := by simp [h2]
    have f3 : (a.max != b.max) = false := by simp [h3]
    have g4 : (a.kids.length != b.kids.length) = false := by simp [h4]
    have f4 : ((a.kids.length : Int) != (b.kids.length : Int)) = false := by simp [h4]
    have HS : Hid (∀ k, k = a.kids.length → a.kids.take k = b.kids.take k → decide (a = b) = true) := hid_mk (fun k hk e => decide_eq_true (Node.ext' h0 h1 (by subst hk; rw [List.take_length] at e; rw [e, h4, List.take_length]) h2 h3))
    have HN : Hid (∀ k (hka : k < a.kids.length) (hkb : k < b.kids.length), ¬ a.kids[k] = b.kids[k] → decide (a = b) = false) := hid_mk (fun k hka hkb hne => decide_eq_false (fun e => hne (by subst e; rfl)))
    have hlen : a.kids.length = b.kids.length := h4
    have hal : a.kids.length ≤ 10000 := by have := Node.length_le_sizes a.kids; have := a.size_eq; omega
    have HL := hid_mk hlen
    have HG := hid_mk hG
    have HKA := hid_mk hka
    have HKB := hid_mk hkb
    have HIH := hid_mk (fun x y (hx : x ∈ a.kids) => ih x y (by have := Node.size_mem_kids hx; omega) (by have := Node.size_mem_kids hx; omega))
    clear h0 h1 h2 h3 h4 hlen hka hkb ih ha ha2 hsa hsb hG
    go_enter Tryd.func12, Tryd.ntmps12
    go_wp2
    go_loopw [5] (fun v wr => rsameAt a b ((w.alloc (.cells #[.int .i64 (a.kind), .int .u64 ((a.set).a.toNat : Int), .int .u64 ((a.set).b.toNat : Int), .int .u64 ((a.set).c.toNat : Int), .int .u64 ((a.set).d.toNat : Int), .slice (A) (a.kids.length) (ca), .int .i64 (a.min), .int .i64 (a.max)] 28)).alloc (.cells #[.int .i64 (b.kind), .int .u64 ((b.set).a.toNat : Int), .int .u64 ((b.set).b.toNat : Int), .int .u64 ((b.set).c.toNat : Int), .int .u64 ((b.set).d.toNat : Int), .slice (B) (b.kids.length) (cb), .int .i64 (b.min), .int .i64 (b.max)] 28)) v wr) (fun v _ => a.kids.length - (intOf v).toNat)
    case atStart => exact ⟨0, rfl, Nat.zero_le _, rfl, Below.refl _ _⟩
    case round =>
      obtain ⟨k, rfl, hk, htk, hbw⟩ := hrel
      have HTK := hid_mk htk
      have HBW := hid_mk hbw
      clear htk
      by_cases hlt : k < a.kids.length
      · have hltb : k < b.kids.length := by have := HL.out; omega
        have hbw0 : Below w.heap.size w wr := (show Below w.heap.size w ((w.alloc (.cells #[.int .i64 (a.kind), .int .u64 ((a.set).a.toNat : Int), .int .u64 ((a.set).b.toNat : Int), .int .u64 ((a.set).c.toNat : Int), .int .u64 ((a.set).d.toNat : Int), .slice (A) (a.kids.length) (ca), .int .i64 (a.min), .int .i64 (a.max)] 28)).alloc (.cells #[.int .i64 (b.kind), .int .u64 ((b.set).a.toNat : Int), .int .u64 ((b.set).b.toNat : Int), .int .u64 ((b.set).c.toNat : Int), .int .u64 ((b.set).d.toNat : Int), .slice (B) (b.kids.length) (cb), .int .i64 (b.min), .int .i64 (b.max)] 28)) from (by repeat (first | with_reducible exact Below.refl _ _ | with_reducible assumption | with_reducible refine Below.setCell ?_ (by first | omega | (dsimp only; omega) | (simp <;> omega)) _ | with_reducible refine Below.alloc ?_ (by first | omega | (simp <;> omega)) _ | with_reducible refine below_drewN ?_ _ | with_reducible refine Below.drew ?_))).trans (hbw.mono (by simp; omega))
        have hka := kids_two HKA.out hbw0 HG.out
        have hkb := kids_two HKB.out hbw0 HG.out
        obtain ⟨ba, oa, A', ca', rfl, hga, hsa', hka', hca⟩ := kidsAt_at hka hlt
        obtain ⟨bb, ob, B', cb', rfl, hgb, hsb', hkb', hcb⟩ := kidsAt_at hkb hltb
        have HNX := hid_mk (HN.out k hlt hltb)
        have HTN : Hid (a.kids[k] = b.kids[k] → a.kids.take (k + 1) = b.kids.take (k + 1)) := hid_mk (fun e => by rw [List.take_succ_eq_append_getElem hlt, List.take_succ_eq_append_getElem hltb, HTK.out, e])
        have hsz := hbw.size
        have HI2 := hid_mk (HIH.out a.kids[k] b.kids[k] (List.getElem_mem hlt))
        generalize a.kids[k] = x at *
        generalize b.kids[k] = y at *
        have HC : Hid (∀ d os, Calls Tryd.prog 12 #[.agg #[.int .i64 (x.kind), .int .u64 ((x.set).a.toNat : Int), .int .u64 ((x.set).b.toNat : Int), .int .u64 ((x.set).c.toNat : Int), .int .u64 ((x.set).d.toNat : Int), .slice (A') (x.kids.length) (ca'), .int .i64 (x.min), .int .i64 (x.max)], .agg #[.int .i64 (y.kind), .int .u64 ((y.set).a.toNat : Int), .int .u64 ((y.set).b.toNat : Int), .int .u64 ((y.set).c.toNat : Int), .int .u64 ((y.set).d.toNat : Int), .slice (B') (y.kids.length) (cb'), .int .i64 (y.min), .int .i64 (y.max)]] (grow (redrawn wr d) os) (fun e w'' => e = .returned (.bool (decide (x = y))) ∧ ∃ p : Regrown, w'' = grow (redrawn wr p.d) p.os)) := hid_mk (fun d os => retG_qq (HI2.out A' B' ca' cb' G (grow (redrawn wr d) os) (fun b hb => Nat.lt_of_lt_of_le (HG.out b hb) (Nat.le_trans hbw0.size (below_regrown wr d os).size)) hsa' hsb' (kidsAt_keep (below_keeps (below_regrown wr d os) (fun b hb => Nat.lt_of_lt_of_le (HG.out b hb) hbw0.size)) (fun b h => h) hka') (kidsAt_keep (below_keeps (below_regrown wr d os) (fun b hb => Nat.lt_of_lt_of_le (HG.out b hb) hbw0.size)) (fun b h => h) hkb')))
        have za0 : ∀ d os, (grow (redrawn wr d) os).cell? ⟨ba, oa + k * 8, none⟩ = some (.int .i64 x.kind) := fun d os => cell_regrown (hca 0 _ rfl) d os
        have za1 : ∀ d os, (grow (redrawn wr d) os).cell? ⟨ba, oa + k * 8 + 1, none⟩ = some (.int .u64 (x.set.a.toNat : Int)) := fun d os => cell_regrown (hca 1 _ rfl) d os
        have za2 : ∀ d os, (grow (redrawn wr d) os).cell? ⟨ba, oa + k * 8 + 2, none⟩ = some (.int .u64 (x.set.b.toNat : Int)) := fun d os => cell_regrown (hca 2 _ rfl) d os
        have za3 : ∀ d os, (grow (redrawn wr d) os).cell? ⟨ba, oa + k * 8 + 3, none⟩ = some (.int .u64 (x.set.c.toNat : Int)) := fun d os => cell_regrown (hca 3 _ rfl) d os
        have za4 : ∀ d os, (grow (redrawn wr d) os).cell? ⟨ba, oa + k * 8 + 4, none⟩ = some (.int .u64 (x.set.d.toNat : Int)) := fun d os => cell_regrown (hca 4 _ rfl) d os
        have za5 : ∀ d os, (grow (redrawn wr d) os).cell? ⟨ba, oa + k * 8 + 5, none⟩ = some (.slice A' x.kids.length ca') := fun d os => cell_regrown (hca 5 _ rfl) d os
        have za6 : ∀ d os, (grow (redrawn wr d) os).cell? ⟨ba, oa + k * 8 + 6, none⟩ = some (.int .i64 x.min) := fun d os => cell_regrown (hca 6 _ rfl) d os
        have za7 : ∀ d os, (grow (redrawn wr d) os).cell? ⟨ba, oa + k * 8 + 7, none⟩ = some (.int .i64 x.max) := fun d os => cell_regrown (hca 7 _ rfl) d os
        have zb0 : ∀ d os, (grow (redrawn wr d) os).cell? ⟨bb, ob + k * 8, none⟩ = some (.int .i64 y.kind) := fun d os => cell_regrown (hcb 0 _ rfl) d os
        have zb1 : ∀ d os, (grow (redrawn wr d) os).cell? ⟨bb, ob + k * 8 + 1, none⟩ = some (.int .u64 (y.set.a.toNat : Int)) := fun d os => cell_regrown (hcb 1 _ rfl) d os
        have zb2 : ∀ d os, (grow (redrawn wr d) os).cell? ⟨bb, ob + k * 8 + 2, none⟩ = some (.int .u64 (y.set.b.toNat : Int)) := fun d os => cell_regrown (hcb 2 _ rfl) d os
        have zb3 : ∀ d os, (grow (redrawn wr d) os).cell? ⟨bb, ob + k * 8 + 3, none⟩ = some (.int .u64 (y.set.c.toNat : Int)) := fun d os => cell_regrown (hcb 3 _ rfl) d os
        have zb4 : ∀ d os, (grow (redrawn wr d) os).cell? ⟨bb, ob + k * 8 + 4, none⟩ = some (.int .u64 (y.set.d.toNat : Int)) := fun d os => cell_regrown (hcb 4 _ rfl) d os
        have zb5 : ∀ d os, (grow (redrawn wr d) os).cell? ⟨bb, ob + k * 8 + 5, none⟩ = some (.slice B' y.kids.length cb') := fun d os => cell_regrown (hcb 5 _ rfl) d os
        have zb6 : ∀ d os, (grow (redrawn wr d) os).cell? ⟨bb, ob + k * 8 + 6, none⟩ = some (.int .i64 y.min) := fun d os => cell_regrown (hcb 6 _ rfl) d os
        have zb7 : ∀ d os, (grow (redrawn wr d) os).cell? ⟨bb, ob + k * 8 + 7, none⟩ = some (.int .i64 y.max) := fun d os => cell_regrown (hcb 7 _ rfl) d os
        have hxa : Blk wr w.heap.size #[.int .i64 (a.kind), .int .u64 ((a.set).a.toNat : Int), .int .u64 ((a.set).b.toNat : Int), .int .u64 ((a.set).c.toNat : Int), .int .u64 ((a.set).d.toNat : Int), .slice (some ⟨ba, oa, none⟩) (a.kids.length) (ca), .int .i64 (a.min), .int .i64 (a.max)] 28 := (Blk.alloc (Blk.new w _ _) _).below hbw (by simp; omega)
        have hxb : Blk wr (w.heap.size + 1) #[.int .i64 (b.kind), .int .u64 ((b.set).a.toNat : Int), .int .u64 ((b.set).b.toNat : Int), .int .u64 ((b.set).c.toNat : Int), .int .u64 ((b.set).d.toNat : Int), .slice (some ⟨bb, ob, none⟩) (b.kids.length) (cb), .int .i64 (b.min), .int .i64 (b.max)] 28 := (Blk.newAt (by simp)).below hbw (by simp)
        have qa : ∀ d os, (grow (redrawn wr d) os).cell? ⟨w.heap.size, 5, none⟩ = some (.slice (some ⟨ba, oa, none⟩) a.kids.length ca) := fun d os => cell_regrown (hxa.cell 5) d os
        have qb : ∀ d os, (grow (redrawn wr d) os).cell? ⟨w.heap.size + 1, 5, none⟩ = some (.slice (some ⟨bb, ob, none⟩) b.kids.length cb) := fun d os => cell_regrown (hxb.cell 5) d os
        have ra : wr.cell? ⟨w.heap.size, 5, none⟩ = some (.slice (some ⟨ba, oa, none⟩) a.kids.length ca) := hxa.cell 5
        have rb : wr.cell? ⟨w.heap.size + 1, 5, none⟩ = some (.slice (some ⟨bb, ob, none⟩) b.kids.length cb) := hxb.cell 5
        have HBW0 := hid_mk hbw0
        clear hbw hbw0 hka hkb hka' hkb' hca hcb hxa hxb
        by_cases hxy : x = y
        · have HT2 := hid_mk (HTN.out hxy)
          rw [decide_eq_true hxy] at HC
          clear hxy HNX HTN HI2
          go_wp2
          (refine wp_region_quiet_below (by kernel_rfl) (by kernel_rfl) ?_; (repeat (quiet_step ((go_at_call 12; with_reducible exact HC.out _ _)))); refine wpQuiet_nil ?_; intro _ hw'; obtain ⟨⟨nq, osq⟩, hw''⟩ := hw'; subst hw'')
          have HBX := hid_mk (HBW.out.trans ((below_regrown wr nq osq).mono hsz))
          generalize grow (redrawn wr nq) osq = V at *
          go_wp2
          go_roundw
          case rel => exact ⟨k + 1, by go_num, by omega, HT2.out, HBX.out⟩
          case measure => simp [intOf]; omega
        · have HE := hid_mk (HNX.out hxy)
          rw [decide_eq_false hxy] at HC
          clear hxy HNX HTN HI2
          go_wp2
          (refine wp_region_quiet_below (by kernel_rfl) (by kernel_rfl) ?_; (repeat (quiet_step ((go_at_call 12; with_reducible exact HC.out _ _)))); refine wpQuiet_nil ?_; intro _ hw'; obtain ⟨⟨nq, osq⟩, hw''⟩ := hw'; subst hw'')
          have HBX := hid_mk (HBW0.out.trans ((below_regrown wr nq osq).mono HBW0.out.size))
          generalize grow (redrawn wr nq) osq = V at *
          go_wp2
          refine bodyPost_ret (v := .bool false) (by simp [results, Tryd.results12, go_sem]) rfl ⟨by rw [HE.out], HBX.out⟩
      · have HE := hid_mk (HS.out k (by omega) HTK.out)
        have hxa : Blk wr w.heap.size #[.int .i64 (a.kind), .int .u64 ((a.set).a.toNat : Int), .int .u64 ((a.set).b.toNat : Int), .int .u64 ((a.set).c.toNat : Int), .int .u64 ((a.set).d.toNat : Int), .slice (A) (a.kids.length) (ca), .int .i64 (a.min), .int .i64 (a.max)] 28 := (Blk.alloc (Blk.new w _ _) _).below hbw (by simp; omega)
        have ra : wr.cell? ⟨w.heap.size, 5, none⟩ = some (.slice A a.kids.length ca) := hxa.cell 5
        have HB0 : Hid (Below w.heap.size w wr) := hid_mk ((show Below w.heap.size w ((w.alloc (.cells #[.int .i64 (a.kind), .int .u64 ((a.set).a.toNat : Int), .int .u64 ((a.set).b.toNat : Int), .int .u64 ((a.set).c.toNat : Int), .int .u64 ((a.set).d.toNat : Int), .slice (A) (a.kids.length) (ca), .int .i64 (a.min), .int .i64 (a.max)] 28)).alloc (.cells #[.int .i64 (b.kind), .int .u64 ((b.set).a.toNat : Int), .int .u64 ((b.set).b.toNat : Int), .int .u64 ((b.set).c.toNat : Int), .int .u64 ((b.set).d.toNat : Int), .slice (B) (b.kids.length) (cb), .int .i64 (b.min), .int .i64 (b.max)] 28)) from (by repeat (first | with_reducible exact Below.refl _ _ | with_reducible assumption | with_reducible refine Below.setCell ?_ (by first | omega | (dsimp only; omega) | (simp <;> omega)) _ | with_reducible refine Below.alloc ?_ (by first | omega | (simp <;> omega)) _ | with_reducible refine below_drewN ?_ _ | with_reducible refine Below.drew ?_))).trans (hbw.mono (by simp; omega)))
        clear hbw hxa
        go_wp2
        refine bodyPost_ret (v := .bool true) (by simp [results, Tryd.results12, go_sem]) rfl ⟨by rw [HE.out], HB0.out⟩
theorem fault_eq_run (e p e' p' : Int) (w : World) : (Op.equalIn 10000 31 (.agg #[.int .i64 e, .int .i64 p]) (.agg #[.int .i64 e', .int .i64 p'])).run Tryd.prog w = .ok (e == e' && p == p') w := by
  rw [run_equalIn_agg w 9999 31 _ _ (by kernel_rfl) (by kernel_rfl)]
  have hf : (Tryd.prog.fieldsOf 31).toList = [⟨"E", 29, 0, false, "", "", 0⟩, ⟨"At", 3, 1, false, "", "", 8⟩] := by kernel_rfl
  rw [hf]
  simp only [Op.eqFields, Sem.run_bind, Sem.run_ite]
  simp [go_sem, part]
  by_cases h1 : e = e' <;> by_cases h2 : p = p' <;> simp [h1, h2]
theorem ex1 : ((Rx.parse [97, 124, 98, 42]).2.1 = 0 ∧ (Rx.parse [97, 124, 98, 42]).2.2 = 0 ∧ (Rx.parse [97, 124, 98, 42]).1.kind = 3 ∧ (Rx.parse [97, 124, 98, 42]).1.kids.length = 2) ∧ ((Rx.parse [97, 124, 98, 42]).1.kids[1]?.map Node.kind = some 4 ∧ (Rx.parse [97, 124, 98, 42]).1.kids[1]?.map Node.max = some (-1)) := by decide +kernel
theorem ex2 : (Rx.parse [40, 97, 41, 40, 98, 99, 41]).2.1 = 0 ∧ (Rx.parse [40, 97, 41, 40, 98, 99, 41]).2.2 = 0 ∧ (Rx.parse [40, 97, 41, 40, 98, 99, 41]).1.kind = 2 ∧ (Rx.parse [40, 97, 41, 40, 98, 99, 41]).1.kids.length = 3 := by decide +kernel
theorem ex3 : (Rx.parse [97, 123, 51, 44, 50, 125]).2.1 = 2 ∧ (Rx.parse [97, 123, 51, 44, 50, 125]).2.2 = 4 := by decide +kernel
theorem ex1' : ∃ n, Rx.parse [97, 124, 98, 42] = (n, 0, 0) ∧ n.kind = 3 ∧ n.kids.length = 2 ∧ ∀ h : 1 < n.kids.length, n.kids[1].kind = 4 ∧ n.kids[1].max = -1 := by
  have h := ex1
  generalize Rx.parse [97, 124, 98, 42] = r at h ⊢
  obtain ⟨n, e, p⟩ := r
  obtain ⟨⟨h1, h2, h3, h4⟩, h5, h6⟩ := h
  dsimp only at h1 h2 h3 h4 h5 h6
  subst h1 h2
  refine ⟨_, rfl, h3, h4, fun h => ?_⟩
  rw [List.getElem?_eq_getElem h] at h5 h6
  exact ⟨by simpa using h5, by simpa using h6⟩
theorem ex2' : ∃ n, Rx.parse [40, 97, 41, 40, 98, 99, 41] = (n, 0, 0) ∧ n.kind = 2 ∧ n.kids.length = 3 := ⟨_, Prod.ext rfl (Prod.ext ex2.1 ex2.2.1), ex2.2.2.1, ex2.2.2.2⟩
theorem ex3' : ∃ n, Rx.parse [97, 123, 51, 44, 50, 125] = (n, 2, 4) := ⟨_, Prod.ext rfl (Prod.ext ex3.1 ex3.2)⟩
theorem works_any (w : World) (hT : TabW w) : Calls Tryd.prog 9 #[] w (RetG (.bool true) w) := by
  obtain ⟨n1, e1, k1, l1, m1⟩ := ex1'
  obtain ⟨n2, e2, k2, l2⟩ := ex2'
  obtain ⟨n3, e3⟩ := ex3'
  have hl1 : 1 < n1.kids.length := by omega
  obtain ⟨m1a, m1b⟩ := m1 hl1
  have HP1 := hide (fun w hT => parse_any ⟨#[97, 124, 98, 42]⟩ w (by decide) hT)
  have HP2 := hide (fun w hT => parse_any ⟨#[40, 97, 41, 40, 98, 99, 41]⟩ w (by decide) hT)
  have HP3 := hide (fun w hT => parse_any ⟨#[97, 123, 51, 44, 50, 125]⟩ w (by decide) hT)
  rw [show Rx.parse (ByteArray.mk #[97, 124, 98, 42]).data.toList = _ from e1] at HP1
  rw [show Rx.parse (ByteArray.mk #[40, 97, 41, 40, 98, 99, 41]).data.toList = _ from e2] at HP2
  rw [show Rx.parse (ByteArray.mk #[97, 123, 51, 44, 50, 125]).data.toList = _ from e3] at HP3
  have hfe := fault_eq_run
  have HT := hid_mk hT
  have HM := hid_mk (And.intro (And.intro k1 l1) (And.intro (And.intro m1a m1b) (And.intro k2 l2)))
  clear e1 e2 e3 hT k1 k2 l1 l2 m1 m1a m1b
  go_enter Tryd.func9, Tryd.ntmps9
  go_wp2_with fail
  refine (unhide HP1 _ HT.out).mono ?_
  rintro x w1 ⟨hb1, A1, cap1, rfl, hsl1, hk1⟩
  have HB1 := hid_mk hb1
  have HK1 := hid_mk hk1
  clear hb1 hk1 hsl1
  go_wp2_with fail
  refine (unhide HP2 _ ?_).mono ?_
  · exact HT.out.below (by have hb1 := HB1.out; have hs1 := hb1.size; exact (by repeat (first | with_reducible exact Below.refl _ _ | with_reducible assumption | with_reducible refine Below.setCell ?_ (by first | omega | (dsimp only; omega) | (simp <;> omega)) _ | with_reducible refine Below.alloc ?_ (by first | omega | (simp <;> omega)) _ | with_reducible refine below_drewN ?_ _ | with_reducible refine Below.drew ?_)))
  rintro x w2 ⟨hb2, A2, cap2, rfl, hsl2, hk2⟩
  have HB2 := hid_mk hb2
  clear hb2 hk2 hsl2
  go_wp2_with fail
  have HBW2 : Hid (Below w.heap.size w ((w2.alloc (.cells #[.int .i64 (n2.kind), .int .u64 ((n2.set).a.toNat : Int), .int .u64 ((n2.set).b.toNat : Int), .int .u64 ((n2.set).c.toNat : Int), .int .u64 ((n2.set).d.toNat : Int), .slice (A2) (n2.kids.length) (cap2), .int .i64 (n2.min), .int .i64 (n2.max)] 28)).alloc (.cells #[.int .i64 0, .int .i64 0] 31))) := hid_mk (by
    have h1 := HB1.out
    have h2 := HB2.out
    have h3 := h1.size
    have h4 := h2.size
    simp at h4
    have h5 : Below w.heap.size w w2 := (show Below w.heap.size w ((w1.alloc (.cells #[.int .i64 (n1.kind), .int .u64 ((n1.set).a.toNat : Int), .int .u64 ((n1.set).b.toNat : Int), .int .u64 ((n1.set).c.toNat : Int), .int .u64 ((n1.set).d.toNat : Int), .slice (A1) (n1.kids.length) (cap1), .int .i64 (n1.min), .int .i64 (n1.max)] 28)).alloc (.cells #[.int .i64 0, .int .i64 0] 31)) from (by repeat (first | with_reducible exact Below.refl _ _ | with_reducible assumption | with_reducible refine Below.setCell ?_ (by first | omega | (dsimp only; omega) | (simp <;> omega)) _ | with_reducible refine Below.alloc ?_ (by first | omega | (simp <;> omega)) _ | with_reducible refine below_drewN ?_ _ | with_reducible refine Below.drew ?_))).trans (h2.mono (by simp; omega))
    exact (by repeat (first | with_reducible exact Below.refl _ _ | with_reducible assumption | with_reducible refine Below.setCell ?_ (by first | omega | (dsimp only; omega) | (simp <;> omega)) _ | with_reducible refine Below.alloc ?_ (by first | omega | (simp <;> omega)) _ | with_reducible refine below_drewN ?_ _ | with_reducible refine Below.drew ?_)))
  refine (unhide HP3 _ ?_).mono ?_
  · exact HT.out.below HBW2.out
  rintro x w3 ⟨hb3, A3, cap3, rfl, hsl3, hk3⟩
  have hz1 := HB1.out.size
  have hz2 := HB2.out.size
  have hz3 := hb3.size
  simp at hz2 hz3
  obtain ⟨⟨c1, c2⟩, ⟨c3, c4⟩, c5, c6⟩ := HM.out
  have hW1 : Below (w1.heap.size + 2) ((w1.alloc (.cells #[.int .i64 (n1.kind), .int .u64 ((n1.set).a.toNat : Int), .int .u64 ((n1.set).b.toNat : Int), .int .u64 ((n1.set).c.toNat : Int), .int .u64 ((n1.set).d.toNat : Int), .slice (A1) (n1.kids.length) (cap1), .int .i64 (n1.min), .int .i64 (n1.max)] 28)).alloc (.cells #[.int .i64 0, .int .i64 0] 31)) w3 := by
    have h2 := HB2.out
    simp only [World.size_alloc] at h2
    refine h2.trans ?_
    have h5 : Below (w1.heap.size + 1 + 1) w2 ((w2.alloc (.cells #[.int .i64 (n2.kind), .int .u64 ((n2.set).a.toNat : Int), .int .u64 ((n2.set).b.toNat : Int), .int .u64 ((n2.set).c.toNat : Int), .int .u64 ((n2.set).d.toNat : Int), .slice (A2) (n2.kids.length) (cap2), .int .i64 (n2.min), .int .i64 (n2.max)] 28)).alloc (.cells #[.int .i64 0, .int .i64 0] 31)) := (by repeat (first | with_reducible exact Below.refl _ _ | with_reducible assumption | with_reducible refine Below.setCell ?_ (by first | omega | (dsimp only; omega) | (simp <;> omega)) _ | with_reducible refine Below.alloc ?_ (by first | omega | (simp <;> omega)) _ | with_reducible refine below_drewN ?_ _ | with_reducible refine Below.drew ?_))
    exact h5.trans (hb3.mono (by simp; omega))
  obtain ⟨b, o, A', cap', hA, hgb, hsl', hks, hc⟩ := kidsAt_at HK1.out hl1
  have hbz : b < w1.heap.size := hgb.2
  have hk3c : ∀ j u, [.int .i64 ((n1.kids[1]).kind), .int .u64 (((n1.kids[1]).set).a.toNat : Int), .int .u64 (((n1.kids[1]).set).b.toNat : Int), .int .u64 (((n1.kids[1]).set).c.toNat : Int), .int .u64 (((n1.kids[1]).set).d.toNat : Int), .slice (A') ((n1.kids[1]).kids.length) (cap'), .int .i64 ((n1.kids[1]).min), .int .i64 ((n1.kids[1]).max)][j]? = some u → w3.cell? ⟨b, o + 8 + j, none⟩ = some u := fun j u hj => by
    rw [hW1.cell (p := ⟨b, o + 8 + j, none⟩) (by dsimp only; omega), show ((w1.alloc (.cells #[.int .i64 (n1.kind), .int .u64 ((n1.set).a.toNat : Int), .int .u64 ((n1.set).b.toNat : Int), .int .u64 ((n1.set).c.toNat : Int), .int .u64 ((n1.set).d.toNat : Int), .slice (A1) (n1.kids.length) (cap1), .int .i64 (n1.min), .int .i64 (n1.max)] 28)).alloc (.cells #[.int .i64 0, .int .i64 0] 31)).cell? ⟨b, o + 8 + j, none⟩ = w1.cell? ⟨b, o + 8 + j, none⟩ from (show Below w1.heap.size w1 ((w1.alloc (.cells #[.int .i64 (n1.kind), .int .u64 ((n1.set).a.toNat : Int), .int .u64 ((n1.set).b.toNat : Int), .int .u64 ((n1.set).c.toNat : Int), .int .u64 ((n1.set).d.toNat : Int), .slice (A1) (n1.kids.length) (cap1), .int .i64 (n1.min), .int .i64 (n1.max)] 28)).alloc (.cells #[.int .i64 0, .int .i64 0] 31)) from (by repeat (first | with_reducible exact Below.refl _ _ | with_reducible assumption | with_reducible refine Below.setCell ?_ (by first | omega | (dsimp only; omega) | (simp <;> omega)) _ | with_reducible refine Below.alloc ?_ (by first | omega | (simp <;> omega)) _ | with_reducible refine below_drewN ?_ _ | with_reducible refine Below.drew ?_))).cell (p := ⟨b, o + 8 + j, none⟩) hbz]
    have := hc j u hj
    rwa [show o + 1 * 8 + j = o + 8 + j by omega] at this
  have z0 : w3.cell? ⟨b, o + 8, none⟩ = some (.int .i64 4) := by rw [← c3]; exact hk3c 0 _ rfl
  have z7 : w3.cell? ⟨b, o + 15, none⟩ = some (.int .i64 (-1)) := by rw [← c4]; exact hk3c 7 _ rfl
  have z7' : w3.cell? ⟨b, o + 8 + 7, none⟩ = some (.int .i64 (-1)) := z7
  have x1 : Blk w3 w1.heap.size #[.int .i64 (n1.kind), .int .u64 ((n1.set).a.toNat : Int), .int .u64 ((n1.set).b.toNat : Int), .int .u64 ((n1.set).c.toNat : Int), .int .u64 ((n1.set).d.toNat : Int), .slice (A1) (n1.kids.length) (cap1), .int .i64 (n1.min), .int .i64 (n1.max)] 28 := (Blk.alloc (Blk.new w1 _ _) _).below hW1 (by omega)
  have x2 : Blk w3 (w1.heap.size + 1) #[.int .i64 0, .int .i64 0] 31 := (Blk.newAt (by simp)).below hW1 (by omega)
  have x3 : Blk w3 w2.heap.size #[.int .i64 (n2.kind), .int .u64 ((n2.set).a.toNat : Int), .int .u64 ((n2.set).b.toNat : Int), .int .u64 ((n2.set).c.toNat : Int), .int .u64 ((n2.set).d.toNat : Int), .slice (A2) (n2.kids.length) (cap2), .int .i64 (n2.min), .int .i64 (n2.max)] 28 := (Blk.alloc (Blk.new w2 _ _) _).call hb3
  have x4 : Blk w3 (w2.heap.size + 1) #[.int .i64 0, .int .i64 0] 31 := (Blk.newAt (by simp)).call hb3
  have p10 : w3.cell? ⟨w1.heap.size, 0, none⟩ = some (.int .i64 3) := by rw [← c1]; exact x1.cell 0
  have p15 : w3.cell? ⟨w1.heap.size, 5, none⟩ = some (.slice (some ⟨b, o, none⟩) 2 cap1) := by rw [← hA]; exact (x1.cell 5).trans (by simp [c2])
  have p20 : w3.cell? ⟨w1.heap.size + 1, 0, none⟩ = some (.int .i64 0) := x2.cell 0
  have p21 : w3.cell? ⟨w1.heap.size + 1, 1, none⟩ = some (.int .i64 0) := x2.cell 1
  have p30 : w3.cell? ⟨w2.heap.size, 0, none⟩ = some (.int .i64 2) := by rw [← c5]; exact x3.cell 0
  have p35 : w3.cell? ⟨w2.heap.size, 5, none⟩ = some (.slice A2 3 cap2) := (x3.cell 5).trans (by simp [c6])
  have p40 : w3.cell? ⟨w2.heap.size + 1, 0, none⟩ = some (.int .i64 0) := x4.cell 0
  have p41 : w3.cell? ⟨w2.heap.size + 1, 1, none⟩ = some (.int .i64 0) := x4.cell 1
  have s1 : w1.heap.size < w3.heap.size := x1.lt
  have s2 : w1.heap.size + 1 < w3.heap.size := x2.lt
  have s3 : w2.heap.size < w3.heap.size := x3.lt
  have s4 : w2.heap.size + 1 < w3.heap.size := x4.lt
  have s5 : b < w3.heap.size := by omega
  have t1 : w1.heap.size < w3.heap.size + 1 := by omega
  have t2 : w1.heap.size + 1 < w3.heap.size + 1 := by omega
  have t3 : w2.heap.size < w3.heap.size + 1 := by omega
  have t4 : w2.heap.size + 1 < w3.heap.size + 1 := by omega
  have t5 : b < w3.heap.size + 1 := by omega
  have HBW3 : Hid (Below w.heap.size w w3) := hid_mk (HBW2.out.trans (hb3.mono HBW2.out.size))
  clear hb3 hk3 hsl3 hW1 hc hk3c hks hsl' hgb x1 x2 x3 x4 c1 c2 c3 c4 c5 c6 hA hz1 hz2 hz3 hbz HM HK1
  go_wp2
  refine bodyPost_ret (v := .bool true) (by simp [results, Tryd.results9, go_sem]) rfl ⟨rfl, ?_⟩
  have hb := HBW3.out
  have hs := hb.size
  exact (by repeat (first | with_reducible exact Below.refl _ _ | with_reducible assumption | with_reducible refine Below.setCell ?_ (by first | omega | (dsimp only; omega) | (simp <;> omega)) _ | with_reducible refine Below.alloc ?_ (by first | omega | (simp <;> omega)) _ | with_reducible refine below_drewN ?_ _ | with_reducible refine Below.drew ?_))
end Go.Proofs.YthgcefppeaopkaaDoor
