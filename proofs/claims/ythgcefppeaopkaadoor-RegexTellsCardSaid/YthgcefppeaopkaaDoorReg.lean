/- A region that draws its order: its head only reads, or calls what lays blocks at most; its tail is forced. One walk of the text's order serves every order. -/
import Derived.StillTail
import Derived.Lib.QuietBelow
import Derived.Calls
import Derived.Tactics
namespace Go.Proofs.YthgcefppeaopkaaDoor
open Go Go.RowKit Go.Sort
section
variable {P : Program} {ops : Array Oper} {md : Region.Mode} {C : World → Prop} {n : Nat}
/-- the head, whatever order: each operation is one of the first n, and quiet; then L -/
def HeadQ (P : Program) (md : Region.Mode) (ops : Array Oper) (C : World → Prop) (n : Nat) (L : Array Bool → Act → Prop) : Nat → Array Bool → Act → Prop
  | 0, s, a => L s a
  | f + 1, s, a => Region.ready md ops s ≠ [] ∧ ∀ i ∈ Region.ready md ops s, i < n ∧ qOp P ops C i (HeadQ P md ops C n L f (s.setIfInBounds i true)) a
theorem HeadQ.any {g : Nat} {L : Array Bool → Act → Prop} {Q : Exit → Act → World → Prop} (hL : ∀ s a w, C w → L s a → wpAny P md ops Q g s a w) :
    ∀ (f : Nat) (s : Array Bool) (a : Act) (w : World), C w → HeadQ P md ops C n L f s a → wpAny P md ops Q (f + g) s a w := by
  intro f
  induction f with
  | zero => intro s a w hw h; rw [Nat.zero_add]; exact hL s a w hw h
  | succ f ih =>
    intro s a w hw h
    rw [show f + 1 + g = (f + g) + 1 by omega]
    refine ⟨fun e => absurd e h.1, fun i hi => ?_⟩
    exact wpOp_of_qOp hw (fun a' w' hw' h' => ih _ a' w' hw' h') (h.2 i hi).2
/-- what is asked of the operations that may come up besides number i -/
def Free (md : Region.Mode) (ops : Array Oper) (oi : Oper) (i : Nat) (s : Array Bool) : Prop :=
  ∀ j oj, ops[j]? = some oj → j ≠ i → s.getD j true = false → (∀ e ∈ oj.after, Region.binds md e = true → e.on ≠ i) → oi.apart ops oj = true
theorem Free.set {oi : Oper} {i j : Nat} {s : Array Bool} (h : Free md ops oi i s) (hj : s.getD j true = false) : Free md ops oi i (s.setIfInBounds j true) := fun k ok hk hki hun hno => by
  by_cases e : j = k
  · subst e; exact h j ok hk hki hj hno
  · exact h k ok hk hki (by rwa [getD_set_ne true e] at hun) hno
theorem HeadQ.first {i : Nat} {oi : Oper} {v : Value} {L : Array Bool → Act → Prop} (hi : ops[i]? = some oi) (hns : Region.noSelect ops = true)
    (hs : Region.sinkB md ops n = true) (hc : Region.chainB md ops n = true) (hn : n < ops.size) (hin : i < n)
    (hL : ∀ s a, L s a → ∀ j ∈ Region.ready md ops s, n ≤ j) :
    ∀ (f : Nat) (s : Array Bool) (a : Act), HeadInv md ops n s → Free md ops oi i s → i ∈ Region.ready md ops s → YieldsIn P ops C oi v a →
      HeadQ P md ops C n L f (s.setIfInBounds i true) (a.put oi.dst v) → HeadQ P md ops C n L (f + 1) s a := by
  have sel := Region.noSelect_spec hns
  intro f
  induction f with
  | zero =>
    intro s a inv _ hr hy H
    have un := (mem_ready.1 hr).1
    refine ⟨fun e => by simp [e] at hr, fun j hj => ?_⟩
    have jn : j < n := Nat.lt_of_not_le fun h => tail_waits hs hc hn inv _ i rfl hin un j h hj
    refine ⟨jn, ?_⟩
    rcases Nat.decEq j i with ne | rfl
    · exact absurd (hL _ _ H j (ready_mono hj ne)) (by omega)
    · exact hy.qOp hi H
  | succ f ih =>
    intro s a inv free hr hy H
    have un := (mem_ready.1 hr).1
    refine ⟨fun e => by simp [e] at hr, fun j hj => ?_⟩
    have jn : j < n := Nat.lt_of_not_le fun h => tail_waits hs hc hn inv _ i rfl hin un j h hj
    refine ⟨jn, ?_⟩
    rcases Nat.decEq j i with ne | rfl
    · obtain ⟨unj, oj, hoj, done⟩ := mem_ready.1 hj
      have no : ∀ e ∈ oj.after, Region.binds md e = true → e.on ≠ i := fun e he hb h => by
        have h1 := done e he hb
        rw [h, getD_both un] at h1
        cases h1
      have h2 := qOp_put hoj (free j oj hoj ne unj no) (fun cs b => sel i oi cs b hi) (fun cs b => sel j oj cs b hoj) hy (H.2 j (ready_mono hj ne)).2
      refine qOp_mono (fun a' h3 => ih _ a' (inv.set hj jn) (free.set unj) (ready_mono hr (Ne.symm ne)) h3.1 ?_) h2
      have h4 := h3.2
      rwa [Array.setIfInBounds_comm _ _ (Ne.symm ne)] at h4
    · exact hy.qOp hi H
theorem HeadQ.lex {g : Nat} {K : Act → Prop} (hns : Region.noSelect ops = true) (hs : Region.sinkB md ops n = true) (hc : Region.chainB md ops n = true) (hn : n < ops.size) :
    ∀ (l : List Oper) (k : Nat) (s : Array Bool) (a : Act), (∀ j, j < l.length → l[j]? = ops[k + j]?) → k + l.length = n → HeadInv md ops n s →
      Region.lexHead md ops g l.length k s = true → wpQuiet P ops C K l a →
      HeadQ P md ops C n (fun s' a' => Region.seqB md ops g n s' = true ∧ K a') l.length s a := by
  intro l
  induction l with
  | nil =>
    intro k s a _ hk _ hB h
    obtain rfl : k = n := by simpa using hk
    exact ⟨by simpa [Region.lexHead] using hB, h⟩
  | cons o l ih =>
    intro k s a hl hk inv hB h
    have h0 : ops[k]? = some o := by simpa using (hl 0 (by simp)).symm
    have hk' : k + 1 + l.length = n := by simpa [Nat.add_assoc, Nat.add_comm 1] using hk
    simp only [List.length_cons, Region.lexHead, Bool.and_eq_true] at hB
    have hr : k ∈ Region.ready md ops s := by simpa using hB.1.1
    obtain ⟨v, hy, hK⟩ := yieldsIn_of_qOp h0 (show qOp P ops C k (wpQuiet P ops C K l) a by unfold qOp; simp only [h0]; exact h)
    refine HeadQ.first h0 hns hs hc hn (by omega) (fun s' _ hL => seqB_ready hL.1) l.length s a inv (Region.free_spec h0 hB.1.2) hr hy ?_
    refine ih (k + 1) _ _ (fun j hj => ?_) hk' (inv.set hr (by omega)) hB.2 hK
    have := hl (j + 1) (by simp; omega)
    simpa [Nat.add_assoc, Nat.add_comm 1 j] using this
/-- the region: its head quiet in the class, its tail walked in each world of the class -/
theorem region_qtail {id : Nat} {Q : Exit → Act → World → Prop} {a : Act} {w : World} {l : List Oper} (n : Nat) (hm : P.follows .mixedOrders = true) (hB : Region.lexTailB .any l.toArray n = true)
    (hC : C { w with drawn := w.drawn + 1 })
    (h : wpQuiet P l.toArray C (fun a' => ∀ w', C w' → wpList P l.toArray Q (l.drop n) a' w') (l.take n) a) : (Code.region id l.toArray true).wp P Q a w := by
  simp only [Region.lexTailB, Bool.and_eq_true, decide_eq_true_eq] at hB
  obtain ⟨⟨⟨⟨hns, hn⟩, hs⟩, hc⟩, hlex⟩ := hB
  have hn' : n < l.length := by simpa using hn
  have ht : (l.take n).length = n := by simp; omega
  have hd : (l.drop n).length = l.toArray.size - n := by simp
  have inv : HeadInv .any l.toArray n (Array.replicate l.toArray.size false) := by
    constructor
    · simp
    · intro j oj _ hl; rw [getD_replicate_false] at hl; cases hl
    · intro t _ ht; exact getD_in (by simpa using ht) (getD_replicate_false _ _)
  have H := HeadQ.lex (md := .any) (g := l.toArray.size - n) hns hs hc hn (l.take n) 0 _ a (fun j hj => by
    rw [ht] at hj
    simp [hj]) (by simpa using ht) inv (by rw [ht]; exact hlex) h
  refine wp_region_any hm ?_
  have := HeadQ.any (Q := Q) (g := l.toArray.size - n) (fun s a' w' hw' hL => by
    have := wpAny_of_seq (md := .any) (Q' := Q) (l.drop n) n s a' w' (fun j => by simp [List.getElem?_drop]) (by rw [hd]; exact hL.1) (hL.2 w' hw')
    rwa [hd] at this) _ _ _ _ hC H
  rwa [ht, show n + (l.toArray.size - n) = l.toArray.size by omega] at this
end
/-- the class: w with whatever count of draws, with blocks laid behind it -/
def Grew (w : World) (w' : World) : Prop := ∃ p : Regrown, w' = grow (redrawn w p.d) p.os
theorem grew_start (w : World) : ∃ p : Regrown, ({ w with drawn := w.drawn + 1 } : World) = grow (redrawn w p.d) p.os := ⟨⟨w.drawn + 1, #[]⟩, by rw [grow_empty]; rfl⟩
theorem region_below_tail {P : Program} {id : Nat} {Q : Exit → Act → World → Prop} {a : Act} {w : World} {l : List Oper} (n : Nat) (hm : P.follows .mixedOrders = true) (hB : Region.lexTailB .any l.toArray n = true)
    (h : wpQuiet P l.toArray (fun w' => ∃ p : Regrown, w' = grow (redrawn w p.d) p.os) (fun a' => ∀ w', (∃ p : Regrown, w' = grow (redrawn w p.d) p.os) → wpList P l.toArray Q (l.drop n) a' w') (l.take n) a) : (Code.region id l.toArray true).wp P Q a w :=
  region_qtail (C := fun w' => ∃ p : Regrown, w' = grow (redrawn w p.d) p.os) n hm hB (grew_start w) h
/-- a callee that lays blocks at most, met in a world of the class -/
theorem regrown_call {P : Program} {f : FuncId} {args : Array Value} {w : World} {d : Nat} {os : Array Obj} {v : Value}
    (h : Calls P f args (grow (redrawn w d) os) fun e w' => e = .returned v ∧ Below (grow (redrawn w d) os).heap.size (grow (redrawn w d) os) w') : Calls P f args (grow (redrawn w d) os) fun e w'' => e = .returned v ∧ ∃ p : Regrown, w'' = grow (redrawn w p.d) p.os := Calls.regrown_of h
/-- a callee that draws at most -/
theorem regrown_callN {P : Program} {f : FuncId} {args : Array Value} {w : World} {d : Nat} {os : Array Obj} {v : Value}
    (h : Calls P f args (grow (redrawn w d) os) fun e w' => e = .returned v ∧ ∃ n, w' = (grow (redrawn w d) os).drewN n) : Calls P f args (grow (redrawn w d) os) fun e w'' => e = .returned v ∧ ∃ p : Regrown, w'' = grow (redrawn w p.d) p.os :=
  regrown_call (h.mono fun e w' ⟨he, n, hn⟩ => ⟨he, by subst hn; exact ⟨rfl, rfl, rfl, Nat.le_refl _, fun _ _ => rfl⟩⟩)
end Go.Proofs.YthgcefppeaopkaaDoor
