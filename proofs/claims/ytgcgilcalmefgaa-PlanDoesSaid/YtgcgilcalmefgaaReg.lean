/- A region that draws its order: its head only reads, or calls what lays blocks at most; its tail is forced. One walk of the text's order serves every order. -/
import Derived.StillTail
import Derived.Lib.QuietBelow
import Derived.Calls
import Derived.Tactics
import Derived.OrdersHeld
namespace Go.Proofs.Ytgcgilcalmefgaa
open Go Go.RowKit Go.Sort
section
variable {P : Program} {ops : Array Oper} {md : Region.Mode} {C : World → Prop} {n : Nat}
/-- the head, whatever order: each operation is one of the first n, and quiet; then L -/
def HeadQ (P : Program) (md : Region.Mode) (ops : Array Oper) (C : World → Prop) (n : Nat) (L : Array Bool → Act → Prop) : Nat → Array Bool → Act → Prop
  | 0, s, a => L s a
  | f + 1, s, a => Region.ready md ops s ≠ [] ∧ ∀ i ∈ Region.ready md ops s, i < n ∧ qOp P ops C i (HeadQ P md ops C n L f (s.setIfInBounds i true)) a
theorem HeadQ.any {g : Nat} {L : Array Bool → Act → Prop} {Q : Exit → Act → World → Prop} (hL : ∀ s a w, C w → L s a → wpAny P md ops Q g s a w) :
    ∀ (f : Nat) (s : Array Bool) (a : Act) (w : World), C w → HeadQ P md ops C n L f s a → wpAny P md ops Q (f + g) s a w := by
  intro f
  induction f with
  | zero => intro s a w hw h; rw [Nat.zero_add]; exact hL s a w hw h
  | succ f ih =>
    intro s a w hw h
    rw [show f + 1 + g = (f + g) + 1 by omega]
    refine ⟨fun e => absurd e h.1, fun i hi => ?_⟩
    exact wpOp_of_qOp hw (fun a' w' hw' h' => ih _ a' w' hw' h') (h.2 i hi).2
/-- what is asked of the operations that may come up besides number i -/
def Free (md : Region.Mode) (ops : Array Oper) (oi : Oper) (i : Nat) (s : Array Bool) : Prop :=
  ∀ j oj, ops[j]? = some oj → j ≠ i → s.getD j true = false → (∀ e ∈ oj.after, Region.binds md e = true → e.on ≠ i) → oi.apart ops oj = true
theorem Free.set {oi : Oper} {i j : Nat} {s : Array Bool} (h : Free md ops oi i s) (hj : s.getD j true = false) : Free md ops oi i (s.setIfInBounds j true) := fun k ok hk hki hun hno => by
  by_cases e : j = k
  · subst e; exact h j ok hk hki hj hno
  · exact h k ok hk hki (by rwa [getD_set_ne true e] at hun) hno
theorem HeadQ.first {i : Nat} {oi : Oper} {v : Value} {L : Array Bool → Act → Prop} (hi : ops[i]? = some oi) (hns : Region.noSelect ops = true)
    (hs : Region.sinkB md ops n = true) (hc : Region.chainB md ops n = true) (hn : n < ops.size) (hin : i < n)
    (hL : ∀ s a, L s a → ∀ j ∈ Region.ready md ops s, n ≤ j) :
    ∀ (f : Nat) (s : Array Bool) (a : Act), HeadInv md ops n s → Free md ops oi i s → i ∈ Region.ready md ops s → YieldsIn P ops C oi v a →
      HeadQ P md ops C n L f (s.setIfInBounds i true) (a.put oi.dst v) → HeadQ P md ops C n L (f + 1) s a := by
  have sel := Region.noSelect_spec hns
  intro f
  induction f with
  | zero =>
    intro s a inv _ hr hy H
    have un := (mem_ready.1 hr).1
    refine ⟨fun e => by simp [e] at hr, fun j hj => ?_⟩
    have jn : j < n := Nat.lt_of_not_le fun h => tail_waits hs hc hn inv _ i rfl hin un j h hj
    refine ⟨jn, ?_⟩
    rcases Nat.decEq j i with ne | rfl
    · exact absurd (hL _ _ H j (ready_mono hj ne)) (by omega)
    · exact hy.qOp hi H
  | succ f ih =>
    intro s a inv free hr hy H
    have un := (mem_ready.1 hr).1
    refine ⟨fun e => by simp [e] at hr, fun j hj => ?_⟩
    have jn : j < n := Nat.lt_of_not_le fun h => tail_waits hs hc hn inv _ i rfl hin un j h hj
    refine ⟨jn, ?_⟩
    rcases Nat.decEq j i with ne | rfl
    · obtain ⟨unj, oj, hoj, done⟩ := mem_ready.1 hj
      have no : ∀ e ∈ oj.after, Region.binds md e = true → e.on ≠ i := fun e he hb h => by
        have h1 := done e he hb
        rw [h, getD_both un] at h1
        cases h1
      have h2 := qOp_put hoj (free j oj hoj ne unj no) (fun cs b => sel i oi cs b hi) (fun cs b => sel j oj cs b hoj) hy (H.2 j (ready_mono hj ne)).2
      refine qOp_mono (fun a' h3 => ih _ a' (inv.set hj jn) (free.set unj) (ready_mono hr (Ne.symm ne)) h3.1 ?_) h2
      have h4 := h3.2
      rwa [Array.setIfInBounds_comm _ _ (Ne.symm ne)] at h4
    · exact hy.qOp hi H
theorem HeadQ.lex {g : Nat} {K : Act → Prop} (hns : Region.noSelect ops = true) (hs : Region.sinkB md ops n = true) (hc : Region.chainB md ops n = true) (hn : n < ops.size) :
    ∀ (l : List Oper) (k : Nat) (s : Array Bool) (a : Act), (∀ j, j < l.length → l[j]? = ops[k + j]?) → k + l.length = n → HeadInv md ops n s →
      Region.lexHead md ops g l.length k s = true → wpQuiet P ops C K l a →
      HeadQ P md ops C n (fun s' a' => Region.seqB md ops g n s' = true ∧ K a') l.length s a := by
  intro l
  induction l with
  | nil =>
    intro k s a _ hk _ hB h
    obtain rfl : k = n := by simpa using hk
    exact ⟨by simpa [Region.lexHead] using hB, h⟩
  | cons o l ih =>
    intro k s a hl hk inv hB h
    have h0 : ops[k]? = some o := by simpa using (hl 0 (by simp)).symm
    have hk' : k + 1 + l.length = n := by simpa [Nat.add_assoc, Nat.add_comm 1] using hk
    simp only [List.length_cons, Region.lexHead, Bool.and_eq_true] at hB
    have hr : k ∈ Region.ready md ops s := by simpa using hB.1.1
    obtain ⟨v, hy, hK⟩ := yieldsIn_of_qOp h0 (show qOp P ops C k (wpQuiet P ops C K l) a by unfold qOp; simp only [h0]; exact h)
    refine HeadQ.first h0 hns hs hc hn (by omega) (fun s' _ hL => seqB_ready hL.1) l.length s a inv (Region.free_spec h0 hB.1.2) hr hy ?_
    refine ih (k + 1) _ _ (fun j hj => ?_) hk' (inv.set hr (by omega)) hB.2 hK
    have := hl (j + 1) (by simp; omega)
    simpa [Nat.add_assoc, Nat.add_comm 1 j] using this
/-- the region: its head quiet in the class, its tail walked in each world of the class -/
theorem region_qtail {id : Nat} {Q : Exit → Act → World → Prop} {a : Act} {w : World} {l : List Oper} (n : Nat) (hm : P.follows .mixedOrders = true) (hB : Region.lexTailB .any l.toArray n = true)
    (hC : C { w with drawn := w.drawn + 1 })
    (h : wpQuiet P l.toArray C (fun a' => ∀ w', C w' → wpList P l.toArray Q (l.drop n) a' w') (l.take n) a) : (Code.region id l.toArray true).wp P Q a w := by
  simp only [Region.lexTailB, Bool.and_eq_true, decide_eq_true_eq] at hB
  obtain ⟨⟨⟨⟨hns, hn⟩, hs⟩, hc⟩, hlex⟩ := hB
  have hn' : n < l.length := by simpa using hn
  have ht : (l.take n).length = n := by simp; omega
  have hd : (l.drop n).length = l.toArray.size - n := by simp
  have inv : HeadInv .any l.toArray n (Array.replicate l.toArray.size false) := by
    constructor
    · simp
    · intro j oj _ hl; rw [getD_replicate_false] at hl; cases hl
    · intro t _ ht; exact getD_in (by simpa using ht) (getD_replicate_false _ _)
  have H := HeadQ.lex (md := .any) (g := l.toArray.size - n) hns hs hc hn (l.take n) 0 _ a (fun j hj => by
    rw [ht] at hj
    simp [hj]) (by simpa using ht) inv (by rw [ht]; exact hlex) h
  refine wp_region_any hm ?_
  have := HeadQ.any (Q := Q) (g := l.toArray.size - n) (fun s a' w' hw' hL => by
    have := wpAny_of_seq (md := .any) (Q' := Q) (l.drop n) n s a' w' (fun j => by simp [List.getElem?_drop]) (by rw [hd]; exact hL.1) (hL.2 w' hw')
    rwa [hd] at this) _ _ _ _ hC H
  rwa [ht, show n + (l.toArray.size - n) = l.toArray.size by omega] at this
end
/-- the class: w with whatever count of draws, with blocks laid behind it -/
def Grew (w : World) (w' : World) : Prop := ∃ p : Regrown, w' = grow (redrawn w p.d) p.os
theorem grew_start (w : World) : ∃ p : Regrown, ({ w with drawn := w.drawn + 1 } : World) = grow (redrawn w p.d) p.os := ⟨⟨w.drawn + 1, #[]⟩, by rw [grow_empty]; rfl⟩
theorem region_below_tail {P : Program} {id : Nat} {Q : Exit → Act → World → Prop} {a : Act} {w : World} {l : List Oper} (n : Nat) (hm : P.follows .mixedOrders = true) (hB : Region.lexTailB .any l.toArray n = true)
    (h : wpQuiet P l.toArray (fun w' => ∃ p : Regrown, w' = grow (redrawn w p.d) p.os) (fun a' => ∀ w', (∃ p : Regrown, w' = grow (redrawn w p.d) p.os) → wpList P l.toArray Q (l.drop n) a' w') (l.take n) a) : (Code.region id l.toArray true).wp P Q a w :=
  region_qtail (C := fun w' => ∃ p : Regrown, w' = grow (redrawn w p.d) p.os) n hm hB (grew_start w) h
/-- a callee that lays blocks at most, met in a world of the class -/
theorem regrown_call {P : Program} {f : FuncId} {args : Array Value} {w : World} {d : Nat} {os : Array Obj} {v : Value}
    (h : Calls P f args (grow (redrawn w d) os) fun e w' => e = .returned v ∧ Below (grow (redrawn w d) os).heap.size (grow (redrawn w d) os) w') : Calls P f args (grow (redrawn w d) os) fun e w'' => e = .returned v ∧ ∃ p : Regrown, w'' = grow (redrawn w p.d) p.os := Calls.regrown_of h
/-- a callee that draws at most -/
theorem regrown_callN {P : Program} {f : FuncId} {args : Array Value} {w : World} {d : Nat} {os : Array Obj} {v : Value}
    (h : Calls P f args (grow (redrawn w d) os) fun e w' => e = .returned v ∧ ∃ n, w' = (grow (redrawn w d) os).drewN n) : Calls P f args (grow (redrawn w d) os) fun e w'' => e = .returned v ∧ ∃ p : Regrown, w'' = grow (redrawn w p.d) p.os :=
  regrown_call (h.mono fun e w' ⟨he, n, hn⟩ => ⟨he, by subst hn; exact ⟨rfl, rfl, rfl, Nat.le_refl _, fun _ _ => rfl⟩⟩)
/-- the worlds that meet B, as a class that the walk's simp sees through -/
structure InB (B : World → Prop) where
  w : World
  ok : B w
def Meets (B : World → Prop) (w : World) : Prop := ∃ p : InB B, w = p.w
theorem meets_mk {B : World → Prop} {w : World} (h : B w) : Meets B w := ⟨⟨w, h⟩, rfl⟩
section
variable {P : Program} {ops : Array Oper} {md : Region.Mode} {S : World → Prop} {Q : Exit → Act → World → Prop} {n : Nat}
/-- the head, whatever order: each operation is one of the first n, and S holds behind it; then L -/
def HeadS (P : Program) (md : Region.Mode) (ops : Array Oper) (Q : Exit → Act → World → Prop) (S : World → Prop) (n : Nat) (L : Array Bool → Act → World → Prop) : Nat → Array Bool → Act → World → Prop
  | 0, s, a, w => L s a w
  | f + 1, s, a, w => Region.ready md ops s ≠ [] ∧ ∀ i ∈ Region.ready md ops s, i < n ∧ wpOp P ops Q i (fun a' w' => S w' ∧ HeadS P md ops Q S n L f (s.setIfInBounds i true) a' w') a w
theorem HeadS.any {g : Nat} {L : Array Bool → Act → World → Prop} (hL : ∀ s a w, L s a w → wpAny P md ops Q g s a w) :
    ∀ (f : Nat) (s : Array Bool) (a : Act) (w : World), HeadS P md ops Q S n L f s a w → wpAny P md ops Q (f + g) s a w := by
  intro f
  induction f with
  | zero => intro s a w h; rw [Nat.zero_add]; exact hL s a w h
  | succ f ih =>
    intro s a w h
    rw [show f + 1 + g = (f + g) + 1 by omega]
    exact ⟨fun e => absurd e h.1, fun i hi => wpOp_mono (fun a' w' h' => ih _ a' w' h'.2) (h.2 i hi).2⟩
theorem HeadS.first {i : Nat} {oi : Oper} {v : Value} {L : Array Bool → Act → World → Prop} (hi : ops[i]? = some oi) (hns : Region.noSelect ops = true)
    (hs : Region.sinkB md ops n = true) (hc : Region.chainB md ops n = true) (hn : n < ops.size) (hin : i < n)
    (hQ : ∀ c a w, Q (.panic c) (a.put oi.dst v) w → Q (.panic c) a w)
    (hL : ∀ s a w, L s a w → ∀ j ∈ Region.ready md ops s, n ≤ j) :
    ∀ (f : Nat) (s : Array Bool) (a : Act) (w : World), HeadInv md ops n s → Free md ops oi i s → i ∈ Region.ready md ops s → YieldsIf P ops S oi v a → S w →
      HeadS P md ops Q S n L f (s.setIfInBounds i true) (a.put oi.dst v) w → HeadS P md ops Q S n L (f + 1) s a w := by
  have sel := Region.noSelect_spec hns
  intro f
  induction f with
  | zero =>
    intro s a w inv _ hr hy hS H
    have un := (mem_ready.1 hr).1
    refine ⟨fun e => by simp [e] at hr, fun j hj => ?_⟩
    have jn : j < n := Nat.lt_of_not_le fun h => tail_waits hs hc hn inv _ i rfl hin un j h hj
    refine ⟨jn, ?_⟩
    rcases Nat.decEq j i with ne | rfl
    · exact absurd (hL _ _ _ H j (ready_mono hj ne)) (by omega)
    · exact hy.wpOp hi hS ⟨hS, H⟩
  | succ f ih =>
    intro s a w inv free hr hy hS H
    have un := (mem_ready.1 hr).1
    refine ⟨fun e => by simp [e] at hr, fun j hj => ?_⟩
    have jn : j < n := Nat.lt_of_not_le fun h => tail_waits hs hc hn inv _ i rfl hin un j h hj
    refine ⟨jn, ?_⟩
    rcases Nat.decEq j i with ne | rfl
    · obtain ⟨unj, oj, hoj, done⟩ := mem_ready.1 hj
      have no : ∀ e ∈ oj.after, Region.binds md e = true → e.on ≠ i := fun e he hb h => by
        have h1 := done e he hb
        rw [h, getD_both un] at h1
        cases h1
      have h2 := wpOp_putIf hoj (free j oj hoj ne unj no) (fun cs b => sel i oi cs b hi) (fun cs b => sel j oj cs b hoj) hQ hy (H.2 j (ready_mono hj ne)).2
      refine wpOp_mono (fun a' w' h3 => ⟨h3.2.1, ih _ a' w' (inv.set hj jn) (free.set unj) (ready_mono hr (Ne.symm ne)) h3.1 h3.2.1 ?_⟩) h2
      have h4 := h3.2.2
      rwa [Array.setIfInBounds_comm _ _ (Ne.symm ne)] at h4
    · exact hy.wpOp hi hS ⟨hS, H⟩
/-- those that read come first, number e then, the others in their order -/
def leadSeq (md : Region.Mode) (ops : Array Oper) (e g n : Nat) : List Nat → Array Bool → Bool
  | [], s => decide (Region.ready md ops s = [e]) && Region.seqB md ops g n (s.setIfInBounds e true)
  | k :: r, s => decide (k < n) && (Region.ready md ops s).contains k && Region.free md ops s k && leadSeq md ops e g n r (s.setIfInBounds k true)
def leadB (md : Region.Mode) (ops : Array Oper) (e n : Nat) (ls : List Nat) : Bool :=
  Region.noSelect ops && decide (n < ops.size) && decide (e < n) && decide (ls.length + 1 = n) && Region.sinkB md ops n && Region.chainB md ops n && leadSeq md ops e (ops.size - n) n ls (Array.replicate ops.size false)
/-- one that reads: the same value in every world of the class -/
def readsAs (P : Program) (o : Oper) (a : Act) (S : World → Prop) (K : Act → Prop) : Prop := ∃ v, (∀ w, S w → (execOp a.eval o).run P w = .ok (.value v) w) ∧ K (a.put o.dst v)
/-- the walk over those that read -/
def wpReads (P : Program) (ops : Array Oper) (S : World → Prop) (K : Act → Prop) : List Oper → Act → Prop
  | [], a => K a
  | o :: r, a => if Region.wanted o (yielded ops a.tmps) then readsAs P o a S (wpReads P ops S K r) else wpReads P ops S K r (a.put o.dst undef)
theorem wpReads_step {K : Act → Prop} {a : Act} {o : Oper} {r : List Oper}
    (h : ∀ J : Act → Prop, (∀ a, wpReads P ops S K r a → J a) → if Region.wanted o (yielded ops a.tmps) then readsAs P o a S J else J (a.put o.dst undef)) : wpReads P ops S K (o :: r) a := h _ (fun _ h => h)
theorem wpReads_nil {K : Act → Prop} {a : Act} (h : K a) : wpReads P ops S K [] a := h
theorem HeadS.lead {e g : Nat} {tl : List Oper} {oe : Oper} (hoe : ops[e]? = some oe) (hns : Region.noSelect ops = true) (hs : Region.sinkB md ops n = true) (hc : Region.chainB md ops n = true) (hn : n < ops.size) (hen : e < n)
    (hQ : ∀ d v c a w, Q (.panic c) (Act.put a d v) w → Q (.panic c) a w) :
    ∀ (ls : List Nat) (os : List Oper) (s : Array Bool) (a : Act) (w : World), ls.map (ops[·]?) = os.map some → HeadInv md ops n s → leadSeq md ops e g n ls s = true → S w →
      wpReads P ops S (fun a' => ∀ J : Act → World → Prop, (∀ a'' w'', S w'' → wpList P ops Q tl a'' w'' → J a'' w'') → if Region.wanted oe (yielded ops a'.tmps) then oe.wp P a' w J Q else J (a'.put oe.dst undef) w) os a →
      HeadS P md ops Q S n (fun s' a' w' => Region.seqB md ops g n s' = true ∧ wpList P ops Q tl a' w') (ls.length + 1) s a w := by
  intro ls
  induction ls with
  | nil =>
    intro os s a w hos inv hB hS h
    obtain rfl : os = [] := by cases os with | nil => rfl | cons o r => simp at hos
    simp only [leadSeq, Bool.and_eq_true, decide_eq_true_eq] at hB
    refine ⟨fun e0 => by rw [e0] at hB; simp at hB, fun i hi => ?_⟩
    rw [hB.1] at hi
    obtain rfl : i = e := by simpa using hi
    refine ⟨hen, ?_⟩
    unfold wpReads at h
    have h1 := h (fun a'' w'' => S w'' ∧ HeadS P md ops Q S n (fun s' a' w' => Region.seqB md ops g n s' = true ∧ wpList P ops Q tl a' w') 0 (s.setIfInBounds i true) a'' w'') (fun a'' w'' hs'' hw'' => ⟨hs'', hB.2, hw''⟩)
    unfold wpOp
    simp only [hoe]
    split
    · rename_i hw; rw [if_pos hw] at h1; exact Or.inl h1
    · rename_i hw; rw [if_neg hw] at h1; exact h1
  | cons k r ih =>
    intro os s a w hos inv hB hS h
    cases os with
    | nil => simp at hos
    | cons o os =>
      simp only [List.map_cons, List.cons.injEq] at hos
      simp only [leadSeq, Bool.and_eq_true, decide_eq_true_eq] at hB
      obtain ⟨⟨⟨hkn, hr⟩, hf⟩, hB'⟩ := hB
      have hr' : k ∈ Region.ready md ops s := by simpa using hr
      unfold wpReads at h
      by_cases hw : Region.wanted o (yielded ops a.tmps) = true
      · rw [if_pos hw] at h
        obtain ⟨v, h1, h2⟩ := h
        exact HeadS.first hos.1 hns hs hc hn hkn (hQ _ _) (fun s' _ _ hL => seqB_ready hL.1) _ s a w inv (Region.free_spec hos.1 hf) hr' (Or.inl ⟨hw, h1⟩) hS
          (ih os _ _ w hos.2 (inv.set hr' hkn) hB' hS h2)
      · rw [if_neg hw] at h
        exact HeadS.first hos.1 hns hs hc hn hkn (hQ _ _) (fun s' _ _ hL => seqB_ready hL.1) _ s a w inv (Region.free_spec hos.1 hf) hr' (Or.inr ⟨by simpa using hw, rfl⟩) hS
          (ih os _ _ w hos.2 (inv.set hr' hkn) hB' hS h)
theorem region_lead {id : Nat} {a : Act} {w : World} {l : List Oper} (e n : Nat) (ls : List Nat) (oe : Oper) (os : List Oper) (hm : P.follows .mixedOrders = true) (hB : leadB .any l.toArray e n ls = true)
    (hoe : l.toArray[e]? = some oe) (hos : ls.map (l.toArray[·]?) = os.map some)
    (hQ : ∀ d v c a w, Q (.panic c) (Act.put a d v) w → Q (.panic c) a w) (hS : S w.drew)
    (h : wpReads P l.toArray S (fun a' => ∀ J : Act → World → Prop, (∀ a'' w'', S w'' → wpList P l.toArray Q (l.drop n) a'' w'' → J a'' w'') →
      if Region.wanted oe (yielded l.toArray a'.tmps) then oe.wp P a' w.drew J Q else J (a'.put oe.dst undef) w.drew) os a) : (Code.region id l.toArray true).wp P Q a w := by
  simp only [leadB, Bool.and_eq_true, decide_eq_true_eq] at hB
  obtain ⟨⟨⟨⟨⟨⟨hns, hn⟩, hen⟩, hlen⟩, hs⟩, hc⟩, hseq⟩ := hB
  have hd : (l.drop n).length = l.toArray.size - n := by simp
  have inv : HeadInv .any l.toArray n (Array.replicate l.toArray.size false) := by
    constructor
    · simp
    · intro j oj _ hl; rw [getD_replicate_false] at hl; cases hl
    · intro t _ ht; exact getD_in (by simpa using ht) (getD_replicate_false _ _)
  have H := HeadS.lead (md := .any) (g := l.toArray.size - n) (tl := l.drop n) hoe hns hs hc hn hen hQ ls os _ a _ hos inv hseq hS h
  refine wp_region_any hm ?_
  have := HeadS.any (g := l.toArray.size - n) (fun s a' w' hL => by
    have := wpAny_of_seq (md := .any) (Q' := Q) (l.drop n) n s a' w' (fun j => by simp [List.getElem?_drop]) (by rw [hd]; exact hL.1) hL.2
    rwa [hd] at this) _ _ _ _ H
  rwa [hlen, show n + (l.toArray.size - n) = l.toArray.size by omega] at this
end
attribute [go_sem] readsAs Meets
theorem below_grew {W V : World} (h : Below W.heap.size W V) (p : Regrown) : Below W.heap.size W (grow (redrawn V p.d) p.os) := h.trans ((below_regrown V p.d p.os).mono h.size)
section
variable {P : Program} {ops : Array Oper} {md : Region.Mode} {S C : World → Prop} {Q : Exit → Act → World → Prop}
theorem wpAnyH_of_quiet {K : Act → Prop} (hCS : ∀ w, C w → S w) (hQ : ∀ a w, C w → K a → Q .normal a w) : ∀ (fuel : Nat) (listed : Array Bool) (a : Act) (w : World), C w →
    wpAnyQ P md ops C K fuel listed a → wpAnyH P md ops Q S fuel listed a w
  | 0, _, _, _, hw, h => ⟨h.1, hQ _ _ hw h.2⟩
  | fuel + 1, _, _, _, hw, h => ⟨fun h0 => hQ _ _ hw (h.1 h0), fun i hi => wpOp_of_qOp hw (fun a' w' hw' h' => ⟨hCS _ hw', wpAnyH_of_quiet hCS hQ fuel _ a' w' hw' h'⟩) (h.2 i hi)⟩
/-- one operation, its guard asked -/
def opAt (P : Program) (ops : Array Oper) (o : Oper) (a : Act) (w : World) (J : Act → World → Prop) (Q : Exit → Act → World → Prop) : Prop :=
  if Region.wanted o (yielded ops a.tmps) then o.wp P a w J Q else J (a.put o.dst undef) w
theorem wpOp_of_opAt {i : Nat} {o : Oper} {a : Act} {w : World} {J : Act → World → Prop} (hi : ops[i]? = some o) (h : opAt P ops o a w J Q) : wpOp P ops Q i J a w := by
  unfold wpOp
  simp only [hi]
  unfold opAt at h
  split
  · rename_i hw; rw [if_pos hw] at h; exact Or.inl h
  · rename_i hw; rw [if_neg hw] at h; exact h
theorem opAt_mono {o : Oper} {a : Act} {w : World} {J J' : Act → World → Prop} (hJ : ∀ a w, J a w → J' a w) (h : opAt P ops o a w J Q) : opAt P ops o a w J' Q := by
  unfold opAt at *
  split
  · rename_i hw; rw [if_pos hw] at h; exact Oper.wp_mono hJ h
  · rename_i hw; rw [if_neg hw] at h; exact hJ _ _ h
/-- several, one behind the other; S holds behind each -/
def opsAt (P : Program) (ops : Array Oper) (S : World → Prop) (J : Act → World → Prop) (Q : Exit → Act → World → Prop) : List Oper → Act → World → Prop
  | [], a, w => J a w
  | o :: r, a, w => opAt P ops o a w (fun a1 w1 => S w1 ∧ opsAt P ops S J Q r a1 w1) Q
def forcedSeq (md : Region.Mode) (ops : Array Oper) (n g : Nat) : List Nat → Array Bool → Bool
  | [], s => Region.lexFrom md ops g n s
  | e :: r, s => decide (Region.ready md ops s = [e]) && forcedSeq md ops n g r (s.setIfInBounds e true)
def pairSeq (md : Region.Mode) (ops : Array Oper) (es : List Nat) (n g : Nat) : List Nat → Array Bool → Bool
  | [], s => forcedSeq md ops n g es s
  | k :: r, s => (Region.ready md ops s).contains k && Region.free md ops s k && pairSeq md ops es n g r (s.setIfInBounds k true)
def pairB (md : Region.Mode) (ops : Array Oper) (es : List Nat) (n : Nat) (ls : List Nat) : Bool :=
  Region.noSelect ops && decide (ls.length + es.length = n) && decide (n ≤ ops.size) && pairSeq md ops es n (ops.size - n) ls (Array.replicate ops.size false)
/-- what is asked behind the two -/
def PairEnd (P : Program) (l : List Oper) (n : Nat) (Q : Exit → Act → World → Prop) (a : Act) (w : World) : Prop :=
  wpQuiet P l.toArray (fun w' => ∃ p : Regrown, w' = grow (redrawn w p.d) p.os) (fun a' => ∀ w', (∃ p : Regrown, w' = grow (redrawn w p.d) p.os) → Q .normal a' w') (l.drop n) a
theorem grew_self (w : World) : ∃ p : Regrown, w = grow (redrawn w p.d) p.os := ⟨⟨w.drawn, #[]⟩, by rw [grow_empty]; rfl⟩
theorem forced_walk {l : List Oper} {n : Nat} (hns : Region.noSelect l.toArray = true) (hSG : ∀ w (p : Regrown), S w → S (grow (redrawn w p.d) p.os)) :
    ∀ (es : List Nat) (oes : List Oper) (s : Array Bool) (a : Act) (w : World), es.map (l.toArray[·]?) = oes.map some → forcedSeq md l.toArray n (l.length - n) es s = true → S w →
      (∀ J : Act → World → Prop, (∀ a'' w'', S w'' → PairEnd P l n Q a'' w'' → J a'' w'') → opsAt P l.toArray S J Q oes a w) →
      wpAnyH P md l.toArray Q S (es.length + (l.length - n)) s a w := by
  intro es
  induction es with
  | nil =>
    intro oes s a w hos hB hS h
    obtain rfl : oes = [] := by cases oes with | nil => rfl | cons o r => simp at hos
    have hd : (l.drop n).length = l.length - n := by simp
    rw [List.length_nil, Nat.zero_add]
    have he : S w ∧ PairEnd P l n Q a w := h (fun a w => S w ∧ PairEnd P l n Q a w) (fun a'' w'' h1 h2 => ⟨h1, h2⟩)
    have hq := wpAnyQ_lex (md := md) (C := fun w' => ∃ p : Regrown, w' = grow (redrawn w p.d) p.os) hns (l.drop n) n s a (fun j => by simp) (by rw [hd]; exact hB) he.2
    rw [hd] at hq
    exact wpAnyH_of_quiet (fun w' hw' => by obtain ⟨p, rfl⟩ := hw'; exact hSG _ p hS) (fun a w hw hK => hK w hw) _ _ _ _ (grew_self w) hq
  | cons e r ih =>
    intro oes s a w hos hB hS h
    cases oes with
    | nil => simp at hos
    | cons o oes =>
      simp only [List.map_cons, List.cons.injEq] at hos
      simp only [forcedSeq, Bool.and_eq_true, decide_eq_true_eq] at hB
      rw [List.length_cons, show r.length + 1 + (l.length - n) = (r.length + (l.length - n)) + 1 by omega]
      refine wpAnyH_all hB.1 (by simp) (fun i hi => ?_)
      obtain rfl : i = e := by simpa using hi
      refine wpOp_of_opAt hos.1 ?_
      have h0 := h (fun a w => S w ∧ PairEnd P l n Q a w) (fun a'' w'' h1 h2 => ⟨h1, h2⟩)
      refine opAt_mono (fun a1 w1 hh => ⟨hh.1, ih oes _ a1 w1 hos.2 hB.2 hh.1 (fun J hJ => ?_)⟩) h0
      have mono : ∀ (os : List Oper) (a : Act) (w : World), opsAt P l.toArray S (fun a w => S w ∧ PairEnd P l n Q a w) Q os a w → opsAt P l.toArray S J Q os a w := by
        intro os
        induction os with
        | nil => intro a w h; exact hJ a w h.1 h.2
        | cons o os ih2 => intro a w h; exact opAt_mono (fun a w hh => ⟨hh.1, ih2 a w hh.2⟩) h
      exact mono _ _ _ hh.2
theorem pair_lead {l : List Oper} {es : List Nat} {oes : List Oper} {n : Nat} (hoes : es.map (l.toArray[·]?) = oes.map some) (hns : Region.noSelect l.toArray = true)
    (hSG : ∀ w (p : Regrown), S w → S (grow (redrawn w p.d) p.os))
    (hQ : ∀ d v c a w, Q (.panic c) (Act.put a d v) w → Q (.panic c) a w) :
    ∀ (ls : List Nat) (os : List Oper) (s : Array Bool) (a : Act) (w : World), ls.map (l.toArray[·]?) = os.map some → pairSeq md l.toArray es n (l.length - n) ls s = true → S w →
      wpReads P l.toArray S (fun a' => ∀ J : Act → World → Prop, (∀ a'' w'', S w'' → PairEnd P l n Q a'' w'' → J a'' w'') → opsAt P l.toArray S J Q oes a' w) os a →
      wpAnyH P md l.toArray Q S (ls.length + (es.length + (l.length - n))) s a w := by
  intro ls
  induction ls with
  | nil =>
    intro os s a w hos hB hS h
    obtain rfl : os = [] := by cases os with | nil => rfl | cons o r => simp at hos
    rw [List.length_nil, Nat.zero_add]
    exact forced_walk hns hSG es oes s a w hoes hB hS h
  | cons k r ih =>
    intro os s a w hos hB hS h
    cases os with
    | nil => simp at hos
    | cons o os =>
      simp only [List.map_cons, List.cons.injEq] at hos
      simp only [pairSeq, Bool.and_eq_true] at hB
      obtain ⟨⟨hr, hf⟩, hB'⟩ := hB
      rw [List.length_cons, show r.length + 1 + (es.length + (l.length - n)) = (r.length + (es.length + (l.length - n))) + 1 by omega]
      unfold wpReads at h
      by_cases hw : Region.wanted o (yielded l.toArray a.tmps) = true
      · rw [if_pos hw] at h
        obtain ⟨v, h3, h4⟩ := h
        exact wpAnyH_take hos.1 hns hf hr (hQ _ _) (Or.inl ⟨hw, h3⟩) hS (ih os _ _ w hos.2 hB' hS h4)
      · rw [if_neg hw] at h
        exact wpAnyH_take hos.1 hns hf hr (hQ _ _) (Or.inr ⟨by simpa using hw, rfl⟩) hS (ih os _ _ w hos.2 hB' hS h)
theorem region_pair {id : Nat} {a : Act} {w : World} {l : List Oper} (ls es : List Nat) (n : Nat) (oes : List Oper) (os : List Oper) (hm : P.follows .mixedOrders = true) (hB : pairB .any l.toArray es n ls = true)
    (hoes : es.map (l.toArray[·]?) = oes.map some) (hos : ls.map (l.toArray[·]?) = os.map some)
    (hQ : ∀ d v c a w, Q (.panic c) (Act.put a d v) w → Q (.panic c) a w) (hSG : ∀ w (p : Regrown), S w → S (grow (redrawn w p.d) p.os)) (hS : S w.drew)
    (h : wpReads P l.toArray S (fun a' => ∀ J : Act → World → Prop, (∀ a'' w'', S w'' → PairEnd P l n Q a'' w'' → J a'' w'') → opsAt P l.toArray S J Q oes a' w.drew) os a) : (Code.region id l.toArray true).wp P Q a w := by
  simp only [pairB, Bool.and_eq_true, decide_eq_true_eq] at hB
  obtain ⟨⟨⟨hns, hlen⟩, hn⟩, hseq⟩ := hB
  have hsz : l.toArray.size = l.length := by simp
  rw [hsz] at hn hseq
  refine wp_region_held (S := S) hm ?_
  have := pair_lead (md := .any) hoes hns hSG hQ ls os _ a w.drew hos hseq hS h
  rw [show ls.length + (es.length + (l.length - n)) = l.toArray.size by rw [hsz]; omega] at this
  rw [hsz] at this ⊢
  exact this
end
attribute [go_sem] opAt opsAt
end Go.Proofs.Ytgcgilcalmefgaa
