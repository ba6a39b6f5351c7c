/- A region that draws its order: some operations only read, one is carried out beside them, the others follow in a forced order. Those that read may be taken first. -/
import Derived.OrdersHeld
import Derived.Test.YthgcefppeaopkaaDoorReg
namespace Go.Proofs.YthgcefppeaopkaaDoor
open Go Go.RowKit Go.Sort
/-- the worlds that meet B, as a class that the walk's simp sees through -/
structure InB (B : World → Prop) where
  w : World
  ok : B w
def Meets (B : World → Prop) (w : World) : Prop := ∃ p : InB B, w = p.w
theorem meets_mk {B : World → Prop} {w : World} (h : B w) : Meets B w := ⟨⟨w, h⟩, rfl⟩
section
variable {P : Program} {ops : Array Oper} {md : Region.Mode} {S : World → Prop} {Q : Exit → Act → World → Prop} {n : Nat}
/-- the head, whatever order: each operation is one of the first n, and S holds behind it; then L -/
def HeadS (P : Program) (md : Region.Mode) (ops : Array Oper) (Q : Exit → Act → World → Prop) (S : World → Prop) (n : Nat) (L : Array Bool → Act → World → Prop) : Nat → Array Bool → Act → World → Prop
  | 0, s, a, w => L s a w
  | f + 1, s, a, w => Region.ready md ops s ≠ [] ∧ ∀ i ∈ Region.ready md ops s, i < n ∧ wpOp P ops Q i (fun a' w' => S w' ∧ HeadS P md ops Q S n L f (s.setIfInBounds i true) a' w') a w
theorem HeadS.any {g : Nat} {L : Array Bool → Act → World → Prop} (hL : ∀ s a w, L s a w → wpAny P md ops Q g s a w) :
    ∀ (f : Nat) (s : Array Bool) (a : Act) (w : World), HeadS P md ops Q S n L f s a w → wpAny P md ops Q (f + g) s a w := by
  intro f
  induction f with
  | zero => intro s a w h; rw [Nat.zero_add]; exact hL s a w h
  | succ f ih =>
    intro s a w h
    rw [show f + 1 + g = (f + g) + 1 by omega]
    exact ⟨fun e => absurd e h.1, fun i hi => wpOp_mono (fun a' w' h' => ih _ a' w' h'.2) (h.2 i hi).2⟩
theorem HeadS.first {i : Nat} {oi : Oper} {v : Value} {L : Array Bool → Act → World → Prop} (hi : ops[i]? = some oi) (hns : Region.noSelect ops = true)
    (hs : Region.sinkB md ops n = true) (hc : Region.chainB md ops n = true) (hn : n < ops.size) (hin : i < n)
    (hQ : ∀ c a w, Q (.panic c) (a.put oi.dst v) w → Q (.panic c) a w)
    (hL : ∀ s a w, L s a w → ∀ j ∈ Region.ready md ops s, n ≤ j) :
    ∀ (f : Nat) (s : Array Bool) (a : Act) (w : World), HeadInv md ops n s → Free md ops oi i s → i ∈ Region.ready md ops s → YieldsIf P ops S oi v a → S w →
      HeadS P md ops Q S n L f (s.setIfInBounds i true) (a.put oi.dst v) w → HeadS P md ops Q S n L (f + 1) s a w := by
  have sel := Region.noSelect_spec hns
  intro f
  induction f with
  | zero =>
    intro s a w inv _ hr hy hS H
    have un := (mem_ready.1 hr).1
    refine ⟨fun e => by simp [e] at hr, fun j hj => ?_⟩
    have jn : j < n := Nat.lt_of_not_le fun h => tail_waits hs hc hn inv _ i rfl hin un j h hj
    refine ⟨jn, ?_⟩
    rcases Nat.decEq j i with ne | rfl
    · exact absurd (hL _ _ _ H j (ready_mono hj ne)) (by omega)
    · exact hy.wpOp hi hS ⟨hS, H⟩
  | succ f ih =>
    intro s a w inv free hr hy hS H
    have un := (mem_ready.1 hr).1
    refine ⟨fun e => by simp [e] at hr, fun j hj => ?_⟩
    have jn : j < n := Nat.lt_of_not_le fun h => tail_waits hs hc hn inv _ i rfl hin un j h hj
    refine ⟨jn, ?_⟩
    rcases Nat.decEq j i with ne | rfl
    · obtain ⟨unj, oj, hoj, done⟩ := mem_ready.1 hj
      have no : ∀ e ∈ oj.after, Region.binds md e = true → e.on ≠ i := fun e he hb h => by
        have h1 := done e he hb
        rw [h, getD_both un] at h1
        cases h1
      have h2 := wpOp_putIf hoj (free j oj hoj ne unj no) (fun cs b => sel i oi cs b hi) (fun cs b => sel j oj cs b hoj) hQ hy (H.2 j (ready_mono hj ne)).2
      refine wpOp_mono (fun a' w' h3 => ⟨h3.2.1, ih _ a' w' (inv.set hj jn) (free.set unj) (ready_mono hr (Ne.symm ne)) h3.1 h3.2.1 ?_⟩) h2
      have h4 := h3.2.2
      rwa [Array.setIfInBounds_comm _ _ (Ne.symm ne)] at h4
    · exact hy.wpOp hi hS ⟨hS, H⟩
/-- those that read come first, number e then, the others in their order -/
def leadSeq (md : Region.Mode) (ops : Array Oper) (e g n : Nat) : List Nat → Array Bool → Bool
  | [], s => decide (Region.ready md ops s = [e]) && Region.seqB md ops g n (s.setIfInBounds e true)
  | k :: r, s => decide (k < n) && (Region.ready md ops s).contains k && Region.free md ops s k && leadSeq md ops e g n r (s.setIfInBounds k true)
def leadB (md : Region.Mode) (ops : Array Oper) (e n : Nat) (ls : List Nat) : Bool :=
  Region.noSelect ops && decide (n < ops.size) && decide (e < n) && decide (ls.length + 1 = n) && Region.sinkB md ops n && Region.chainB md ops n && leadSeq md ops e (ops.size - n) n ls (Array.replicate ops.size false)
/-- one that reads: the same value in every world of the class -/
def readsAs (P : Program) (o : Oper) (a : Act) (S : World → Prop) (K : Act → Prop) : Prop := ∃ v, (∀ w, S w → (execOp a.eval o).run P w = .ok (.value v) w) ∧ K (a.put o.dst v)
/-- the walk over those that read -/
def wpReads (P : Program) (ops : Array Oper) (S : World → Prop) (K : Act → Prop) : List Oper → Act → Prop
  | [], a => K a
  | o :: r, a => if Region.wanted o (yielded ops a.tmps) then readsAs P o a S (wpReads P ops S K r) else wpReads P ops S K r (a.put o.dst undef)
theorem wpReads_step {K : Act → Prop} {a : Act} {o : Oper} {r : List Oper}
    (h : ∀ J : Act → Prop, (∀ a, wpReads P ops S K r a → J a) → if Region.wanted o (yielded ops a.tmps) then readsAs P o a S J else J (a.put o.dst undef)) : wpReads P ops S K (o :: r) a := h _ (fun _ h => h)
theorem wpReads_nil {K : Act → Prop} {a : Act} (h : K a) : wpReads P ops S K [] a := h
theorem HeadS.lead {e g : Nat} {tl : List Oper} {oe : Oper} (hoe : ops[e]? = some oe) (hns : Region.noSelect ops = true) (hs : Region.sinkB md ops n = true) (hc : Region.chainB md ops n = true) (hn : n < ops.size) (hen : e < n)
    (hQ : ∀ d v c a w, Q (.panic c) (Act.put a d v) w → Q (.panic c) a w) :
    ∀ (ls : List Nat) (os : List Oper) (s : Array Bool) (a : Act) (w : World), ls.map (ops[·]?) = os.map some → HeadInv md ops n s → leadSeq md ops e g n ls s = true → S w →
      wpReads P ops S (fun a' => ∀ J : Act → World → Prop, (∀ a'' w'', S w'' → wpList P ops Q tl a'' w'' → J a'' w'') → if Region.wanted oe (yielded ops a'.tmps) then oe.wp P a' w J Q else J (a'.put oe.dst undef) w) os a →
      HeadS P md ops Q S n (fun s' a' w' => Region.seqB md ops g n s' = true ∧ wpList P ops Q tl a' w') (ls.length + 1) s a w := by
  intro ls
  induction ls with
  | nil =>
    intro os s a w hos inv hB hS h
    obtain rfl : os = [] := by cases os with | nil => rfl | cons o r => simp at hos
    simp only [leadSeq, Bool.and_eq_true, decide_eq_true_eq] at hB
    refine ⟨fun e0 => by rw [e0] at hB; simp at hB, fun i hi => ?_⟩
    rw [hB.1] at hi
    obtain rfl : i = e := by simpa using hi
    refine ⟨hen, ?_⟩
    unfold wpReads at h
    have h1 := h (fun a'' w'' => S w'' ∧ HeadS P md ops Q S n (fun s' a' w' => Region.seqB md ops g n s' = true ∧ wpList P ops Q tl a' w') 0 (s.setIfInBounds i true) a'' w'') (fun a'' w'' hs'' hw'' => ⟨hs'', hB.2, hw''⟩)
    unfold wpOp
    simp only [hoe]
    split
    · rename_i hw; rw [if_pos hw] at h1; exact Or.inl h1
    · rename_i hw; rw [if_neg hw] at h1; exact h1
  | cons k r ih =>
    intro os s a w hos inv hB hS h
    cases os with
    | nil => simp at hos
    | cons o os =>
      simp only [List.map_cons, List.cons.injEq] at hos
      simp only [leadSeq, Bool.and_eq_true, decide_eq_true_eq] at hB
      obtain ⟨⟨⟨hkn, hr⟩, hf⟩, hB'⟩ := hB
      have hr' : k ∈ Region.ready md ops s := by simpa using hr
      unfold wpReads at h
      by_cases hw : Region.wanted o (yielded ops a.tmps) = true
      · rw [if_pos hw] at h
        obtain ⟨v, h1, h2⟩ := h
        exact HeadS.first hos.1 hns hs hc hn hkn (hQ _ _) (fun s' _ _ hL => seqB_ready hL.1) _ s a w inv (Region.free_spec hos.1 hf) hr' (Or.inl ⟨hw, h1⟩) hS
          (ih os _ _ w hos.2 (inv.set hr' hkn) hB' hS h2)
      · rw [if_neg hw] at h
        exact HeadS.first hos.1 hns hs hc hn hkn (hQ _ _) (fun s' _ _ hL => seqB_ready hL.1) _ s a w inv (Region.free_spec hos.1 hf) hr' (Or.inr ⟨by simpa using hw, rfl⟩) hS
          (ih os _ _ w hos.2 (inv.set hr' hkn) hB' hS h)
theorem region_lead {id : Nat} {a : Act} {w : World} {l : List Oper} (e n : Nat) (ls : List Nat) (oe : Oper) (os : List Oper) (hm : P.follows .mixedOrders = true) (hB : leadB .any l.toArray e n ls = true)
    (hoe : l.toArray[e]? = some oe) (hos : ls.map (l.toArray[·]?) = os.map some)
    (hQ : ∀ d v c a w, Q (.panic c) (Act.put a d v) w → Q (.panic c) a w) (hS : S w.drew)
    (h : wpReads P l.toArray S (fun a' => ∀ J : Act → World → Prop, (∀ a'' w'', S w'' → wpList P l.toArray Q (l.drop n) a'' w'' → J a'' w'') →
      if Region.wanted oe (yielded l.toArray a'.tmps) then oe.wp P a' w.drew J Q else J (a'.put oe.dst undef) w.drew) os a) : (Code.region id l.toArray true).wp P Q a w := by
  simp only [leadB, Bool.and_eq_true, decide_eq_true_eq] at hB
  obtain ⟨⟨⟨⟨⟨⟨hns, hn⟩, hen⟩, hlen⟩, hs⟩, hc⟩, hseq⟩ := hB
  have hd : (l.drop n).length = l.toArray.size - n := by simp
  have inv : HeadInv .any l.toArray n (Array.replicate l.toArray.size false) := by
    constructor
    · simp
    · intro j oj _ hl; rw [getD_replicate_false] at hl; cases hl
    · intro t _ ht; exact getD_in (by simpa using ht) (getD_replicate_false _ _)
  have H := HeadS.lead (md := .any) (g := l.toArray.size - n) (tl := l.drop n) hoe hns hs hc hn hen hQ ls os _ a _ hos inv hseq hS h
  refine wp_region_any hm ?_
  have := HeadS.any (g := l.toArray.size - n) (fun s a' w' hL => by
    have := wpAny_of_seq (md := .any) (Q' := Q) (l.drop n) n s a' w' (fun j => by simp [List.getElem?_drop]) (by rw [hd]; exact hL.1) hL.2
    rwa [hd] at this) _ _ _ _ H
  rwa [hlen, show n + (l.toArray.size - n) = l.toArray.size by omega] at this
end
attribute [go_sem] readsAs Meets
end Go.Proofs.YthgcefppeaopkaaDoor
