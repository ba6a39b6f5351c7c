/- A region that draws its order: walked by a plan: what only reads is taken as soon as it may float; of the others each order that is left. -/
import Derived.Test.YtgcgilcalmefgaaReg
namespace Go.Proofs.Ytgcgilcalmefgaa
open Go Go.RowKit Go.Sort
set_option linter.unusedVariables false
/-- a plan: those that read, those that are forced, two in whichever order; at last the text's order -/
inductive Plan where
  | tail
  | read (k : Nat) (o : Oper) (p : Plan)
  | one (i : Nat) (o : Oper) (p : Plan)
  | two (i : Nat) (o : Oper) (p : Plan) (j : Nat) (u : Oper) (q : Plan)
def Plan.len : Plan → Nat
  | .tail => 0
  | .read _ _ p => p.len + 1
  | .one _ _ p => p.len + 1
  | .two _ _ p _ _ _ => p.len + 1
def Plan.opers (l : List Oper) : Plan → Prop
  | .tail => True
  | .read k o p => l.toArray[k]? = some o ∧ p.opers l
  | .one k o p => l.toArray[k]? = some o ∧ p.opers l
  | .two k o p j u q => l.toArray[k]? = some o ∧ l.toArray[j]? = some u ∧ p.opers l ∧ q.opers l
def Plan.fits (md : Region.Mode) (ops : Array Oper) (n g : Nat) : Plan → Array Bool → Bool
  | .tail, s => Region.lexFrom md ops g n s
  | .read k _ p, s => (Region.ready md ops s).contains k && Region.free md ops s k && p.fits md ops n g (s.setIfInBounds k true)
  | .one k _ p, s => decide (Region.ready md ops s = [k]) && p.fits md ops n g (s.setIfInBounds k true)
  | .two k _ p j _ q, s => decide (Region.ready md ops s = [k, j]) && decide (q.len = p.len) && p.fits md ops n g (s.setIfInBounds k true) && q.fits md ops n g (s.setIfInBounds j true)
section
variable {P : Program} {ops : Array Oper} {md : Region.Mode} {S : World → Prop} {Q : Exit → Act → World → Prop}
def planWp (P : Program) (ops : Array Oper) (S : World → Prop) (J : Act → World → Prop) (Q : Exit → Act → World → Prop) : Plan → Act → World → Prop
  | .tail, a, w => J a w
  | .read _ o p, a, w => if Region.wanted o (yielded ops a.tmps) then readsAs P o a S (fun a' => planWp P ops S J Q p a' w) else planWp P ops S J Q p (a.put o.dst undef) w
  | .one _ o p, a, w => opAt P ops o a w (fun a1 w1 => S w1 ∧ planWp P ops S J Q p a1 w1) Q
  | .two _ o p _ u q, a, w => opAt P ops o a w (fun a1 w1 => S w1 ∧ planWp P ops S J Q p a1 w1) Q ∧ opAt P ops u a w (fun a1 w1 => S w1 ∧ planWp P ops S J Q q a1 w1) Q
theorem planWp_read {J : Act → World → Prop} {k : Nat} {o : Oper} {p : Plan} {a : Act} {w : World} (h : ∀ K : Act → Prop, (∀ a, planWp P ops S J Q p a w → K a) → if Region.wanted o (yielded ops a.tmps) then readsAs P o a S K else K (a.put o.dst undef)) : planWp P ops S J Q (.read k o p) a w := h _ (fun _ h => h)
theorem planWp_one {J : Act → World → Prop} {k : Nat} {o : Oper} {p : Plan} {a : Act} {w : World} (h : opAt P ops o a w (fun a1 w1 => S w1 ∧ planWp P ops S J Q p a1 w1) Q) : planWp P ops S J Q (.one k o p) a w := h
theorem planWp_two {J : Act → World → Prop} {i j : Nat} {o u : Oper} {p q : Plan} {a : Act} {w : World} (h1 : planWp P ops S J Q (.one i o p) a w) (h2 : planWp P ops S J Q (.one j u q) a w) : planWp P ops S J Q (.two i o p j u q) a w := ⟨h1, h2⟩
theorem planWp_tail {J : Act → World → Prop} {a : Act} {w : World} (h : J a w) : planWp P ops S J Q .tail a w := h
theorem planWp_value {k : Nat} {p : Plan} {o : Oper} {a : Act} {w w' : World} {J : Act → World → Prop} (v : Value) (hgd : o.guard = none) (hr : (execOp a.eval o).run P w = .ok (.value v) w') (hS : S w') (h : planWp P ops S J Q p (a.put o.dst v) w') : planWp P ops S J Q (.one k o p) a w := by
  have hw : Region.wanted o (yielded ops a.tmps) = true := by simp [Region.wanted, hgd]
  unfold planWp opAt
  rw [if_pos hw]
  unfold Oper.wp
  simp only [hr]
  exact ⟨hS, h⟩
theorem planWp_skip {k : Nat} {p : Plan} {o : Oper} {a : Act} {w w' : World} {J : Act → World → Prop} (hgd : o.guard = none) (hr : (execOp a.eval o).run P w = .ok .skip w') (hS : S w') (h : planWp P ops S J Q p (a.put o.dst undef) w') : planWp P ops S J Q (.one k o p) a w := by
  have hw : Region.wanted o (yielded ops a.tmps) = true := by simp [Region.wanted, hgd]
  unfold planWp opAt
  rw [if_pos hw]
  unfold Oper.wp
  simp only [hr]
  exact ⟨hS, h⟩
theorem planWp_call {k : Nat} {p : Plan} {o : Oper} {a : Act} {w : World} {J : Act → World → Prop} (f : FuncId) (args : Array Value) (T : Ending → World → Prop) (hgd : o.guard = none) (hr : (execOp a.eval o).run P w = .ok (.enter f args) w) (hc : Calls P f args w T)
    (h : ∀ e w', T e w' → ∃ v, e = .returned v ∧ S w' ∧ planWp P ops S J Q p (a.put o.dst v) w') : planWp P ops S J Q (.one k o p) a w := by
  have hw : Region.wanted o (yielded ops a.tmps) = true := by simp [Region.wanted, hgd]
  unfold planWp opAt
  rw [if_pos hw]
  unfold Oper.wp
  simp only [hr, Oper.upon]
  refine hc.mono fun e w' ht => ?_
  obtain ⟨v, rfl, h1, h2⟩ := h e w' ht
  exact ⟨h1, h2⟩
theorem plan_walk {l : List Oper} {n : Nat} (hns : Region.noSelect l.toArray = true) (hSG : ∀ w (p : Regrown), S w → S (grow (redrawn w p.d) p.os)) (hQ : ∀ d v c a w, Q (.panic c) (Act.put a d v) w → Q (.panic c) a w) :
    ∀ (p : Plan) (s : Array Bool) (a : Act) (w : World), p.opers l → p.fits md l.toArray n (l.length - n) s = true → S w → planWp P l.toArray S (fun a w => S w ∧ PairEnd P l n Q a w) Q p a w →
      wpAnyH P md l.toArray Q S (p.len + (l.length - n)) s a w := by
  intro p
  induction p with
  | tail =>
    intro s a w _ hB hS h
    exact forced_walk hns hSG [] [] s a w rfl hB hS (fun J hJ => hJ a w h.1 h.2)
  | read k o p ih =>
    intro s a w ho hB hS h
    simp only [Plan.fits, Bool.and_eq_true] at hB
    obtain ⟨⟨hr, hf⟩, hB'⟩ := hB
    rw [Plan.len, show p.len + 1 + (l.length - n) = (p.len + (l.length - n)) + 1 by omega]
    unfold planWp at h
    by_cases hw : Region.wanted o (yielded l.toArray a.tmps) = true
    · rw [if_pos hw] at h
      obtain ⟨v, h3, h4⟩ := h
      exact wpAnyH_take ho.1 hns hf hr (hQ _ _) (Or.inl ⟨hw, h3⟩) hS (ih _ _ w ho.2 hB' hS h4)
    · rw [if_neg hw] at h
      exact wpAnyH_take ho.1 hns hf hr (hQ _ _) (Or.inr ⟨by simpa using hw, rfl⟩) hS (ih _ _ w ho.2 hB' hS h)
  | one k o p ih =>
    intro s a w ho hB hS h
    simp only [Plan.fits, Bool.and_eq_true, decide_eq_true_eq] at hB
    rw [Plan.len, show p.len + 1 + (l.length - n) = (p.len + (l.length - n)) + 1 by omega]
    refine wpAnyH_all hB.1 (by simp) (fun i hi => ?_)
    obtain rfl : i = k := by simpa using hi
    exact wpOp_of_opAt ho.1 (opAt_mono (fun a1 w1 hh => ⟨hh.1, ih _ a1 w1 ho.2 hB.2 hh.1 hh.2⟩) h)
  | two k o p j u q ih ih2 =>
    intro s a w ho hB hS h
    simp only [Plan.fits, Bool.and_eq_true, decide_eq_true_eq] at hB
    obtain ⟨⟨⟨hr, hl⟩, hB1⟩, hB2⟩ := hB
    obtain ⟨ho1, ho2, hp, hq⟩ := ho
    rw [Plan.len, show p.len + 1 + (l.length - n) = (p.len + (l.length - n)) + 1 by omega]
    refine wpAnyH_all hr (by simp) (fun i hi => ?_)
    rcases List.mem_cons.1 hi with rfl | hi
    · exact wpOp_of_opAt ho1 (opAt_mono (fun a1 w1 hh => ⟨hh.1, ih _ a1 w1 hp hB1 hh.1 hh.2⟩) h.1)
    · obtain rfl : i = j := by simpa using hi
      exact wpOp_of_opAt ho2 (opAt_mono (fun a1 w1 hh => ⟨hh.1, by have := ih2 _ a1 w1 hq hB2 hh.1 hh.2; rwa [hl] at this⟩) h.2)
theorem region_plan {id : Nat} {a : Act} {w : World} {l : List Oper} (p : Plan) (n : Nat) (hm : P.follows .mixedOrders = true) (hlen : decide (p.len + (l.length - n) = l.length) = true) (ho : p.opers l) (hns : Region.noSelect l.toArray = true)
    (hB : p.fits .any l.toArray n (l.length - n) (Array.replicate l.length false) = true)
    (hQ : ∀ d v c a w, Q (.panic c) (Act.put a d v) w → Q (.panic c) a w) (hSG : ∀ w (p : Regrown), S w → S (grow (redrawn w p.d) p.os)) (hS : S w.drew)
    (h : ∀ J : Act → World → Prop, (∀ a'' w'', S w'' → PairEnd P l n Q a'' w'' → J a'' w'') → planWp P l.toArray S J Q p a w.drew) : (Code.region id l.toArray true).wp P Q a w := by
  have hsz : l.toArray.size = l.length := by simp
  refine wp_region_held (S := S) hm ?_
  have := plan_walk (md := .any) hns hSG hQ p _ a w.drew ho hB hS (h _ (fun a'' w'' h1 h2 => ⟨h1, h2⟩))
  rw [of_decide_eq_true hlen] at this
  rw [hsz]
  exact this
def Plan.fitsT (md : Region.Mode) (ops : Array Oper) (n g : Nat) : Plan → Array Bool → Bool
  | .tail, s => Region.seqB md ops g n s
  | .read k _ p, s => decide (k < n) && (Region.ready md ops s).contains k && Region.free md ops s k && p.fitsT md ops n g (s.setIfInBounds k true)
  | .one k _ p, s => decide (k < n) && decide (Region.ready md ops s = [k]) && p.fitsT md ops n g (s.setIfInBounds k true)
  | .two k _ p j _ q, s => decide (k < n) && decide (j < n) && decide (Region.ready md ops s = [k, j]) && decide (q.len = p.len) && p.fitsT md ops n g (s.setIfInBounds k true) && q.fitsT md ops n g (s.setIfInBounds j true)
theorem HeadS.plan {g n : Nat} {l tl : List Oper} (hns : Region.noSelect l.toArray = true) (hs : Region.sinkB md l.toArray n = true) (hc : Region.chainB md l.toArray n = true) (hn : n < l.toArray.size) (hQ : ∀ d v c a w, Q (.panic c) (Act.put a d v) w → Q (.panic c) a w) :
    ∀ (p : Plan) (s : Array Bool) (a : Act) (w : World), p.opers l → p.fitsT md l.toArray n g s = true → HeadInv md l.toArray n s → S w → planWp P l.toArray S (fun a w => S w ∧ wpList P l.toArray Q tl a w) Q p a w →
      HeadS P md l.toArray Q S n (fun s' a' w' => Region.seqB md l.toArray g n s' = true ∧ wpList P l.toArray Q tl a' w') p.len s a w := by
  intro p
  induction p with
  | tail =>
    intro s a w _ hB _ _ h
    exact ⟨hB, h.2⟩
  | read k o p ih =>
    intro s a w ho hB inv hS h
    simp only [Plan.fitsT, Bool.and_eq_true, decide_eq_true_eq] at hB
    obtain ⟨⟨⟨hkn, hr⟩, hf⟩, hB'⟩ := hB
    have hr' : k ∈ Region.ready md l.toArray s := by simpa using hr
    unfold planWp at h
    by_cases hw : Region.wanted o (yielded l.toArray a.tmps) = true
    · rw [if_pos hw] at h
      obtain ⟨v, h3, h4⟩ := h
      exact HeadS.first ho.1 hns hs hc hn hkn (hQ _ _) (fun s' _ _ hL => seqB_ready hL.1) _ s a w inv (Region.free_spec ho.1 hf) hr' (Or.inl ⟨hw, h3⟩) hS (ih _ _ w ho.2 hB' (inv.set hr' hkn) hS h4)
    · rw [if_neg hw] at h
      exact HeadS.first ho.1 hns hs hc hn hkn (hQ _ _) (fun s' _ _ hL => seqB_ready hL.1) _ s a w inv (Region.free_spec ho.1 hf) hr' (Or.inr ⟨by simpa using hw, rfl⟩) hS (ih _ _ w ho.2 hB' (inv.set hr' hkn) hS h)
  | one k o p ih =>
    intro s a w ho hB inv hS h
    simp only [Plan.fitsT, Bool.and_eq_true, decide_eq_true_eq] at hB
    obtain ⟨⟨hkn, hr⟩, hB'⟩ := hB
    have hr' : k ∈ Region.ready md l.toArray s := by rw [hr]; simp
    refine ⟨fun e0 => by rw [e0] at hr; simp at hr, fun i hi => ?_⟩
    rw [hr] at hi
    obtain rfl : i = k := by simpa using hi
    exact ⟨hkn, wpOp_of_opAt ho.1 (opAt_mono (fun a1 w1 hh => ⟨hh.1, ih _ a1 w1 ho.2 hB' (inv.set hr' hkn) hh.1 hh.2⟩) h)⟩
  | two k o p j u q ih ih2 =>
    intro s a w ho hB inv hS h
    simp only [Plan.fitsT, Bool.and_eq_true, decide_eq_true_eq] at hB
    obtain ⟨⟨⟨⟨⟨hkn, hjn⟩, hr⟩, hl⟩, hB1⟩, hB2⟩ := hB
    obtain ⟨ho1, ho2, hp, hq⟩ := ho
    have hr1 : k ∈ Region.ready md l.toArray s := by rw [hr]; simp
    have hr2 : j ∈ Region.ready md l.toArray s := by rw [hr]; simp
    refine ⟨fun e0 => by rw [e0] at hr; simp at hr, fun i hi => ?_⟩
    rw [hr] at hi
    rcases List.mem_cons.1 hi with rfl | hi
    · exact ⟨hkn, wpOp_of_opAt ho1 (opAt_mono (fun a1 w1 hh => ⟨hh.1, ih _ a1 w1 hp hB1 (inv.set hr1 hkn) hh.1 hh.2⟩) h.1)⟩
    · obtain rfl : i = j := by simpa using hi
      exact ⟨hjn, wpOp_of_opAt ho2 (opAt_mono (fun a1 w1 hh => ⟨hh.1, by have := ih2 _ a1 w1 hq hB2 (inv.set hr2 hjn) hh.1 hh.2; rwa [hl] at this⟩) h.2)⟩
theorem region_planT {id : Nat} {a : Act} {w : World} {l : List Oper} (p : Plan) (n : Nat) (hm : P.follows .mixedOrders = true) (hlen : decide (p.len = n) && decide (n < l.length) = true) (ho : p.opers l) (hns : Region.noSelect l.toArray = true) (hs : Region.sinkB .any l.toArray n = true) (hc : Region.chainB .any l.toArray n = true)
    (hB : p.fitsT .any l.toArray n (l.length - n) (Array.replicate l.length false) = true)
    (hQ : ∀ d v c a w, Q (.panic c) (Act.put a d v) w → Q (.panic c) a w) (hS : S w.drew)
    (h : ∀ J : Act → World → Prop, (∀ a'' w'', S w'' → wpList P l.toArray Q (l.drop n) a'' w'' → J a'' w'') → planWp P l.toArray S J Q p a w.drew) : (Code.region id l.toArray true).wp P Q a w := by
  simp only [Bool.and_eq_true, decide_eq_true_eq] at hlen
  have hsz : l.toArray.size = l.length := by simp
  have hd : (l.drop n).length = l.toArray.size - n := by simp
  have inv : HeadInv .any l.toArray n (Array.replicate l.length false) := by
    constructor
    · simp
    · intro j oj _ hl; rw [getD_replicate_false] at hl; cases hl
    · intro t _ ht; exact getD_in (by simpa using ht) (getD_replicate_false _ _)
  have H := HeadS.plan (md := .any) (g := l.toArray.size - n) (tl := l.drop n) hns hs hc (by rw [hsz]; exact hlen.2) hQ p _ a _ ho (by rw [hsz]; exact hB) inv hS (h _ (fun a'' w'' h1 h2 => ⟨h1, h2⟩))
  refine wp_region_any hm ?_
  have := HeadS.any (Q := Q) (g := l.toArray.size - n) (fun s a' w' hL => by
    have := wpAny_of_seq (md := .any) (Q' := Q) (l.drop n) n s a' w' (fun j => by simp [List.getElem?_drop]) (by rw [hd]; exact hL.1) hL.2
    rwa [hd] at this) _ _ _ _ H
  rw [hlen.1, show n + (l.toArray.size - n) = l.toArray.size by omega] at this
  rw [hsz] at this ⊢
  exact this
end
end Go.Proofs.Ytgcgilcalmefgaa
