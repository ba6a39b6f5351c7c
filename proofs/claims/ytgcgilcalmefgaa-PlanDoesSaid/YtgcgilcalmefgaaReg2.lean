/- A region that draws its order: some operations only read; two lay memory, in whichever order; others follow in a forced order; what follows is quiet. -/
import Derived.Test.YtgcgilcalmefgaaReg
namespace Go.Proofs.Ytgcgilcalmefgaa
open Go Go.RowKit Go.Sort
set_option linter.unusedVariables false
section
variable {P : Program} {ops : Array Oper} {md : Region.Mode} {S C : World → Prop} {Q : Exit → Act → World → Prop}
/-- two in whichever order, then those of es -/
def twoSeq (md : Region.Mode) (ops : Array Oper) (e1 e2 : Nat) (es : List Nat) (n g : Nat) : List Nat → Array Bool → Bool
  | [], s => decide (Region.ready md ops s = [e1, e2]) && decide (Region.ready md ops (s.setIfInBounds e1 true) = [e2]) && decide (Region.ready md ops (s.setIfInBounds e2 true) = [e1]) && forcedSeq md ops n g es ((s.setIfInBounds e1 true).setIfInBounds e2 true)
  | k :: r, s => (Region.ready md ops s).contains k && Region.free md ops s k && twoSeq md ops e1 e2 es n g r (s.setIfInBounds k true)
def twoB (md : Region.Mode) (ops : Array Oper) (e1 e2 : Nat) (es : List Nat) (n : Nat) (ls : List Nat) : Bool :=
  Region.noSelect ops && decide (e1 ≠ e2) && decide (ls.length + (2 + es.length) = n) && decide (n ≤ ops.size) && twoSeq md ops e1 e2 es n (ops.size - n) ls (Array.replicate ops.size false)
theorem opsAt_mono {S : World → Prop} {J J' : Act → World → Prop} (hJ : ∀ a w, J a w → J' a w) : ∀ (os : List Oper) (a : Act) (w : World), opsAt P ops S J Q os a w → opsAt P ops S J' Q os a w
  | [], a, w, h => hJ a w h
  | o :: os, a, w, h => opAt_mono (fun a w hh => ⟨hh.1, opsAt_mono hJ os a w hh.2⟩) h
theorem two_lead {l : List Oper} {e1 e2 : Nat} {oe1 oe2 : Oper} {es : List Nat} {oes : List Oper} {n : Nat} (h1 : l.toArray[e1]? = some oe1) (h2 : l.toArray[e2]? = some oe2) (hne : e1 ≠ e2) (hoes : es.map (l.toArray[·]?) = oes.map some) (hns : Region.noSelect l.toArray = true)
    (hSG : ∀ w (p : Regrown), S w → S (grow (redrawn w p.d) p.os))
    (hQ : ∀ d v c a w, Q (.panic c) (Act.put a d v) w → Q (.panic c) a w) :
    ∀ (ls : List Nat) (os : List Oper) (s : Array Bool) (a : Act) (w : World), ls.map (l.toArray[·]?) = os.map some → twoSeq md l.toArray e1 e2 es n (l.length - n) ls s = true → S w →
      wpReads P l.toArray S (fun a' => ∀ J : Act → World → Prop, (∀ a'' w'', S w'' → PairEnd P l n Q a'' w'' → J a'' w'') →
        opsAt P l.toArray S J Q (oe1 :: oe2 :: oes) a' w ∧ opsAt P l.toArray S J Q (oe2 :: oe1 :: oes) a' w) os a →
      wpAnyH P md l.toArray Q S (ls.length + (2 + (es.length + (l.length - n)))) s a w := by
  intro ls
  induction ls with
  | nil =>
    intro os s a w hos hB hS h
    obtain rfl : os = [] := by cases os with | nil => rfl | cons o r => simp at hos
    simp only [twoSeq, Bool.and_eq_true, decide_eq_true_eq] at hB
    obtain ⟨⟨⟨hr0, hr1⟩, hr2⟩, hF⟩ := hB
    rw [List.length_nil, Nat.zero_add, show 2 + (es.length + (l.length - n)) = ((es.length + (l.length - n)) + 1) + 1 by omega]
    unfold wpReads at h
    have h0 := h (fun a w => S w ∧ PairEnd P l n Q a w) (fun a'' w'' h1 h2 => ⟨h1, h2⟩)
    refine wpAnyH_all hr0 (by simp) (fun i hi => ?_)
    rcases List.mem_cons.1 hi with rfl | hi
    · refine wpOp_of_opAt h1 (opAt_mono (fun a1 w1 hh => ⟨hh.1, ?_⟩) h0.1)
      refine wpAnyH_all hr1 (by simp) (fun j hj => ?_)
      obtain rfl : j = e2 := by simpa using hj
      refine wpOp_of_opAt h2 (opAt_mono (fun a2 w2 hh2 => ⟨hh2.1, ?_⟩) hh.2)
      exact forced_walk hns hSG es oes _ a2 w2 hoes hF hh2.1 (fun J hJ => opsAt_mono (fun a w hw => hJ a w hw.1 hw.2) _ _ _ hh2.2)
    · obtain rfl : i = e2 := by simpa using hi
      refine wpOp_of_opAt h2 (opAt_mono (fun a1 w1 hh => ⟨hh.1, ?_⟩) h0.2)
      refine wpAnyH_all hr2 (by simp) (fun j hj => ?_)
      obtain rfl : j = e1 := by simpa using hj
      refine wpOp_of_opAt h1 (opAt_mono (fun a2 w2 hh2 => ⟨hh2.1, ?_⟩) hh.2)
      rw [Array.setIfInBounds_comm _ _ (Ne.symm hne)]
      exact forced_walk hns hSG es oes _ a2 w2 hoes hF hh2.1 (fun J hJ => opsAt_mono (fun a w hw => hJ a w hw.1 hw.2) _ _ _ hh2.2)
  | cons k r ih =>
    intro os s a w hos hB hS h
    cases os with
    | nil => simp at hos
    | cons o os =>
      simp only [List.map_cons, List.cons.injEq] at hos
      simp only [twoSeq, Bool.and_eq_true] at hB
      obtain ⟨⟨hr, hf⟩, hB'⟩ := hB
      rw [List.length_cons, show r.length + 1 + (2 + (es.length + (l.length - n))) = (r.length + (2 + (es.length + (l.length - n)))) + 1 by omega]
      unfold wpReads at h
      by_cases hw : Region.wanted o (yielded l.toArray a.tmps) = true
      · rw [if_pos hw] at h
        obtain ⟨v, h3, h4⟩ := h
        exact wpAnyH_take hos.1 hns hf hr (hQ _ _) (Or.inl ⟨hw, h3⟩) hS (ih os _ _ w hos.2 hB' hS h4)
      · rw [if_neg hw] at h
        exact wpAnyH_take hos.1 hns hf hr (hQ _ _) (Or.inr ⟨by simpa using hw, rfl⟩) hS (ih os _ _ w hos.2 hB' hS h)
theorem region_two {id : Nat} {a : Act} {w : World} {l : List Oper} (ls : List Nat) (e1 e2 : Nat) (es : List Nat) (n : Nat) (oe1 oe2 : Oper) (oes : List Oper) (os : List Oper) (hm : P.follows .mixedOrders = true) (hB : twoB .any l.toArray e1 e2 es n ls = true)
    (h1 : l.toArray[e1]? = some oe1) (h2 : l.toArray[e2]? = some oe2) (hoes : es.map (l.toArray[·]?) = oes.map some) (hos : ls.map (l.toArray[·]?) = os.map some)
    (hQ : ∀ d v c a w, Q (.panic c) (Act.put a d v) w → Q (.panic c) a w) (hSG : ∀ w (p : Regrown), S w → S (grow (redrawn w p.d) p.os)) (hS : S w.drew)
    (h : wpReads P l.toArray S (fun a' => ∀ J : Act → World → Prop, (∀ a'' w'', S w'' → PairEnd P l n Q a'' w'' → J a'' w'') →
        opsAt P l.toArray S J Q (oe1 :: oe2 :: oes) a' w.drew ∧ opsAt P l.toArray S J Q (oe2 :: oe1 :: oes) a' w.drew) os a) : (Code.region id l.toArray true).wp P Q a w := by
  simp only [twoB, Bool.and_eq_true, decide_eq_true_eq] at hB
  obtain ⟨⟨⟨⟨hns, hne⟩, hlen⟩, hn⟩, hseq⟩ := hB
  have hsz : l.toArray.size = l.length := by simp
  rw [hsz] at hn hseq
  refine wp_region_held (S := S) hm ?_
  have := two_lead (md := .any) h1 h2 hne hoes hns hSG hQ ls os _ a w.drew hos hseq hS h
  rw [show ls.length + (2 + (es.length + (l.length - n))) = l.toArray.size by rw [hsz]; omega] at this
  rw [hsz] at this ⊢
  exact this
end
end Go.Proofs.Ytgcgilcalmefgaa
