/- A region that draws its order: some operations only read and may float; others come in a forced order; a tail follows in the text's order. -/
import Derived.Test.YtgcgilcalmefgaaReg
import Derived.Maps.AppendAt
namespace Go.Proofs.Ytgcgilcalmefgaa
open Go Go.RowKit Go.Sort
set_option linter.unusedVariables false
section
variable {P : Program} {ops : Array Oper} {md : Region.Mode} {S : World → Prop} {Q : Exit → Act → World → Prop}
def forcedT (md : Region.Mode) (ops : Array Oper) (g n : Nat) : List Nat → Array Bool → Bool
  | [], s => Region.seqB md ops g n s
  | e :: r, s => decide (e < n) && decide (Region.ready md ops s = [e]) && forcedT md ops g n r (s.setIfInBounds e true)
def leadsSeq (md : Region.Mode) (ops : Array Oper) (es : List Nat) (g n : Nat) : List Nat → Array Bool → Bool
  | [], s => forcedT md ops g n es s
  | k :: r, s => decide (k < n) && (Region.ready md ops s).contains k && Region.free md ops s k && leadsSeq md ops es g n r (s.setIfInBounds k true)
def leadsB (md : Region.Mode) (ops : Array Oper) (es : List Nat) (n : Nat) (ls : List Nat) : Bool :=
  Region.noSelect ops && decide (n < ops.size) && decide (ls.length + es.length = n) && Region.sinkB md ops n && Region.chainB md ops n && leadsSeq md ops es (ops.size - n) n ls (Array.replicate ops.size false)
theorem opsAt_mono3 {S : World → Prop} {J J' : Act → World → Prop} (hJ : ∀ a w, J a w → J' a w) : ∀ (os : List Oper) (a : Act) (w : World), opsAt P ops S J Q os a w → opsAt P ops S J' Q os a w
  | [], a, w, h => hJ a w h
  | o :: os, a, w, h => opAt_mono (fun a w hh => ⟨hh.1, opsAt_mono3 hJ os a w hh.2⟩) h
theorem HeadS.forced {g n : Nat} {tl : List Oper} :
    ∀ (es : List Nat) (oes : List Oper) (s : Array Bool) (a : Act) (w : World), es.map (ops[·]?) = oes.map some → forcedT md ops g n es s = true → S w →
      opsAt P ops S (fun a w => S w ∧ wpList P ops Q tl a w) Q oes a w →
      HeadS P md ops Q S n (fun s' a' w' => Region.seqB md ops g n s' = true ∧ wpList P ops Q tl a' w') es.length s a w := by
  intro es
  induction es with
  | nil =>
    intro oes s a w hos hB hS h
    obtain rfl : oes = [] := by cases oes with | nil => rfl | cons o r => simp at hos
    exact ⟨hB, h.2⟩
  | cons e r ih =>
    intro oes s a w hos hB hS h
    cases oes with
    | nil => simp at hos
    | cons o oes =>
      simp only [List.map_cons, List.cons.injEq] at hos
      simp only [forcedT, Bool.and_eq_true, decide_eq_true_eq] at hB
      obtain ⟨⟨hen, hr⟩, hB'⟩ := hB
      refine ⟨fun e0 => by rw [e0] at hr; simp at hr, fun i hi => ?_⟩
      rw [hr] at hi
      obtain rfl : i = e := by simpa using hi
      exact ⟨hen, wpOp_of_opAt hos.1 (opAt_mono (fun a1 w1 hh => ⟨hh.1, ih oes _ a1 w1 hos.2 hB' hh.1 hh.2⟩) h)⟩
theorem HeadS.leads {es : List Nat} {g n : Nat} {tl : List Oper} {oes : List Oper} (hoe : es.map (ops[·]?) = oes.map some) (hns : Region.noSelect ops = true) (hs : Region.sinkB md ops n = true) (hc : Region.chainB md ops n = true) (hn : n < ops.size)
    (hQ : ∀ d v c a w, Q (.panic c) (Act.put a d v) w → Q (.panic c) a w) :
    ∀ (ls : List Nat) (os : List Oper) (s : Array Bool) (a : Act) (w : World), ls.map (ops[·]?) = os.map some → HeadInv md ops n s → leadsSeq md ops es g n ls s = true → S w →
      wpReads P ops S (fun a' => ∀ J : Act → World → Prop, (∀ a'' w'', S w'' → wpList P ops Q tl a'' w'' → J a'' w'') → opsAt P ops S J Q oes a' w) os a →
      HeadS P md ops Q S n (fun s' a' w' => Region.seqB md ops g n s' = true ∧ wpList P ops Q tl a' w') (ls.length + es.length) s a w := by
  intro ls
  induction ls with
  | nil =>
    intro os s a w hos inv hB hS h
    obtain rfl : os = [] := by cases os with | nil => rfl | cons o r => simp at hos
    unfold wpReads at h
    rw [List.length_nil, Nat.zero_add]
    exact HeadS.forced es oes s a w hoe hB hS (h (fun a w => S w ∧ wpList P ops Q tl a w) (fun a'' w'' h1 h2 => ⟨h1, h2⟩))
  | cons k r ih =>
    intro os s a w hos inv hB hS h
    cases os with
    | nil => simp at hos
    | cons o os =>
      simp only [List.map_cons, List.cons.injEq] at hos
      simp only [leadsSeq, Bool.and_eq_true, decide_eq_true_eq] at hB
      obtain ⟨⟨⟨hkn, hr⟩, hf⟩, hB'⟩ := hB
      have hr' : k ∈ Region.ready md ops s := by simpa using hr
      rw [List.length_cons, show r.length + 1 + es.length = (r.length + es.length) + 1 by omega]
      unfold wpReads at h
      by_cases hw : Region.wanted o (yielded ops a.tmps) = true
      · rw [if_pos hw] at h
        obtain ⟨v, h1, h2⟩ := h
        exact HeadS.first hos.1 hns hs hc hn hkn (hQ _ _) (fun s' _ _ hL => seqB_ready hL.1) _ s a w inv (Region.free_spec hos.1 hf) hr' (Or.inl ⟨hw, h1⟩) hS
          (ih os _ _ w hos.2 (inv.set hr' hkn) hB' hS h2)
      · rw [if_neg hw] at h
        exact HeadS.first hos.1 hns hs hc hn hkn (hQ _ _) (fun s' _ _ hL => seqB_ready hL.1) _ s a w inv (Region.free_spec hos.1 hf) hr' (Or.inr ⟨by simpa using hw, rfl⟩) hS
          (ih os _ _ w hos.2 (inv.set hr' hkn) hB' hS h)
theorem region_leads {id : Nat} {a : Act} {w : World} {l : List Oper} (es : List Nat) (n : Nat) (ls : List Nat) (oes : List Oper) (os : List Oper) (hm : P.follows .mixedOrders = true) (hB : leadsB .any l.toArray es n ls = true)
    (hoe : es.map (l.toArray[·]?) = oes.map some) (hos : ls.map (l.toArray[·]?) = os.map some)
    (hQ : ∀ d v c a w, Q (.panic c) (Act.put a d v) w → Q (.panic c) a w) (hS : S w.drew)
    (h : wpReads P l.toArray S (fun a' => ∀ J : Act → World → Prop, (∀ a'' w'', S w'' → wpList P l.toArray Q (l.drop n) a'' w'' → J a'' w'') → opsAt P l.toArray S J Q oes a' w.drew) os a) : (Code.region id l.toArray true).wp P Q a w := by
  simp only [leadsB, Bool.and_eq_true, decide_eq_true_eq] at hB
  obtain ⟨⟨⟨⟨⟨hns, hn⟩, hlen⟩, hs⟩, hc⟩, hseq⟩ := hB
  have hd : (l.drop n).length = l.toArray.size - n := by simp
  have inv : HeadInv .any l.toArray n (Array.replicate l.toArray.size false) := by
    constructor
    · simp
    · intro j oj _ hl; rw [getD_replicate_false] at hl; cases hl
    · intro t _ ht; exact getD_in (by simpa using ht) (getD_replicate_false _ _)
  have H := HeadS.leads (md := .any) (g := l.toArray.size - n) (tl := l.drop n) hoe hns hs hc hn hQ ls os _ a _ hos inv hseq hS h
  refine wp_region_any hm ?_
  have := HeadS.any (Q := Q) (g := l.toArray.size - n) (fun s a' w' hL => by
    have := wpAny_of_seq (md := .any) (Q' := Q) (l.drop n) n s a' w' (fun j => by simp [List.getElem?_drop]) (by rw [hd]; exact hL.1) hL.2
    rwa [hd] at this) _ _ _ _ H
  rwa [hlen, show n + (l.toArray.size - n) = l.toArray.size by omega] at this
theorem opAt_value {o : Oper} {a : Act} {w w' : World} {J : Act → World → Prop} (v : Value) (hgd : o.guard = none) (hr : (execOp a.eval o).run P w = .ok (.value v) w') (h : J (a.put o.dst v) w') : opAt P ops o a w J Q := by
  have hw : Region.wanted o (yielded ops a.tmps) = true := by simp [Region.wanted, hgd]
  unfold opAt
  rw [if_pos hw]
  unfold Oper.wp
  simp only [hr]
  exact h
/-- append to a row of one's own, as an operation by itself -/
theorem opAt_append_own {o : Oper} {a : Act} {w : World} {J : Act → World → Prop} (hgd : o.guard = none) (s x : Operand) (t : TypeId)
    (ho : o.op = .call { callee := .builtin .append, args := #[s, x], argTypes := #[t, t] })
    (base : Nat) (e : TypeId) (i : TypeInfo) (z : Value) (size bytes : Nat) (ht : P.underlying t = some (.slice e)) (hi : P.info? e = some i) (hz : i.zero = some z)
    (hsize : i.size = size) (hby : i.bytes = bytes) (hzs : z.cells.size = size) (hsz : 0 < size)
    (v : Value) (n : Nat) (xs : List Value) (hs : a.eval s = v) (hown : w.ownsRow base e size v n xs)
    (ad : Addr) (m c : Nat) (news : List Value) (hx : a.eval x = .slice (some ad) m c) (hl : news.length = m * size) (hnews : ∀ j u, news[j]? = some u → w.cell? (ad.add j) = some u) (h1 : ∀ u ∈ news, u.oneCell' = true)
    (h63 : n + m ≤ maxLen) (hbytes : (n + m) * bytes ≤ 140737488355328) (hbase : base ≤ w.heap.size)
    (h : ∀ v' w', w'.ownsRow base e size v' (n + m) (xs ++ news) → w.grownBy w' v.ownBlock → (v' = .slice none 0 0 ↔ v = .slice none 0 0 ∧ m = 0) → (v'.ownBlock = v.ownBlock ∨ v'.ownBlock = some w.heap.size) → J (a.put o.dst v') w') :
    opAt P ops o a w J Q := by
  obtain ⟨v', w', hr, h2, h3, h4, h5⟩ := run_append_own_at (P := P) w base t o.type e i z size bytes ht hi hz hsize hby hzs hsz v n xs hown ad m c news hl hnews h1 h63 hbytes hbase
  have hw : Region.wanted o (yielded ops a.tmps) = true := by simp [Region.wanted, hgd]
  unfold opAt
  rw [if_pos hw]
  unfold Oper.wp execOp
  simp only [ho, resolve, invoke, builtin, Sem.run_bind, Sem.run_pure, Result.andThen_ok, List.map_toArray, List.map_cons, List.map_nil, hs, hx, hr]
  exact h v' w' h2 h3 h4 h5
end
end Go.Proofs.Ytgcgilcalmefgaa
