/- How great a parsed tree is: plain. -/
import Derived.Test.YthgcefppeaopkaaDoorRegexQ
namespace Go.Proofs.YthgcefppeaopkaaDoor
open Go
mutual
/-- how many nodes -/
def Node.size : Node → Nat
  | .mk _ _ kids _ _ => 1 + Node.sizes kids
def Node.sizes : List Node → Nat
  | [] => 0
  | n :: r => Node.size n + Node.sizes r
end
theorem Node.size_eq (n : Node) : n.size = 1 + Node.sizes n.kids := by cases n; unfold Node.size; rfl
theorem Node.size_pos (n : Node) : 1 ≤ n.size := by rw [Node.size_eq]; omega
theorem Node.sizes_nil : Node.sizes [] = 0 := by unfold Node.sizes; rfl
theorem Node.sizes_cons (n : Node) (r : List Node) : Node.sizes (n :: r) = n.size + Node.sizes r := by conv => lhs; unfold Node.sizes
theorem Node.sizes_append (a b : List Node) : Node.sizes (a ++ b) = Node.sizes a + Node.sizes b := by
  induction a with
  | nil => rw [List.nil_append, Node.sizes_nil]; omega
  | cons n r ih => rw [List.cons_append, Node.sizes_cons, Node.sizes_cons, ih]; omega
theorem Node.length_le_sizes (a : List Node) : a.length ≤ Node.sizes a := by
  induction a with
  | nil => simp
  | cons n r ih => rw [Node.sizes_cons, List.length_cons]; have := n.size_pos; omega
theorem Node.kids_le (n : Node) : n.kids.length ≤ n.size := by have := Node.length_le_sizes n.kids; rw [Node.size_eq]; omega
namespace Rx
theorem flat_append (k : Int) (a b : List Node) : flat k (a ++ b) = flat k a ++ flat k b := by
  induction a with
  | nil => rfl
  | cons n r ih => simp only [List.cons_append, flat]; split <;> simp [ih]
theorem flat_one (k : Int) (n : Node) : flat k [n] = if n.kind = k then n.kids else [n] := by
  simp only [flat]; split <;> simp
theorem flat_sizes (k : Int) (a : List Node) : Node.sizes (flat k a) ≤ Node.sizes a := by
  induction a with
  | nil => simp [flat]
  | cons n r ih =>
    simp only [flat]
    split
    · rw [Node.sizes_append, Node.sizes_cons, Node.size_eq]; omega
    · rw [Node.sizes_cons, Node.sizes_cons]; omega
theorem join_size (k : Int) (a : List Node) : (join k a).size ≤ 1 + Node.sizes a := by
  have h := flat_sizes k a
  unfold join
  split
  · rename_i n e
    rw [e, Node.sizes_cons, Node.sizes_nil] at h
    omega
  · rw [Node.size_eq]; show 1 + Node.sizes (flat k a) ≤ _; omega
/-- a reader's tree is no greater than its text -/
def Lean2 (l : List UInt8) (f : Nat → Res Node) : Prop := ∀ i n p, i ≤ l.length → f i = .ok n p → n.size ≤ 2 * (p - i)
section
variable {l : List UInt8} {atm : Nat → Res Node}
theorem size_piece (ha : Lean2 l atm) (hf : ∀ i, i ≤ l.length → Fine l i (atm i)) : Lean2 l (piece l atm) := by
  intro i n p hi h
  unfold piece at h
  cases hr : atm i with
  | bad e q => rw [hr] at h; cases h
  | out => rw [hr] at h; cases h
  | ok m q =>
    rw [hr] at h
    have h1 := ha i m q hi hr
    have h2 := hf i hi
    rw [hr] at h2
    have h3 : i < q ∧ q ≤ l.length := h2
    have hs : ∀ a b, (rep m a b).size = m.size + 1 := fun a b => by
      rw [Node.size_eq]; show 1 + Node.sizes [m] = _; rw [Node.sizes_cons, Node.sizes_nil]; omega
    dsimp only at h
    split at h
    · obtain ⟨rfl, rfl⟩ := Res.ok.inj h; rw [hs]; omega
    · split at h
      · obtain ⟨rfl, rfl⟩ := Res.ok.inj h; rw [hs]; omega
      · split at h
        · obtain ⟨rfl, rfl⟩ := Res.ok.inj h; rw [hs]; omega
        · split at h
          · rename_i hc
            have hp := pk_in (l := l) (i := q) (by rw [hc]; decide)
            have h4 := fine_brc l (q + 1) hp
            cases hq : brc l (q + 1) with
            | bad e r => rw [hq] at h; cases h
            | out => rw [hq] at h; cases h
            | ok a r =>
              rw [hq] at h h4
              obtain ⟨lo, hi'⟩ := a
              have h5 : q + 1 < r ∧ r ≤ l.length := h4
              dsimp only at h
              split at h
              · obtain ⟨rfl, rfl⟩ := Res.ok.inj h; rw [hs]; omega
              · unfold other at h; split at h <;> cases h
          · obtain ⟨rfl, rfl⟩ := Res.ok.inj h; exact h1
theorem size_pieces (ha : Lean2 l atm) (hf : ∀ i, i ≤ l.length → Fine l i (atm i)) : ∀ (f : Nat) (ns : List Node) (i : Nat) (ms : List Node) (p : Nat), i ≤ l.length → pieces l atm f ns i = .ok ms p → Node.sizes ms ≤ Node.sizes ns + 2 * (p - i) ∧ i ≤ p
  | 0, ns, i, ms, p, hi, h => by simp [pieces] at h
  | f + 1, ns, i, ms, p, hi, h => by
    unfold pieces at h
    split at h
    · obtain ⟨rfl, rfl⟩ := Res.ok.inj h; omega
    · cases hr : piece l atm i with
      | bad e q => rw [hr] at h; cases h
      | out => rw [hr] at h; cases h
      | ok m q =>
        rw [hr] at h
        have h1 := size_piece ha hf i m q hi hr
        have h2 := fine_piece l atm i (hf i hi)
        rw [hr] at h2
        have h3 : i < q ∧ q ≤ l.length := h2
        have h4 := size_pieces ha hf f (ns ++ [m]) q ms p h3.2 h
        rw [Node.sizes_append, Node.sizes_cons, Node.sizes_nil] at h4
        omega
theorem size_cat (ha : Lean2 l atm) (hf : ∀ i, i ≤ l.length → Fine l i (atm i)) {i p : Nat} {n : Node} (hi : i ≤ l.length) (h : cat l atm i = .ok n p) : n.size ≤ 2 * (p - i) + 1 := by
  unfold cat at h
  cases hr : pieces l atm (l.length + 1) [] i with
  | bad e q => rw [hr] at h; cases h
  | out => rw [hr] at h; cases h
  | ok ms q =>
    rw [hr] at h
    obtain ⟨rfl, rfl⟩ := Res.ok.inj h
    have h1 := size_pieces ha hf _ _ _ _ _ hi hr
    rw [Node.sizes_nil] at h1
    have := join_size 2 ms
    omega
theorem size_cats (ha : Lean2 l atm) (hf : ∀ i, i ≤ l.length → Fine l i (atm i)) : ∀ (f : Nat) (ns : List Node) (i : Nat) (ms : List Node) (p : Nat), i ≤ l.length → cats l atm f ns i = .ok ms p →
    (ms = ns ∧ p = i) ∨ (2 ≤ ms.length ∨ ns = []) ∧ Node.sizes ms + 1 ≤ Node.sizes ns + 2 * (p - i) ∧ i ≤ p
  | 0, ns, i, ms, p, hi, h => by simp [cats] at h
  | f + 1, ns, i, ms, p, hi, h => by
    unfold cats at h
    split at h
    · rename_i hc
      have hp := pk_in (l := l) (i := i) (by rw [hc]; decide)
      cases hr : cat l atm (i + 1) with
      | bad e q => rw [hr] at h; cases h
      | out => rw [hr] at h; cases h
      | ok m q =>
        rw [hr] at h
        have h1 := size_cat ha hf hp hr
        have h2 := fine_cat l atm hf (i + 1) hp
        rw [hr] at h2
        have h3 : i + 1 ≤ q ∧ q ≤ l.length := h2
        have h4 := size_cats ha hf f (ns ++ [m]) q ms p h3.2 h
        rw [Node.sizes_append, Node.sizes_cons, Node.sizes_nil] at h4
        refine Or.inr ?_
        rcases h4 with ⟨rfl, rfl⟩ | ⟨h5, h6⟩
        · refine ⟨?_, ?_⟩
          · cases ns with
            | nil => exact Or.inr rfl
            | cons a r => exact Or.inl (by simp)
          · rw [Node.sizes_append, Node.sizes_cons, Node.sizes_nil]; omega
        · refine ⟨?_, by omega⟩
          rcases h5 with h5 | h5
          · exact Or.inl h5
          · simp at h5
    · obtain ⟨rfl, rfl⟩ := Res.ok.inj h; exact Or.inl ⟨rfl, rfl⟩
theorem size_alt (ha : Lean2 l atm) (hf : ∀ i, i ≤ l.length → Fine l i (atm i)) {i p : Nat} {n : Node} (hi : i ≤ l.length) (h : alt l atm i = .ok n p) : n.size ≤ 2 * (p - i) + 1 := by
  unfold alt at h
  cases hr : cat l atm i with
  | bad e q => rw [hr] at h; cases h
  | out => rw [hr] at h; cases h
  | ok m q =>
    rw [hr] at h
    have h1 := size_cat ha hf hi hr
    have h2 := fine_cat l atm hf i hi
    rw [hr] at h2
    have h3 : i ≤ q ∧ q ≤ l.length := h2
    dsimp only at h
    cases hq : cats l atm (l.length + 1) [m] q with
    | bad e r => rw [hq] at h; cases h
    | out => rw [hq] at h; cases h
    | ok ms r =>
      rw [hq] at h
      have h4 := size_cats ha hf _ _ _ _ _ h3.2 hq
      rw [Node.sizes_cons, Node.sizes_nil] at h4
      split at h
      · rename_i e
        obtain ⟨rfl, rfl⟩ := Res.ok.inj e
        obtain ⟨rfl, rfl⟩ := Res.ok.inj h
        rcases h4 with ⟨h5, rfl⟩ | ⟨h5, h6, h7⟩
        · simp at h5; subst h5; exact h1
        · simp at h5
      · rename_i e
        obtain ⟨rfl, rfl⟩ := Res.ok.inj e
        obtain ⟨rfl, rfl⟩ := Res.ok.inj h
        have hj := join_size 3 ms
        rcases h4 with ⟨h5, rfl⟩ | ⟨h5, h6, h7⟩
        · rename_i hx
          exact absurd h5 (hx m)
        · omega
      · cases h
      · cases h
end
theorem size_atom (l : List UInt8) : ∀ d, Lean2 l (atom l d) := by
  intro d
  induction d with
  | zero =>
    intro i n p hi h
    unfold atom at h
    have ho : ∀ j, (other l j : Res Node) ≠ .ok n p := fun j e => by unfold other at e; split at e <;> cases e
    have hs : ∀ (S : CSet), (Node.mk 1 S [] 0 0).size = 1 := fun S => by rw [Node.size_eq]; show 1 + Node.sizes [] = 1; rw [Node.sizes_nil]
    have hfi := fine_atom l 0 i hi
    unfold atom at hfi
    rw [h] at hfi
    have h3 : i < p ∧ p ≤ l.length := hfi
    clear hfi
    split at h
    · exact absurd h (ho i)
    · split at h
      · cases h
      · split at h
        · obtain ⟨rfl, rfl⟩ := Res.ok.inj h; rw [hs]; omega
        · split at h
          · split at h
            · obtain ⟨rfl, rfl⟩ := Res.ok.inj h; rw [hs]; omega
            · cases h
            · cases h
          · split at h
            · split at h
              · obtain ⟨rfl, rfl⟩ := Res.ok.inj h; rw [hs]; omega
              · cases h
              · cases h
            · obtain ⟨rfl, rfl⟩ := Res.ok.inj h; rw [hs]; omega
  | succ d ih =>
    intro i n p hi h
    have hfi := fine_atom l (d + 1) i hi
    rw [h] at hfi
    have h3 : i < p ∧ p ≤ l.length := hfi
    clear hfi
    unfold atom at h
    have ho : ∀ j, (other l j : Res Node) ≠ .ok n p := fun j e => by unfold other at e; split at e <;> cases e
    have hs : ∀ (S : CSet), (Node.mk 1 S [] 0 0).size = 1 := fun S => by rw [Node.size_eq]; show 1 + Node.sizes [] = 1; rw [Node.sizes_nil]
    split at h
    · exact absurd h (ho i)
    · rename_i hw
      have hp := pk_in (l := l) (i := i) (by intro e; rw [e] at hw; simp [wrongAtom] at hw)
      split at h
      · dsimp only at h
        cases hr : alt l (atom l d) (i + 1) with
        | bad e q => rw [hr] at h; cases h
        | out => rw [hr] at h; cases h
        | ok m q =>
          rw [hr] at h
          have h4 := size_alt ih (fine_atom l d) hp hr
          have h5 := fine_alt l (atom l d) (fine_atom l d) (i + 1) hp
          rw [hr] at h5
          have h6 : i + 1 ≤ q ∧ q ≤ l.length := h5
          dsimp only at h
          split at h
          · obtain ⟨rfl, rfl⟩ := Res.ok.inj h; omega
          · exact absurd h (ho q)
      · split at h
        · obtain ⟨rfl, rfl⟩ := Res.ok.inj h; rw [hs]; omega
        · split at h
          · split at h
            · obtain ⟨rfl, rfl⟩ := Res.ok.inj h; rw [hs]; omega
            · cases h
            · cases h
          · split at h
            · split at h
              · obtain ⟨rfl, rfl⟩ := Res.ok.inj h; rw [hs]; omega
              · cases h
              · cases h
            · obtain ⟨rfl, rfl⟩ := Res.ok.inj h; rw [hs]; omega
end Rx
end Go.Proofs.YthgcefppeaopkaaDoor
