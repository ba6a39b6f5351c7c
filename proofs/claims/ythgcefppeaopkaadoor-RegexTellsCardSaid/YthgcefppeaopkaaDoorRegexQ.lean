/- The parser's progress: plain. -/
import Derived.Test.YthgcefppeaopkaaDoorRegexP
namespace Go.Proofs.YthgcefppeaopkaaDoor
open Go
/-- a reader went on, and not too far; it was not out of fuel -/
def Fine {α : Type} (l : List UInt8) (i : Nat) (r : Res α) : Prop := match r with
  | .ok _ p => i < p ∧ p ≤ l.length
  | .bad _ _ => True
  | .out => False
theorem pk_in {l : List UInt8} {i : Nat} (h : Rx.pk l i ≠ -1) : i < l.length := by
  unfold Rx.pk at h
  split at h
  · rename_i b hb
    exact (List.getElem?_eq_some_iff.1 hb).1
  · exact absurd rfl h
theorem fine_other {α : Type} (l : List UInt8) (i j : Nat) : Fine l i (Rx.other l j : Res α) := by
  unfold Rx.other
  split <;> exact True.intro
theorem Fine.mono {α : Type} {l : List UInt8} {i j : Nat} {r : Res α} (h : Fine l j r) (hij : i ≤ j) : Fine l i r := by
  cases r with
  | ok a p => exact ⟨Nat.lt_of_le_of_lt hij h.1, h.2⟩
  | bad e p => trivial
  | out => exact h
theorem pkb (l : List UInt8) (i : Nat) : -1 ≤ Rx.pk l i ∧ Rx.pk l i ≤ 255 := by
  unfold Rx.pk
  split
  · rename_i b _
    have := b.toNat_lt
    omega
  · omega
theorem fine_esc (l : List UInt8) (i : Nat) : Fine l i (Rx.esc l i) := by
  unfold Rx.esc
  split
  · trivial
  · rename_i h
    have h1 := pk_in h
    split
    · exact ⟨by omega, by omega⟩
    · split
      · exact ⟨by omega, by omega⟩
      · split
        · split
          · trivial
          · split
            · trivial
            · split
              · trivial
              · rename_i h3
                have := pk_in h3
                split
                · trivial
                · exact ⟨by omega, by omega⟩
        · split
          · exact ⟨by omega, by omega⟩
          · trivial
theorem fine_sign (l : List UInt8) (i : Nat) : Fine l i (Rx.sign l i) := by
  unfold Rx.sign
  split
  · exact fine_esc l i
  · split
    · exact fine_other l i i
    · rename_i h
      have := pk_in (l := l) (i := i) (fun e => h (Or.inl e))
      exact ⟨by omega, by omega⟩
theorem fine_item (l : List UInt8) (i : Nat) : Fine l i (Rx.item l i) := by
  unfold Rx.item
  have h1 := fine_sign l i
  cases hr : Rx.sign l i with
  | bad e q => trivial
  | out => rw [hr] at h1; exact h1
  | ok r p =>
    rw [hr] at h1
    obtain ⟨S, many⟩ := r
    dsimp only
    have h2 := fine_sign l (p + 1)
    split
    · exact h1
    · cases hq : Rx.sign l (p + 1) with
      | bad e q => trivial
      | out => rw [hq] at h2; exact h2
      | ok r q =>
        rw [hq] at h2
        obtain ⟨T, more⟩ := r
        dsimp only
        split
        · trivial
        · unfold Fine at *
          simp only at *
          omega
/-- the same, where nothing needs to be read -/
def Fine0 {α : Type} (l : List UInt8) (i : Nat) (r : Res α) : Prop := match r with
  | .ok _ p => i ≤ p ∧ p ≤ l.length
  | .bad _ _ => True
  | .out => False
theorem Fine.weak {α : Type} {l : List UInt8} {i : Nat} {r : Res α} (h : Fine l i r) : Fine0 l i r := by
  cases r with
  | ok a p => exact ⟨Nat.le_of_lt h.1, h.2⟩
  | bad e p => trivial
  | out => exact h
theorem Fine0.mono {α : Type} {l : List UInt8} {i j : Nat} {r : Res α} (h : Fine0 l j r) (hij : i ≤ j) : Fine0 l i r := by
  cases r with
  | ok a p => exact ⟨Nat.le_trans hij h.1, h.2⟩
  | bad e p => trivial
  | out => exact h
theorem fine_items (l : List UInt8) : ∀ (f : Nat) (S : CSet) (i : Nat), i ≤ l.length → l.length < i + f → Fine l i (Rx.items l f S i)
  | 0, S, i, h, h' => by omega
  | f + 1, S, i, h, h' => by
    unfold Rx.items
    have h1 := fine_item l i
    cases hr : Rx.item l i with
    | bad e q => trivial
    | out => rw [hr] at h1; exact h1
    | ok T p =>
      rw [hr] at h1
      have h2 : i < p ∧ p ≤ l.length := h1
      dsimp only
      split
      · exact h1
      · exact (fine_items l f (S.or T) p h2.2 (by omega)).mono (by omega)
/-- behind the last item stands the closing bracket -/
theorem items_end (l : List UInt8) : ∀ (f : Nat) (S : CSet) (i : Nat) {T : CSet} {p : Nat}, Rx.items l f S i = .ok T p → Rx.pk l p = 93
  | 0, S, i, T, p, h => by simp [Rx.items] at h
  | f + 1, S, i, T, p, h => by
    unfold Rx.items at h
    cases hr : Rx.item l i with
    | bad e q => rw [hr] at h; simp at h
    | out => rw [hr] at h; simp at h
    | ok U q =>
      rw [hr] at h
      dsimp only at h
      split at h
      · rename_i hq
        obtain ⟨rfl, rfl⟩ := Res.ok.inj h
        exact hq
      · exact items_end l f _ q h
theorem fine_cls (l : List UInt8) (i : Nat) (hi : i ≤ l.length) : Fine l i (Rx.cls l i) := by
  unfold Rx.cls
  have h0 : (if Rx.pk l i = 94 then i + 1 else i) ≤ l.length ∧ i ≤ (if Rx.pk l i = 94 then i + 1 else i) := by
    split
    · rename_i h; have := pk_in (l := l) (i := i) (by rw [h]; decide); omega
    · omega
  generalize (if Rx.pk l i = 94 then i + 1 else i) = j at *
  have h1 := fine_items l (l.length + 1) CSet.empty j h0.1 (by omega)
  cases hr : Rx.items l (l.length + 1) CSet.empty j with
  | bad e q => trivial
  | out => rw [hr] at h1; exact h1
  | ok T p =>
    rw [hr] at h1
    have h2 : j < p ∧ p ≤ l.length := h1
    have := pk_in (l := l) (i := p) (by rw [items_end l _ _ _ hr]; decide)
    exact ⟨by omega, by omega⟩
theorem digs_bd (l : List UInt8) : ∀ (f n i : Nat), i ≤ l.length → i ≤ (Rx.digs l f n i).2 ∧ (Rx.digs l f n i).2 ≤ l.length
  | 0, n, i, h => ⟨Nat.le_refl _, h⟩
  | f + 1, n, i, h => by
    unfold Rx.digs
    split
    · rename_i hd
      have hi : i < l.length := pk_in (by intro e; rw [e] at hd; simp [Rx.digitB] at hd)
      have := digs_bd l f (Nat.min (10 * n + (Rx.pk l i - 48).toNat) 1000) (i + 1) (by omega)
      omega
    · exact ⟨Nat.le_refl _, h⟩
theorem fine_number (l : List UInt8) (i : Nat) (hi : i ≤ l.length) : Fine l i (Rx.number l i) := by
  unfold Rx.number
  have := digs_bd l (l.length - i) 0 i hi
  split
  · exact fine_other l i i
  · split
    · trivial
    · split
      · trivial
      · exact ⟨by omega, by omega⟩
theorem number_le {l : List UInt8} {i n p : Nat} (h : Rx.number l i = .ok n p) : n ≤ 16 := by
  unfold Rx.number at h
  split at h
  · unfold Rx.other at h; split at h <;> cases h
  · split at h
    · cases h
    · split at h
      · cases h
      · obtain ⟨rfl, rfl⟩ := Res.ok.inj h; omega
theorem fine_brc (l : List UInt8) (i : Nat) (hi : i ≤ l.length) : Fine l i (Rx.brc l i) := by
  unfold Rx.brc
  have h1 := fine_number l i hi
  cases hr : Rx.number l i with
  | bad e q => trivial
  | out => rw [hr] at h1; exact h1
  | ok n p =>
    rw [hr] at h1
    have h2 : i < p ∧ p ≤ l.length := h1
    dsimp only
    split
    · rename_i hc
      have hp := pk_in (l := l) (i := p) (by rw [hc]; decide)
      split
      · exact ⟨by omega, by omega⟩
      · have h3 := fine_number l (p + 1) hp
        cases hq : Rx.number l (p + 1) with
        | bad e q => trivial
        | out => rw [hq] at h3; exact h3
        | ok m q =>
          rw [hq] at h3
          have h4 : p + 1 < q ∧ q ≤ l.length := h3
          dsimp only
          split
          · trivial
          · exact ⟨by omega, by omega⟩
    · split
      · trivial
      · exact h1
theorem fine_piece (l : List UInt8) (atm : Nat → Res Node) (i : Nat) (ha : Fine l i (atm i)) : Fine l i (Rx.piece l atm i) := by
  unfold Rx.piece
  cases hr : atm i with
  | bad e q => trivial
  | out => rw [hr] at ha; exact ha
  | ok n p =>
    rw [hr] at ha
    have h2 : i < p ∧ p ≤ l.length := ha
    dsimp only
    split
    · rename_i hc; have hp := pk_in (l := l) (i := p) (by rw [hc]; decide); exact ⟨by omega, by omega⟩
    · split
      · rename_i hc; have hp := pk_in (l := l) (i := p) (by rw [hc]; decide); exact ⟨by omega, by omega⟩
      · split
        · rename_i hc; have hp := pk_in (l := l) (i := p) (by rw [hc]; decide); exact ⟨by omega, by omega⟩
        · split
          · rename_i hc
            have hp := pk_in (l := l) (i := p) (by rw [hc]; decide)
            have h3 := fine_brc l (p + 1) hp
            cases hq : Rx.brc l (p + 1) with
            | bad e q => trivial
            | out => rw [hq] at h3; exact h3
            | ok r q =>
              rw [hq] at h3
              obtain ⟨a, b⟩ := r
              have h4 : p + 1 < q ∧ q ≤ l.length := h3
              dsimp only
              split
              · rename_i hc; have hp := pk_in (l := l) (i := q) (by rw [hc]; decide); exact ⟨by omega, by omega⟩
              · exact fine_other l i q
          · exact ha
theorem fine_pieces (l : List UInt8) (atm : Nat → Res Node) (ha : ∀ i, i ≤ l.length → Fine l i (atm i)) : ∀ (f : Nat) (ns : List Node) (i : Nat), i ≤ l.length → l.length < i + f → Fine0 l i (Rx.pieces l atm f ns i)
  | 0, ns, i, h, h' => by omega
  | f + 1, ns, i, h, h' => by
    unfold Rx.pieces
    split
    · exact ⟨Nat.le_refl _, h⟩
    · have h1 := fine_piece l atm i (ha i h)
      cases hr : Rx.piece l atm i with
      | bad e q => trivial
      | out => rw [hr] at h1; exact h1
      | ok n p =>
        rw [hr] at h1
        have h2 : i < p ∧ p ≤ l.length := h1
        exact (fine_pieces l atm ha f (ns ++ [n]) p h2.2 (by omega)).mono (by omega)
theorem fine_cat (l : List UInt8) (atm : Nat → Res Node) (ha : ∀ i, i ≤ l.length → Fine l i (atm i)) (i : Nat) (hi : i ≤ l.length) : Fine0 l i (Rx.cat l atm i) := by
  unfold Rx.cat
  have h1 := fine_pieces l atm ha (l.length + 1) [] i hi (by omega)
  cases hr : Rx.pieces l atm (l.length + 1) [] i with
  | bad e q => trivial
  | out => rw [hr] at h1; exact h1
  | ok ns p => rw [hr] at h1; exact h1
theorem fine_cats (l : List UInt8) (atm : Nat → Res Node) (ha : ∀ i, i ≤ l.length → Fine l i (atm i)) : ∀ (f : Nat) (ns : List Node) (i : Nat), i ≤ l.length → l.length < i + f → Fine0 l i (Rx.cats l atm f ns i)
  | 0, ns, i, h, h' => by omega
  | f + 1, ns, i, h, h' => by
    unfold Rx.cats
    split
    · rename_i hc
      have hp := pk_in (l := l) (i := i) (by rw [hc]; decide)
      have h1 := fine_cat l atm ha (i + 1) hp
      cases hr : Rx.cat l atm (i + 1) with
      | bad e q => trivial
      | out => rw [hr] at h1; exact h1
      | ok n p =>
        rw [hr] at h1
        have h2 : i + 1 ≤ p ∧ p ≤ l.length := h1
        exact (fine_cats l atm ha f (ns ++ [n]) p h2.2 (by omega)).mono (by omega)
    · exact ⟨Nat.le_refl _, h⟩
theorem fine_alt (l : List UInt8) (atm : Nat → Res Node) (ha : ∀ i, i ≤ l.length → Fine l i (atm i)) (i : Nat) (hi : i ≤ l.length) : Fine0 l i (Rx.alt l atm i) := by
  unfold Rx.alt
  have h1 := fine_cat l atm ha i hi
  cases hr : Rx.cat l atm i with
  | bad e q => trivial
  | out => rw [hr] at h1; exact h1
  | ok n p =>
    rw [hr] at h1
    have h2 : i ≤ p ∧ p ≤ l.length := h1
    dsimp only
    have h3 := fine_cats l atm ha (l.length + 1) [n] p h2.2 (by omega)
    cases hq : Rx.cats l atm (l.length + 1) [n] p with
    | bad e q => trivial
    | out => rw [hq] at h3; exact h3
    | ok ns q =>
      rw [hq] at h3
      have h4 : p ≤ q ∧ q ≤ l.length := h3
      split
      · rename_i e; obtain ⟨rfl, rfl⟩ := Res.ok.inj e; exact ⟨by omega, by omega⟩
      · rename_i e; obtain ⟨rfl, rfl⟩ := Res.ok.inj e; exact ⟨by omega, by omega⟩
      · trivial
      · rename_i e; cases e
theorem fine_atom (l : List UInt8) : ∀ (d i : Nat), i ≤ l.length → Fine l i (Rx.atom l d i) := by
  intro d
  induction d with
  | zero =>
    intro i hi
    unfold Rx.atom
    split
    · exact fine_other l i i
    · rename_i hw
      have hp := pk_in (l := l) (i := i) (by intro e; rw [e] at hw; simp [Rx.wrongAtom] at hw)
      split
      · trivial
      · split
        · exact ⟨by omega, by omega⟩
        · split
          · have h1 := fine_cls l (i + 1) hp
            cases hr : Rx.cls l (i + 1) with
            | bad e q => trivial
            | out => rw [hr] at h1; exact h1
            | ok S q =>
              rw [hr] at h1
              have h2 : i + 1 < q ∧ q ≤ l.length := h1
              exact ⟨by omega, by omega⟩
          · split
            · have h1 := fine_esc l i
              cases hr : Rx.esc l i with
              | bad e q => trivial
              | out => rw [hr] at h1; exact h1
              | ok S q => rw [hr] at h1; exact h1
            · exact ⟨by omega, by omega⟩
  | succ d ih =>
    intro i hi
    unfold Rx.atom
    split
    · exact fine_other l i i
    · rename_i hw
      have hp := pk_in (l := l) (i := i) (by intro e; rw [e] at hw; simp [Rx.wrongAtom] at hw)
      split
      · have h1 := fine_alt l (Rx.atom l d) ih (i + 1) hp
        dsimp only
        cases hr : Rx.alt l (Rx.atom l d) (i + 1) with
        | bad e q => trivial
        | out => rw [hr] at h1; exact h1
        | ok n q =>
          rw [hr] at h1
          have h2 : i + 1 ≤ q ∧ q ≤ l.length := h1
          dsimp only
          split
          · rename_i hc; have hp := pk_in (l := l) (i := q) (by rw [hc]; decide); exact ⟨by omega, by omega⟩
          · exact fine_other l i q
      · split
        · exact ⟨by omega, by omega⟩
        · split
          · have h1 := fine_cls l (i + 1) hp
            cases hr : Rx.cls l (i + 1) with
            | bad e q => trivial
            | out => rw [hr] at h1; exact h1
            | ok S q =>
              rw [hr] at h1
              have h2 : i + 1 < q ∧ q ≤ l.length := h1
              exact ⟨by omega, by omega⟩
          · split
            · have h1 := fine_esc l i
              cases hr : Rx.esc l i with
              | bad e q => trivial
              | out => rw [hr] at h1; exact h1
              | ok S q => rw [hr] at h1; exact h1
            · exact ⟨by omega, by omega⟩
end Go.Proofs.YthgcefppeaopkaaDoor
