/- Too many brackets, or too many times: such a fault stays one within another text: plain. -/
import Derived.Test.YthgcefppeaopkaaDoorStandT
namespace Go.Proofs.YthgcefppeaopkaaDoor
open Go
namespace Rx
/-- nothing is too much -/
def N3 {α : Type} (r : Res α) : Prop := ∀ p, r ≠ .bad 3 p
theorem n3_other {α : Type} (l : List UInt8) (i : Nat) : N3 (other l i : Res α) := by
  intro p h
  unfold other at h
  split at h <;> cases h
theorem n3_esc (l : List UInt8) (i : Nat) : N3 (esc l i) := by
  intro p h
  unfold esc at h
  (repeat' split at h) <;> cases h
theorem n3_sign (l : List UInt8) (i : Nat) : N3 (sign l i) := by
  intro p h
  unfold sign at h
  split at h
  · exact n3_esc l i p h
  · split at h
    · exact n3_other l i p h
    · cases h
theorem n3_item (l : List UInt8) (i : Nat) : N3 (item l i) := by
  intro p h
  unfold item at h
  cases hr : sign l i with
  | bad e q => rw [hr] at h; cases h; exact n3_sign l i _ hr
  | out => rw [hr] at h; cases h
  | ok x q =>
    rw [hr] at h
    obtain ⟨S, many⟩ := x
    dsimp only at h
    split at h
    · cases h
    · cases hr2 : sign l (q + 1) with
      | bad e q => rw [hr2] at h; cases h; exact n3_sign l _ _ hr2
      | out => rw [hr2] at h; cases h
      | ok x q =>
        rw [hr2] at h
        obtain ⟨T, more⟩ := x
        dsimp only at h
        split at h <;> cases h
theorem n3_items (l : List UInt8) : ∀ (f : Nat) (S : CSet) (i : Nat), N3 (items l f S i)
  | 0, S, i => fun p h => by cases h
  | f + 1, S, i => fun p h => by
    unfold items at h
    cases hr : item l i with
    | bad e q => rw [hr] at h; cases h; exact n3_item l i _ hr
    | out => rw [hr] at h; cases h
    | ok T q =>
      rw [hr] at h
      dsimp only at h
      split at h
      · cases h
      · exact n3_items l f _ _ p h
theorem n3_cls (l : List UInt8) (i : Nat) : N3 (cls l i) := by
  intro p h
  unfold cls at h
  cases hr : items l (l.length + 1) CSet.empty (if pk l i = 94 then i + 1 else i) with
  | bad e q => rw [hr] at h; cases h; exact n3_items l _ _ _ _ hr
  | out => rw [hr] at h; cases h
  | ok S q => rw [hr] at h; cases h
/-- too much here is too much there -/
def T3 {α β : Type} (r : Res α) (r' : Res β) : Prop := ∀ p, r = .bad 3 p → ∃ q, r' = .bad 3 q
section
variable {l m : List UInt8} {k : Nat} {c : Int}
theorem t3_number (E : Emb l m k c) (i : Nat) (hi : i ≤ l.length) : T3 (number l i) (number m (i + k)) := by
  intro p h
  have hl := E.len
  have hd := sh_digs E (l.length - i) (m.length - (i + k)) 0 i (by omega) (by omega)
  unfold number at h ⊢
  rw [hd]
  dsimp only
  generalize digs l (l.length - i) 0 i = r at *
  obtain ⟨n, q⟩ := r
  dsimp only at h ⊢
  have hb := E.test hi (b := 48) (by decide) (by decide) (by decide)
  by_cases h1 : q = i
  · rw [if_pos h1] at h; exact (n3_other _ _ _ h).elim
  rw [if_neg h1] at h
  rw [if_neg (by omega)]
  by_cases h2 : pk l i = 48 ∧ q > i + 1
  · rw [if_pos h2] at h; cases h
  rw [if_neg h2] at h
  rw [if_neg (fun e => h2 ⟨hb.1 e.1, by omega⟩)]
  by_cases h3 : n > 16
  · rw [if_pos h3]; exact ⟨_, rfl⟩
  · rw [if_neg h3] at h; cases h
theorem t3_brc (E : Emb l m k c) (i : Nat) (hi : i ≤ l.length) : T3 (brc l i) (brc m (i + k)) := by
  intro p h
  unfold brc at h ⊢
  have hf := fine_number l i hi
  have hs := sh_number E i hi
  have ht := t3_number E i hi
  cases hr : number l i with
  | bad e q =>
    rw [hr] at h
    cases h
    obtain ⟨q', e⟩ := ht _ hr
    rw [e]
    exact ⟨_, rfl⟩
  | out => rw [hr] at h; cases h
  | ok low q =>
    rw [hr] at h hf
    rw [hs _ _ hr]
    dsimp only at h ⊢
    have hq := hf.2
    have t44 := E.test hq (b := 44) (by decide) (by decide) (by decide)
    by_cases h1 : pk l q = 44
    · rw [if_pos h1] at h
      rw [if_pos (t44.2 h1), show q + k + 1 = q + 1 + k by omega]
      have hq1 : q + 1 ≤ l.length := pk_in (by rw [h1]; decide)
      have t125 := E.test hq1 (b := 125) (by decide) (by decide) (by decide)
      by_cases h2 : pk l (q + 1) = 125
      · rw [if_pos h2] at h; cases h
      · rw [if_neg h2] at h
        rw [if_neg (fun e => h2 (t125.1 e))]
        have hs2 := sh_number E (q + 1) hq1
        have ht2 := t3_number E (q + 1) hq1
        cases hr2 : number l (q + 1) with
        | bad e q =>
          rw [hr2] at h
          cases h
          obtain ⟨q', e⟩ := ht2 _ hr2
          rw [e]
          exact ⟨_, rfl⟩
        | out => rw [hr2] at h; cases h
        | ok high r =>
          rw [hr2] at h
          dsimp only at h
          by_cases h3 : high = 0 ∨ high < low
          · rw [if_pos h3] at h; cases h
          · rw [if_neg h3] at h; cases h
    · rw [if_neg h1] at h
      by_cases h2 : low = 0
      · rw [if_pos h2] at h; cases h
      · rw [if_neg h2] at h; cases h
variable {at1 at2 : Nat → Res Node} {L : Prop}
theorem t3_piece (E : Emb l m k c) (i : Nat) (hf : Fine l i (at1 i)) (ha : Sim k L (at1 i) (at2 (i + k))) (ht : T3 (at1 i) (at2 (i + k))) : T3 (piece l at1 i) (piece m at2 (i + k)) := by
  intro p h
  unfold piece at h ⊢
  cases hr : at1 i with
  | bad e q =>
    rw [hr] at h
    cases h
    obtain ⟨q', e⟩ := ht _ hr
    rw [e]
    exact ⟨_, rfl⟩
  | out => rw [hr] at h; cases h
  | ok n q =>
    rw [hr] at h hf
    rcases ha n q hr with h0 | ⟨hL, q', h0⟩
    · rw [h0]
      dsimp only at h ⊢
      have hq := hf.2
      have t1 := E.test hq (b := 42) (by decide) (by decide) (by decide)
      have t2 := E.test hq (b := 43) (by decide) (by decide) (by decide)
      have t3 := E.test hq (b := 63) (by decide) (by decide) (by decide)
      have t4 := E.test hq (b := 123) (by decide) (by decide) (by decide)
      by_cases h1 : pk l q = 42
      · rw [if_pos h1] at h; cases h
      rw [if_neg h1] at h; rw [if_neg (fun e => h1 (t1.1 e))]
      by_cases h2 : pk l q = 43
      · rw [if_pos h2] at h; cases h
      rw [if_neg h2] at h; rw [if_neg (fun e => h2 (t2.1 e))]
      by_cases h3 : pk l q = 63
      · rw [if_pos h3] at h; cases h
      rw [if_neg h3] at h; rw [if_neg (fun e => h3 (t3.1 e))]
      by_cases h4 : pk l q = 123
      · rw [if_pos h4] at h; rw [if_pos (t4.2 h4)]
        have hq1 : q + 1 ≤ l.length := pk_in (by rw [h4]; decide)
        have hs := t3_brc E (q + 1) hq1
        rw [show q + k + 1 = q + 1 + k by omega]
        cases hr2 : brc l (q + 1) with
        | bad e q =>
          rw [hr2] at h
          cases h
          obtain ⟨q', e⟩ := hs _ hr2
          rw [e]
          exact ⟨_, rfl⟩
        | out => rw [hr2] at h; cases h
        | ok x r =>
          obtain ⟨lo, hi⟩ := x
          rw [hr2] at h
          dsimp only at h
          by_cases h5 : pk l r = 125
          · rw [if_pos h5] at h; cases h
          · rw [if_neg h5] at h; exact (n3_other _ _ _ h).elim
      · rw [if_neg h4] at h; cases h
    · rw [h0]; exact ⟨q', rfl⟩
variable (hf : ∀ i, i ≤ l.length → Fine l i (at1 i)) (ha : ∀ i, i ≤ l.length → Sim k L (at1 i) (at2 (i + k))) (ht : ∀ i, i ≤ l.length → T3 (at1 i) (at2 (i + k)))
include hf ha ht
theorem t3_pieces (E : Emb l m k c) : ∀ (f f' : Nat) (ns ms : List Node) (i : Nat), i ≤ l.length → f ≤ f' → T3 (pieces l at1 f ns i) (pieces m at2 f' ms (i + k)) := by
  intro f
  induction f with
  | zero => intro f' ns ms i hi hff p h; cases h
  | succ f ih =>
    intro f' ns ms i hi hff p h
    obtain ⟨f'', rfl⟩ : ∃ f'', f' = f'' + 1 := ⟨f' - 1, by omega⟩
    unfold pieces at h ⊢
    by_cases h1 : pk l i = -1 ∨ pk l i = 124 ∨ pk l i = 41
    · rw [if_pos h1] at h; cases h
    · rw [if_neg h1] at h
      rw [E.get (i := i) (by omega), if_neg h1]
      have hp := sim_piece E i (hf i hi) (ha i hi)
      have hpt := t3_piece E i (hf i hi) (ha i hi) (ht i hi)
      have hfp := fine_piece l at1 i (hf i hi)
      cases hr : piece l at1 i with
      | bad e q =>
        rw [hr] at h
        cases h
        obtain ⟨q', e⟩ := hpt _ hr
        rw [e]
        exact ⟨_, rfl⟩
      | out => rw [hr] at h; cases h
      | ok n q =>
        rw [hr] at h hfp
        rcases hp n q hr with h0 | ⟨hL, q', h0⟩
        · rw [h0]
          exact ih f'' _ _ q hfp.2 (by omega) p h
        · rw [h0]; exact ⟨q', rfl⟩
theorem t3_cat (E : Emb l m k c) (i : Nat) (hi : i ≤ l.length) : T3 (cat l at1 i) (cat m at2 (i + k)) := by
  intro p h
  unfold cat at h ⊢
  have hp := t3_pieces hf ha ht E (l.length + 1) (m.length + 1) [] [] i hi (by have := E.len; omega)
  cases hr : pieces l at1 (l.length + 1) [] i with
  | bad e q =>
    rw [hr] at h
    cases h
    obtain ⟨q', e⟩ := hp _ hr
    rw [e]
    exact ⟨_, rfl⟩
  | out => rw [hr] at h; cases h
  | ok ns q => rw [hr] at h; cases h
theorem t3_cats (E : Emb l m k c) : ∀ (f f' : Nat) (ns ms : List Node) (i : Nat), i ≤ l.length → f ≤ f' → T3 (cats l at1 f ns i) (cats m at2 f' ms (i + k)) := by
  intro f
  induction f with
  | zero => intro f' ns ms i hi hff p h; cases h
  | succ f ih =>
    intro f' ns ms i hi hff p h
    obtain ⟨f'', rfl⟩ : ∃ f'', f' = f'' + 1 := ⟨f' - 1, by omega⟩
    by_cases h1 : pk l i = 124
    · rw [cats, if_pos h1] at h
      have hi1 : i + 1 ≤ l.length := pk_in (by rw [h1]; decide)
      have hs := sim_cat hf ha E (i + 1) hi1
      have hst := t3_cat hf ha ht E (i + 1) hi1
      have hfc := fine_cat l at1 hf (i + 1) hi1
      have hb : pk m (i + k) = 124 := by rw [E.get (by rw [h1]; decide), h1]
      rw [cats, if_pos hb, show i + k + 1 = i + 1 + k by omega]
      cases hr : cat l at1 (i + 1) with
      | bad e q =>
        rw [hr] at h
        cases h
        obtain ⟨q', e⟩ := hst _ hr
        rw [e]
        exact ⟨_, rfl⟩
      | out => rw [hr] at h; cases h
      | ok n q =>
        rw [hr] at h hfc
        rcases hs n q hr with h0 | ⟨hL, q', h0⟩
        · rw [h0]
          exact ih f'' _ _ q hfc.2 (by omega) p h
        · rw [h0]; exact ⟨q', rfl⟩
    · rw [cats, if_neg h1] at h; cases h
theorem t3_alt (E : Emb l m k c) (i : Nat) (hi : i ≤ l.length) : T3 (alt l at1 i) (alt m at2 (i + k)) := by
  intro p h
  unfold alt at h ⊢
  have hs := sim_cat hf ha E i hi
  have hst := t3_cat hf ha ht E i hi
  have hfc := fine_cat l at1 hf i hi
  have hl := E.len
  cases hr : cat l at1 i with
  | bad e q =>
    rw [hr] at h
    cases h
    obtain ⟨q', e⟩ := hst _ hr
    rw [e]
    exact ⟨_, rfl⟩
  | out => rw [hr] at h; cases h
  | ok n q =>
    rw [hr] at h hfc
    dsimp only at h
    rcases hs n q hr with h0 | ⟨hL, q', h0⟩
    · rw [h0]
      dsimp only
      have hc := t3_cats hf ha ht E (l.length + 1) (m.length + 1) [n] [n] q hfc.2 (by omega)
      cases hr2 : cats l at1 (l.length + 1) [n] q with
      | bad e q =>
        rw [hr2] at h
        cases h
        obtain ⟨q', e⟩ := hc _ hr2
        rw [e]
        exact ⟨_, rfl⟩
      | out => rw [hr2] at h; cases h
      | ok ns q => rw [hr2] at h; split at h <;> simp_all
    · rw [h0]; exact ⟨q', rfl⟩
omit hf ha ht in
theorem t3_atom (E : Emb l m k c) : ∀ (d' d : Nat), d' ≤ d → ∀ i, i ≤ l.length → T3 (atom l d i) (atom m d' (i + k)) := by
  intro d'
  induction d' with
  | zero =>
    intro d hd i hi p h
    by_cases hw : wrongAtom (pk l i) = true
    · unfold atom at h; rw [if_pos hw] at h; exact (n3_other _ _ _ h).elim
    have hne : pk l i ≠ -1 := fun e => hw (by rw [e]; rfl)
    have e0 := E.get hne
    unfold atom at h
    rw [if_neg hw] at h
    unfold atom
    rw [e0, if_neg hw]
    by_cases h40 : pk l i = 40
    · rw [if_pos h40]; exact ⟨_, rfl⟩
    rw [if_neg h40] at h
    exfalso
    by_cases h46 : pk l i = 46
    · rw [if_pos h46] at h; cases h
    rw [if_neg h46] at h
    by_cases h91 : pk l i = 91
    · rw [if_pos h91] at h
      cases hr : cls l (i + 1) with
      | bad e q => rw [hr] at h; cases h; exact n3_cls _ _ _ hr
      | out => rw [hr] at h; cases h
      | ok S q => rw [hr] at h; cases h
    rw [if_neg h91] at h
    by_cases h92 : pk l i = 92
    · rw [if_pos h92] at h
      cases hr : esc l i with
      | bad e q => rw [hr] at h; cases h; exact n3_esc _ _ _ hr
      | out => rw [hr] at h; cases h
      | ok x q => rw [hr] at h; cases h
    rw [if_neg h92] at h
    cases h
  | succ d' ih =>
    intro d0 hd i hi p h
    obtain ⟨d, rfl⟩ : ∃ d, d0 = d + 1 := ⟨d0 - 1, by omega⟩
    by_cases hw : wrongAtom (pk l i) = true
    · rw [atom, if_pos hw] at h; exact (n3_other _ _ _ h).elim
    have hne : pk l i ≠ -1 := fun e => hw (by rw [e]; rfl)
    have e0 := E.get hne
    have hlt := pk_in hne
    rw [atom, if_neg hw] at h
    rw [atom, e0, if_neg hw]
    by_cases h40 : pk l i = 40
    · rw [if_pos h40] at h ⊢
      have ha := t3_alt (at1 := atom l d) (at2 := atom m d') (fine_atom l d) (sim_atom E d' d (by omega)) (ih d (by omega)) E (i + 1) (by omega)
      rw [show i + k + 1 = i + 1 + k by omega]
      cases hr : alt l (atom l d) (i + 1) with
      | bad e q =>
        rw [hr] at h
        cases h
        obtain ⟨q', e⟩ := ha _ hr
        rw [e]
        exact ⟨_, rfl⟩
      | out => rw [hr] at h; cases h
      | ok n q =>
        rw [hr] at h
        dsimp only at h
        by_cases h41 : pk l q = 41
        · rw [if_pos h41] at h; cases h
        · rw [if_neg h41] at h; exact (n3_other _ _ _ h).elim
    rw [if_neg h40] at h
    exfalso
    by_cases h46 : pk l i = 46
    · rw [if_pos h46] at h; cases h
    rw [if_neg h46] at h
    by_cases h91 : pk l i = 91
    · rw [if_pos h91] at h
      cases hr : cls l (i + 1) with
      | bad e q => rw [hr] at h; cases h; exact n3_cls _ _ _ hr
      | out => rw [hr] at h; cases h
      | ok S q => rw [hr] at h; cases h
    rw [if_neg h91] at h
    by_cases h92 : pk l i = 92
    · rw [if_pos h92] at h
      cases hr : esc l i with
      | bad e q => rw [hr] at h; cases h; exact n3_esc _ _ _ hr
      | out => rw [hr] at h; cases h
      | ok x q => rw [hr] at h; cases h
    rw [if_neg h92] at h
    cases h
end
/-- l is read whole, with so many brackets left -/
def Whole (d : Nat) (l : List UInt8) (n : Node) : Prop := alt l (atom l d) 0 = .ok n l.length
theorem emb_self (l : List UInt8) : Emb l l 0 (-1) where
  at_ _ _ := rfl
  end_ := pk_out (by omega)
  len := by omega
  term := Or.inl rfl
/-- with fewer brackets left: the same, or too many -/
theorem Whole.less {d d' : Nat} {l : List UInt8} {n : Node} (h : Whole d l n) (hd : d' ≤ d) : Whole d' l n ∨ ∃ q, alt l (atom l d') 0 = .bad 3 q := by
  rcases sim_alt (at1 := atom l d) (at2 := atom l d') (L := d' < d) (fine_atom l d) (sim_atom (emb_self l) d' d hd) (emb_self l) 0 (Nat.zero_le _) n l.length h (Or.inr (by decide)) with e | ⟨_, q, e⟩
  · exact Or.inl e
  · exact Or.inr ⟨q, e⟩
theorem bad_less {d d' : Nat} {l m : List UInt8} {k : Nat} {c : Int} (E : Emb l m k c) (hd : d' ≤ d) {q : Nat} (h : alt l (atom l d) 0 = .bad 3 q) : ∃ q', alt m (atom m d') k = .bad 3 q' := by
  obtain ⟨q', e⟩ := t3_alt (at1 := atom l d) (at2 := atom m d') (L := d' < d) (fine_atom l d) (sim_atom E d' d hd) (t3_atom E d' d hd) E 0 (Nat.zero_le _) q h
  rw [Nat.zero_add] at e
  exact ⟨q', e⟩
theorem Whole.mid {d e f : Nat} {l : List UInt8} {n : Node} (h : Whole f l n) (hd : Whole d l n) (h1 : d ≤ e) (h2 : e ≤ f) : Whole e l n := by
  rcases h.less h2 with h3 | ⟨q, h3⟩
  · exact h3
  · obtain ⟨q', h4⟩ := bad_less (emb_self l) h1 h3
    unfold Whole at hd
    rw [hd] at h4
    cases h4
/-- a whole within another text, in brackets or not -/
theorem Whole.within {d : Nat} {l m : List UInt8} {n : Node} {k : Nat} {c : Int} (h : Whole d l n) (E : Emb l m k c) (hc : c ≠ 124) : alt m (atom m d) k = .ok n (l.length + k) := by
  rcases sim_alt (at1 := atom l d) (at2 := atom m d) (L := d < d) (fine_atom l d) (sim_atom E d d (Nat.le_refl _)) E 0 (Nat.zero_le _) n l.length h (Or.inr hc) with e | ⟨hL, _⟩
  · rwa [Nat.zero_add] at e
  · omega
theorem bad_up {m : List UInt8} {d i q : Nat} (h40 : pk m i = 40) (h : alt m (atom m d) (i + 1) = .bad 3 q) : alt m (atom m (d + 1)) i = .bad 3 q := by
  have hat : atom m (d + 1) i = .bad 3 q := by
    rw [atom, if_neg (by rw [h40]; decide), if_pos h40, h]
  have hp : piece m (atom m (d + 1)) i = .bad 3 q := by unfold piece; rw [hat]
  have hps : pieces m (atom m (d + 1)) (m.length + 1) [] i = .bad 3 q := by rw [pieces, if_neg (by rw [h40]; decide), hp]
  have hc : cat m (atom m (d + 1)) i = .bad 3 q := by unfold cat; rw [hps]
  unfold alt
  rw [hc]
theorem parse_bad {m : List UInt8} {q : Nat} (h : alt m (atom m 16) 0 = .bad 3 q) : (parse m).2.1 ≠ 0 := by
  unfold parse
  split
  · decide
  · rw [h]; show (3 : Int) ≠ 0; decide
/-- what stands in brackets is a whole with one bracket less -/
theorem deep1 {l m : List UInt8} {n : Node} (E : Emb l m 1 41) (h0 : pk m 0 = 40) (hp : (parse m).2.1 = 0) (h : Whole 16 l n) : Whole 15 l n := by
  rcases h.less (d' := 15) (by omega) with h1 | ⟨q, h1⟩
  · exact h1
  · obtain ⟨q', h2⟩ := bad_less E (Nat.le_refl _) h1
    exact absurd hp (parse_bad (bad_up h0 h2))
theorem deep2 {l m : List UInt8} {n : Node} (E : Emb l m 2 41) (h0 : pk m 0 = 40) (h1 : pk m 1 = 40) (hp : (parse m).2.1 = 0) (h : Whole 16 l n) : Whole 14 l n := by
  rcases h.less (d' := 14) (by omega) with h2 | ⟨q, h2⟩
  · exact h2
  · obtain ⟨q', h3⟩ := bad_less E (Nat.le_refl _) h2
    exact absurd hp (parse_bad (bad_up h0 (bad_up h1 h3)))
end Rx
end Go.Proofs.YthgcefppeaopkaaDoor
