/- The parser upon a text that stands within another one: plain. -/
import Derived.Test.YthgcefppeaopkaaDoorRegexP
namespace Go.Proofs.YthgcefppeaopkaaDoor
open Go
namespace Rx
/-- l stands within m from k on; behind it stands c -/
structure Emb (l m : List UInt8) (k : Nat) (c : Int) : Prop where
  at_ : ∀ i, i < l.length → pk m (i + k) = pk l i
  end_ : pk m (l.length + k) = c
  len : l.length + k ≤ m.length
  term : c = -1 ∨ c = 41 ∨ c = 124
section
variable {l m : List UInt8} {k : Nat} {c : Int}
theorem Emb.get (E : Emb l m k c) {i : Nat} (h : pk l i ≠ -1) : pk m (i + k) = pk l i := E.at_ i (pk_in h)
theorem pk_out {i : Nat} (h : l.length ≤ i) : pk l i = -1 := by unfold pk; rw [List.getElem?_eq_none h]
theorem Emb.test (E : Emb l m k c) {i : Nat} (hi : i ≤ l.length) {b : Int} (h1 : b ≠ -1) (h2 : b ≠ 41) (h3 : b ≠ 124) : pk m (i + k) = b ↔ pk l i = b := by
  rcases Nat.lt_or_ge i l.length with h | h
  · rw [E.at_ i h]
  · obtain rfl : i = l.length := by omega
    rw [E.end_, pk_out (Nat.le_refl _)]
    have := E.term
    constructor <;> intro e <;> omega
/-- the same result, so many places further on -/
def Sh {α : Type} (k : Nat) (r r' : Res α) : Prop := ∀ a p, r = .ok a p → r' = .ok a (p + k)
/-- the same, or (if L) too many brackets are open -/
def Sim {α : Type} (k : Nat) (L : Prop) (r r' : Res α) : Prop := ∀ a p, r = .ok a p → r' = .ok a (p + k) ∨ (L ∧ ∃ q, r' = .bad 3 q)
theorem other_ok {α : Type} {i : Nat} {a : α} {p : Nat} (h : (other l i : Res α) = .ok a p) : False := by
  unfold other at h; split at h <;> cases h
theorem sh_esc (E : Emb l m k c) (i : Nat) : Sh k (esc l i) (esc m (i + k)) := by
  intro a p h
  unfold esc at h ⊢
  by_cases h1 : pk l (i + 1) = -1
  · rw [if_pos h1] at h; cases h
  rw [if_neg h1] at h
  have e1 := E.get h1
  rw [show i + 1 + k = i + k + 1 by omega] at e1
  rw [e1, if_neg h1]
  by_cases h2 : pk l (i + 1) = 100
  · rw [if_pos h2] at h ⊢; cases h; congr 1; omega
  rw [if_neg h2] at h ⊢
  by_cases h3 : pk l (i + 1) = 119
  · rw [if_pos h3] at h ⊢; cases h; congr 1; omega
  rw [if_neg h3] at h ⊢
  by_cases h4 : pk l (i + 1) = 120
  · rw [if_pos h4] at h ⊢
    by_cases h5 : pk l (i + 2) = -1
    · rw [if_pos h5] at h; cases h
    rw [if_neg h5] at h
    have e2 := E.get h5
    rw [show i + 2 + k = i + k + 2 by omega] at e2
    rw [e2, if_neg h5]
    by_cases h6 : hexv (pk l (i + 2)) < 0
    · rw [if_pos h6] at h; cases h
    rw [if_neg h6] at h ⊢
    by_cases h7 : pk l (i + 3) = -1
    · rw [if_pos h7] at h; cases h
    rw [if_neg h7] at h
    have e3 := E.get h7
    rw [show i + 3 + k = i + k + 3 by omega] at e3
    rw [e3, if_neg h7]
    by_cases h8 : hexv (pk l (i + 3)) < 0
    · rw [if_pos h8] at h; cases h
    rw [if_neg h8] at h ⊢
    cases h
    congr 1
    omega
  rw [if_neg h4] at h ⊢
  by_cases h5 : plainB (pk l (i + 1)) = true
  · rw [if_pos h5] at h ⊢; cases h; congr 1; omega
  · rw [if_neg h5] at h; cases h
theorem sh_sign (E : Emb l m k c) (i : Nat) (hi : i ≤ l.length) : Sh k (sign l i) (sign m (i + k)) := by
  intro a p h
  unfold sign at h ⊢
  by_cases h1 : pk l i = 92
  · rw [if_pos h1] at h
    rw [if_pos ((E.test hi (by decide) (by decide) (by decide)).2 h1)]
    exact sh_esc E i a p h
  · rw [if_neg h1] at h
    rw [if_neg (fun e => h1 ((E.test hi (by decide) (by decide) (by decide)).1 e))]
    by_cases h2 : pk l i = -1 ∨ pk l i = 91 ∨ pk l i = 93 ∨ pk l i = 45 ∨ pk l i = 94
    · rw [if_pos h2] at h; exact (other_ok h).elim
    · rw [if_neg h2] at h
      have e := E.get (i := i) (by omega)
      rw [e, if_neg h2]
      cases h
      congr 1
      omega
theorem sh_item (E : Emb l m k c) (i : Nat) (hi : i ≤ l.length) : Sh k (item l i) (item m (i + k)) := by
  intro a p h
  unfold item at h ⊢
  have hf := fine_sign l i
  have hs := sh_sign E i hi
  cases hr : sign l i with
  | bad e q => rw [hr] at h; cases h
  | out => rw [hr] at h; cases h
  | ok x q =>
    obtain ⟨S, many⟩ := x
    rw [hr] at h hf
    rw [hs _ _ hr]
    dsimp only at h ⊢
    have hq := hf.2
    by_cases h1 : many = true ∨ pk l q ≠ 45
    · rw [if_pos h1] at h
      rw [if_pos (h1.imp_right fun e e' => e ((E.test hq (by decide) (by decide) (by decide)).1 e'))]
      cases h; rfl
    · rw [if_neg h1] at h
      have h45 : pk l q = 45 := Decidable.byContradiction fun e => h1 (Or.inr e)
      have hm : ¬ many = true := fun e => h1 (Or.inl e)
      rw [if_neg (by intro e; rcases e with e | e; exact hm e; exact e ((E.test hq (by decide) (by decide) (by decide)).2 h45))]
      have hq1 : q + 1 ≤ l.length := pk_in (by rw [h45]; decide)
      have hs2 := sh_sign E (q + 1) hq1
      rw [show q + k + 1 = q + 1 + k by omega]
      cases hr2 : sign l (q + 1) with
      | bad e q => rw [hr2] at h; cases h
      | out => rw [hr2] at h; cases h
      | ok y r =>
        obtain ⟨T, more⟩ := y
        rw [hr2] at h
        rw [hs2 _ _ hr2]
        dsimp only at h ⊢
        by_cases h3 : more = true ∨ T.first < S.first
        · rw [if_pos h3] at h; cases h
        · rw [if_neg h3] at h ⊢; cases h; rfl
theorem sh_items (E : Emb l m k c) : ∀ (f f' : Nat) (S : CSet) (i : Nat), i ≤ l.length → f ≤ f' → Sh k (items l f S i) (items m f' S (i + k)) := by
  intro f
  induction f with
  | zero => intro f' S i hi hf a p h; cases h
  | succ f ih =>
    intro f' S i hi hf a p h
    obtain ⟨f'', rfl⟩ : ∃ f'', f' = f'' + 1 := ⟨f' - 1, by omega⟩
    unfold items at h ⊢
    have hfi := fine_item l i
    have hs := sh_item E i hi
    cases hr : item l i with
    | bad e q => rw [hr] at h; cases h
    | out => rw [hr] at h; cases h
    | ok T q =>
      rw [hr] at h hfi
      rw [hs _ _ hr]
      dsimp only at h ⊢
      by_cases h1 : pk l q = 93
      · rw [if_pos h1] at h
        rw [if_pos ((E.test hfi.2 (by decide) (by decide) (by decide)).2 h1)]
        cases h; rfl
      · rw [if_neg h1] at h
        rw [if_neg (fun e => h1 ((E.test hfi.2 (by decide) (by decide) (by decide)).1 e))]
        exact ih f'' _ q hfi.2 (by omega) a p h
theorem sh_cls (E : Emb l m k c) (i : Nat) (hi : i ≤ l.length) : Sh k (cls l i) (cls m (i + k)) := by
  intro a p h
  unfold cls at h ⊢
  have h94 : pk m (i + k) = 94 ↔ pk l i = 94 := E.test hi (by decide) (by decide) (by decide)
  have hl := E.len
  by_cases h1 : pk l i = 94
  · have hi1 : i + 1 ≤ l.length := pk_in (by rw [h1]; decide)
    have hs := sh_items E (l.length + 1) (m.length + 1) CSet.empty (i + 1) hi1 (by omega)
    rw [if_pos h1] at h
    rw [if_pos (h94.2 h1), show i + k + 1 = i + 1 + k by omega]
    cases hr : items l (l.length + 1) CSet.empty (i + 1) with
    | bad e q => rw [hr] at h; cases h
    | out => rw [hr] at h; cases h
    | ok S q =>
      rw [hr] at h
      rw [hs _ _ hr]
      dsimp only at h ⊢
      rw [if_pos h1] at h
      rw [if_pos (h94.2 h1)]
      cases h
      congr 1
      omega
  · have hs := sh_items E (l.length + 1) (m.length + 1) CSet.empty i hi (by omega)
    rw [if_neg h1] at h
    rw [if_neg (fun e => h1 (h94.1 e))]
    cases hr : items l (l.length + 1) CSet.empty i with
    | bad e q => rw [hr] at h; cases h
    | out => rw [hr] at h; cases h
    | ok S q =>
      rw [hr] at h
      rw [hs _ _ hr]
      dsimp only at h ⊢
      rw [if_neg h1] at h
      rw [if_neg (fun e => h1 (h94.1 e))]
      cases h
      congr 1
      omega
theorem digit_bd {b : Int} (h : digitB b = true) : 48 ≤ b ∧ b ≤ 57 := by simpa [digitB] using h
theorem sh_digs (E : Emb l m k c) : ∀ (f f' n i : Nat), i + f = l.length → f ≤ f' → digs m f' n (i + k) = ((digs l f n i).1, (digs l f n i).2 + k) := by
  intro f
  induction f with
  | zero =>
    intro f' n i hi hf
    obtain rfl : i = l.length := by omega
    cases f' with
    | zero => rfl
    | succ f' =>
      unfold digs
      rw [E.end_, if_neg (fun e => by have := digit_bd e; have := E.term; omega)]
  | succ f ih =>
    intro f' n i hi hf
    obtain ⟨f'', rfl⟩ : ∃ f'', f' = f'' + 1 := ⟨f' - 1, by omega⟩
    unfold digs
    rw [E.at_ i (by omega)]
    by_cases h : digitB (pk l i) = true
    · rw [if_pos h, if_pos h, show i + k + 1 = i + 1 + k by omega]
      exact ih f'' _ (i + 1) (by omega) (by omega)
    · rw [if_neg h, if_neg h]
theorem sh_number (E : Emb l m k c) (i : Nat) (hi : i ≤ l.length) : Sh k (number l i) (number m (i + k)) := by
  intro a p h
  have hl := E.len
  have hd := sh_digs E (l.length - i) (m.length - (i + k)) 0 i (by omega) (by omega)
  unfold number at h ⊢
  rw [hd]
  dsimp only
  generalize digs l (l.length - i) 0 i = r at *
  obtain ⟨n, q⟩ := r
  dsimp only at h ⊢
  have hb := E.test hi (b := 48) (by decide) (by decide) (by decide)
  by_cases h1 : q = i
  · rw [if_pos h1] at h; exact (other_ok h).elim
  rw [if_neg h1] at h
  rw [if_neg (by omega)]
  by_cases h2 : pk l i = 48 ∧ q > i + 1
  · rw [if_pos h2] at h; cases h
  rw [if_neg h2] at h
  rw [if_neg (fun e => h2 ⟨hb.1 e.1, by omega⟩)]
  by_cases h3 : n > 16
  · rw [if_pos h3] at h; cases h
  rw [if_neg h3] at h ⊢
  cases h; rfl
theorem sh_brc (E : Emb l m k c) (i : Nat) (hi : i ≤ l.length) : Sh k (brc l i) (brc m (i + k)) := by
  intro a p h
  unfold brc at h ⊢
  have hf := fine_number l i hi
  have hs := sh_number E i hi
  cases hr : number l i with
  | bad e q => rw [hr] at h; cases h
  | out => rw [hr] at h; cases h
  | ok low q =>
    rw [hr] at h hf
    rw [hs _ _ hr]
    dsimp only at h ⊢
    have hq := hf.2
    have t44 := E.test hq (b := 44) (by decide) (by decide) (by decide)
    by_cases h1 : pk l q = 44
    · rw [if_pos h1] at h
      rw [if_pos (t44.2 h1), show q + k + 1 = q + 1 + k by omega]
      have hq1 : q + 1 ≤ l.length := pk_in (by rw [h1]; decide)
      have t125 := E.test hq1 (b := 125) (by decide) (by decide) (by decide)
      by_cases h2 : pk l (q + 1) = 125
      · rw [if_pos h2] at h
        rw [if_pos (t125.2 h2)]
        cases h; rfl
      · rw [if_neg h2] at h
        rw [if_neg (fun e => h2 (t125.1 e))]
        have hs2 := sh_number E (q + 1) hq1
        cases hr2 : number l (q + 1) with
        | bad e q => rw [hr2] at h; cases h
        | out => rw [hr2] at h; cases h
        | ok high r =>
          rw [hr2] at h
          rw [hs2 _ _ hr2]
          dsimp only at h ⊢
          by_cases h3 : high = 0 ∨ high < low
          · rw [if_pos h3] at h; cases h
          · rw [if_neg h3] at h ⊢; cases h; rfl
    · rw [if_neg h1] at h
      rw [if_neg (fun e => h1 (t44.1 e))]
      by_cases h2 : low = 0
      · rw [if_pos h2] at h; cases h
      · rw [if_neg h2] at h ⊢; cases h; rfl
variable {at1 at2 : Nat → Res Node} {L : Prop}
theorem sim_piece (E : Emb l m k c) (i : Nat) (hf : Fine l i (at1 i)) (ha : Sim k L (at1 i) (at2 (i + k))) : Sim k L (piece l at1 i) (piece m at2 (i + k)) := by
  intro a p h
  unfold piece at h ⊢
  cases hr : at1 i with
  | bad e q => rw [hr] at h; cases h
  | out => rw [hr] at h; cases h
  | ok n q =>
    rw [hr] at h hf
    rcases ha n q hr with h0 | ⟨hL, q', h0⟩
    · rw [h0]
      dsimp only at h ⊢
      have hq := hf.2
      have t1 := E.test hq (b := 42) (by decide) (by decide) (by decide)
      have t2 := E.test hq (b := 43) (by decide) (by decide) (by decide)
      have t3 := E.test hq (b := 63) (by decide) (by decide) (by decide)
      have t4 := E.test hq (b := 123) (by decide) (by decide) (by decide)
      by_cases h1 : pk l q = 42
      · rw [if_pos h1] at h; rw [if_pos (t1.2 h1)]; cases h; left; congr 1; omega
      rw [if_neg h1] at h; rw [if_neg (fun e => h1 (t1.1 e))]
      by_cases h2 : pk l q = 43
      · rw [if_pos h2] at h; rw [if_pos (t2.2 h2)]; cases h; left; congr 1; omega
      rw [if_neg h2] at h; rw [if_neg (fun e => h2 (t2.1 e))]
      by_cases h3 : pk l q = 63
      · rw [if_pos h3] at h; rw [if_pos (t3.2 h3)]; cases h; left; congr 1; omega
      rw [if_neg h3] at h; rw [if_neg (fun e => h3 (t3.1 e))]
      by_cases h4 : pk l q = 123
      · rw [if_pos h4] at h; rw [if_pos (t4.2 h4)]
        have hq1 : q + 1 ≤ l.length := pk_in (by rw [h4]; decide)
        have hs := sh_brc E (q + 1) hq1
        have hfb := fine_brc l (q + 1) hq1
        rw [show q + k + 1 = q + 1 + k by omega]
        cases hr2 : brc l (q + 1) with
        | bad e q => rw [hr2] at h; cases h
        | out => rw [hr2] at h; cases h
        | ok x r =>
          obtain ⟨lo, hi⟩ := x
          rw [hr2] at h hfb
          rw [hs _ _ hr2]
          dsimp only at h ⊢
          have t5 := E.test hfb.2 (b := 125) (by decide) (by decide) (by decide)
          by_cases h5 : pk l r = 125
          · rw [if_pos h5] at h; rw [if_pos (t5.2 h5)]; cases h; left; congr 1; omega
          · rw [if_neg h5] at h; exact (other_ok h).elim
      · rw [if_neg h4] at h; rw [if_neg (fun e => h4 (t4.1 e))]; cases h; left; rfl
    · rw [h0]; exact Or.inr ⟨hL, q', rfl⟩
variable (hf : ∀ i, i ≤ l.length → Fine l i (at1 i)) (ha : ∀ i, i ≤ l.length → Sim k L (at1 i) (at2 (i + k)))
include hf ha
theorem sim_pieces (E : Emb l m k c) : ∀ (f f' : Nat) (ns : List Node) (i : Nat), i ≤ l.length → f ≤ f' → Sim k L (pieces l at1 f ns i) (pieces m at2 f' ns (i + k)) := by
  intro f
  induction f with
  | zero => intro f' ns i hi hff a p h; cases h
  | succ f ih =>
    intro f' ns i hi hff a p h
    obtain ⟨f'', rfl⟩ : ∃ f'', f' = f'' + 1 := ⟨f' - 1, by omega⟩
    unfold pieces at h ⊢
    by_cases h1 : pk l i = -1 ∨ pk l i = 124 ∨ pk l i = 41
    · rw [if_pos h1] at h
      have h2 : pk m (i + k) = -1 ∨ pk m (i + k) = 124 ∨ pk m (i + k) = 41 := by
        rcases Nat.lt_or_ge i l.length with h' | h'
        · rw [E.at_ i h']; exact h1
        · obtain rfl : i = l.length := by omega
          rw [E.end_]; have := E.term; omega
      rw [if_pos h2]
      cases h; left; rfl
    · rw [if_neg h1] at h
      rw [E.get (i := i) (by omega), if_neg h1]
      have hp := sim_piece E i (hf i hi) (ha i hi)
      have hfp := fine_piece l at1 i (hf i hi)
      cases hr : piece l at1 i with
      | bad e q => rw [hr] at h; cases h
      | out => rw [hr] at h; cases h
      | ok n q =>
        rw [hr] at h hfp
        rcases hp n q hr with h0 | ⟨hL, q', h0⟩
        · rw [h0]
          exact ih f'' _ q hfp.2 (by omega) a p h
        · rw [h0]; exact Or.inr ⟨hL, q', rfl⟩
theorem sim_cat (E : Emb l m k c) (i : Nat) (hi : i ≤ l.length) : Sim k L (cat l at1 i) (cat m at2 (i + k)) := by
  intro a p h
  unfold cat at h ⊢
  have hp := sim_pieces hf ha E (l.length + 1) (m.length + 1) [] i hi (by have := E.len; omega)
  cases hr : pieces l at1 (l.length + 1) [] i with
  | bad e q => rw [hr] at h; cases h
  | out => rw [hr] at h; cases h
  | ok ns q =>
    rw [hr] at h
    rcases hp ns q hr with h0 | ⟨hL, q', h0⟩
    · rw [h0]; cases h; left; rfl
    · rw [h0]; exact Or.inr ⟨hL, q', rfl⟩
/-- bars: as far as the end of l; there cats goes on, if c is a bar -/
theorem sim_cats (E : Emb l m k c) : ∀ (f f' : Nat) (ns : List Node) (i : Nat), i ≤ l.length → f ≤ f' → m.length < i + k + f' → ∀ (ms : List Node) (p : Nat), cats l at1 f ns i = .ok ms p →
    (∃ f2, m.length < p + k + (f2 + 1) ∧ cats m at2 f' ns (i + k) = cats m at2 (f2 + 1) ms (p + k)) ∨ (L ∧ ∃ q, cats m at2 f' ns (i + k) = .bad 3 q) := by
  intro f
  induction f with
  | zero => intro f' ns i hi hff hm ms p h; cases h
  | succ f ih =>
    intro f' ns i hi hff hm ms p h
    obtain ⟨f'', rfl⟩ : ∃ f'', f' = f'' + 1 := ⟨f' - 1, by omega⟩
    by_cases h1 : pk l i = 124
    · rw [cats, if_pos h1] at h
      have hi1 : i + 1 ≤ l.length := pk_in (by rw [h1]; decide)
      have hs := sim_cat hf ha E (i + 1) hi1
      have hfc := fine_cat l at1 hf (i + 1) hi1
      cases hr : cat l at1 (i + 1) with
      | bad e q => rw [hr] at h; cases h
      | out => rw [hr] at h; cases h
      | ok n q =>
        rw [hr] at h hfc
        have hb : pk m (i + k) = 124 := by rw [E.get (by rw [h1]; decide), h1]
        rcases hs n q hr with h0 | ⟨hL, q', h0⟩
        · have e1 : cats m at2 (f'' + 1) ns (i + k) = cats m at2 f'' (ns ++ [n]) (q + k) := by rw [cats, if_pos hb, show i + k + 1 = i + 1 + k by omega, h0]
          rw [e1]
          rcases ih f'' (ns ++ [n]) q hfc.2 (by omega) (by have := hfc.1; omega) ms p h with ⟨f2, h2, h4⟩ | h5
          · exact Or.inl ⟨f2, h2, h4⟩
          · exact Or.inr h5
        · have e1 : cats m at2 (f'' + 1) ns (i + k) = .bad 3 q' := by rw [cats, if_pos hb, show i + k + 1 = i + 1 + k by omega, h0]
          exact Or.inr ⟨hL, q', e1⟩
    · rw [cats, if_neg h1] at h
      cases h
      exact Or.inl ⟨f'', by omega, rfl⟩
end
end Rx
namespace Rx
/-- a fault has a number, and lies within the text -/
def Bads {α : Type} (l : List UInt8) (r : Res α) : Prop := ∀ e p, r = .bad e p → (e = 1 ∨ e = 2 ∨ e = 3) ∧ p ≤ l.length
theorem bads_ok {α : Type} {l : List UInt8} {a : α} {p : Nat} : Bads l (.ok a p) := fun e q h => by cases h
theorem bads_out {α : Type} {l : List UInt8} : Bads l (.out : Res α) := fun e q h => by cases h
theorem bads_mk {α : Type} {l : List UInt8} {e : Int} {p : Nat} (h : e = 1 ∨ e = 2 ∨ e = 3) (hp : p ≤ l.length) : Bads l (.bad e p : Res α) := fun e' q h' => by cases h'; exact ⟨h, hp⟩
theorem bads_pass {α β : Type} {l : List UInt8} {e : Int} {p : Nat} (h : Bads l (.bad e p : Res α)) : Bads l (.bad e p : Res β) := fun e' q h' => by cases h'; exact h e p rfl
theorem bads_other {α : Type} (l : List UInt8) (i : Nat) (hi : i ≤ l.length) : Bads l (other l i : Res α) := by
  unfold other; split
  · exact bads_mk (Or.inl rfl) (Nat.le_refl _)
  · exact bads_mk (Or.inr (Or.inl rfl)) hi
variable {l : List UInt8}
theorem bads_esc (i : Nat) (hi : i ≤ l.length) : Bads l (esc l i) := by
  unfold esc
  repeat' split
  all_goals first | exact bads_ok | exact bads_mk (Or.inl rfl) (Nat.le_refl _) | exact bads_mk (Or.inr (Or.inl rfl)) hi
theorem bads_sign (i : Nat) (hi : i ≤ l.length) : Bads l (sign l i) := by
  unfold sign; split
  · exact bads_esc i hi
  · split
    · exact bads_other l i hi
    · exact bads_ok
theorem bads_item (i : Nat) (hi : i ≤ l.length) : Bads l (item l i) := by
  unfold item
  have h1 := bads_sign (l := l) i hi
  have hf := fine_sign l i
  cases hr : sign l i with
  | bad e q => rw [hr] at h1; exact bads_pass h1
  | out => exact bads_out
  | ok x q =>
    obtain ⟨S, many⟩ := x
    rw [hr] at hf
    dsimp only
    by_cases h2 : many = true ∨ pk l q ≠ 45
    · rw [if_pos h2]; exact bads_ok
    · rw [if_neg h2]
      have h45 : pk l q = 45 := Decidable.byContradiction fun e => h2 (Or.inr e)
      have hq1 : q + 1 ≤ l.length := pk_in (by rw [h45]; decide)
      have h3 := bads_sign (l := l) (q + 1) hq1
      cases hr2 : sign l (q + 1) with
      | bad e q => rw [hr2] at h3; exact bads_pass h3
      | out => exact bads_out
      | ok y r =>
        obtain ⟨T, more⟩ := y
        dsimp only
        split
        · exact bads_mk (Or.inr (Or.inl rfl)) hq1
        · exact bads_ok
theorem bads_items : ∀ (f : Nat) (S : CSet) (i : Nat), i ≤ l.length → Bads l (items l f S i) := by
  intro f
  induction f with
  | zero => intro S i hi; exact bads_out
  | succ f ih =>
    intro S i hi
    unfold items
    have h1 := bads_item (l := l) i hi
    have hf := fine_item l i
    cases hr : item l i with
    | bad e q => rw [hr] at h1; exact bads_pass h1
    | out => exact bads_out
    | ok T q =>
      rw [hr] at hf
      dsimp only
      split
      · exact bads_ok
      · exact ih _ q hf.2
theorem bads_cls (i : Nat) (hi : i ≤ l.length) : Bads l (cls l i) := by
  unfold cls
  have h1 : Bads l (items l (l.length + 1) CSet.empty (if pk l i = 94 then i + 1 else i)) := by
    by_cases h : pk l i = 94
    · rw [if_pos h]; exact bads_items _ _ _ (pk_in (by rw [h]; decide))
    · rw [if_neg h]; exact bads_items _ _ _ hi
  cases hr : items l (l.length + 1) CSet.empty (if pk l i = 94 then i + 1 else i) with
  | bad e q => rw [hr] at h1; exact bads_pass h1
  | out => exact bads_out
  | ok S q => exact bads_ok
theorem bads_number (i : Nat) (hi : i ≤ l.length) : Bads l (number l i) := by
  unfold number
  split
  · exact bads_other l i hi
  · split
    · exact bads_mk (Or.inr (Or.inl rfl)) hi
    · split
      · exact bads_mk (Or.inr (Or.inr rfl)) hi
      · exact bads_ok
theorem bads_brc (i : Nat) (hi : i ≤ l.length) : Bads l (brc l i) := by
  unfold brc
  have h1 := bads_number (l := l) i hi
  have hf := fine_number l i hi
  cases hr : number l i with
  | bad e q => rw [hr] at h1; exact bads_pass h1
  | out => exact bads_out
  | ok low q =>
    rw [hr] at hf
    dsimp only
    by_cases h2 : pk l q = 44
    · rw [if_pos h2]
      have hq1 : q + 1 ≤ l.length := pk_in (by rw [h2]; decide)
      split
      · exact bads_ok
      · have h3 := bads_number (l := l) (q + 1) hq1
        cases hr2 : number l (q + 1) with
        | bad e q => rw [hr2] at h3; exact bads_pass h3
        | out => exact bads_out
        | ok high r =>
          dsimp only
          split
          · exact bads_mk (Or.inr (Or.inl rfl)) hq1
          · exact bads_ok
    · rw [if_neg h2]
      split
      · exact bads_mk (Or.inr (Or.inl rfl)) hi
      · exact bads_ok
section
variable {at1 : Nat → Res Node}
theorem bads_piece (i : Nat) (_hf : Fine l i (at1 i)) (ha : Bads l (at1 i)) : Bads l (piece l at1 i) := by
  unfold piece
  cases hr : at1 i with
  | bad e q => rw [hr] at ha; exact bads_pass ha
  | out => exact bads_out
  | ok n q =>
    dsimp only
    split
    · exact bads_ok
    · split
      · exact bads_ok
      · split
        · exact bads_ok
        · by_cases h : pk l q = 123
          · rw [if_pos h]
            have hq1 : q + 1 ≤ l.length := pk_in (by rw [h]; decide)
            have h1 := bads_brc (l := l) (q + 1) hq1
            have hfb := fine_brc l (q + 1) hq1
            cases hr2 : brc l (q + 1) with
            | bad e q => rw [hr2] at h1; exact bads_pass h1
            | out => exact bads_out
            | ok x r =>
              obtain ⟨lo, hi⟩ := x
              rw [hr2] at hfb
              dsimp only
              split
              · exact bads_ok
              · exact bads_other l r hfb.2
          · rw [if_neg h]; exact bads_ok
variable (hf : ∀ i, i ≤ l.length → Fine l i (at1 i)) (ha : ∀ i, i ≤ l.length → Bads l (at1 i))
include hf ha
theorem bads_pieces : ∀ (f : Nat) (ns : List Node) (i : Nat), i ≤ l.length → Bads l (pieces l at1 f ns i) := by
  intro f
  induction f with
  | zero => intro ns i hi; exact bads_out
  | succ f ih =>
    intro ns i hi
    unfold pieces
    split
    · exact bads_ok
    · have h1 := bads_piece i (hf i hi) (ha i hi)
      have hfp := fine_piece l at1 i (hf i hi)
      cases hr : piece l at1 i with
      | bad e q => rw [hr] at h1; exact bads_pass h1
      | out => exact bads_out
      | ok n q => rw [hr] at hfp; exact ih _ q hfp.2
theorem bads_cat (i : Nat) (hi : i ≤ l.length) : Bads l (cat l at1 i) := by
  unfold cat
  have h1 := bads_pieces hf ha (l.length + 1) [] i hi
  cases hr : pieces l at1 (l.length + 1) [] i with
  | bad e q => rw [hr] at h1; exact bads_pass h1
  | out => exact bads_out
  | ok ns q => exact bads_ok
theorem bads_cats : ∀ (f : Nat) (ns : List Node) (i : Nat), i ≤ l.length → Bads l (cats l at1 f ns i) := by
  intro f
  induction f with
  | zero => intro ns i hi; exact bads_out
  | succ f ih =>
    intro ns i hi
    unfold cats
    by_cases h : pk l i = 124
    · rw [if_pos h]
      have hi1 : i + 1 ≤ l.length := pk_in (by rw [h]; decide)
      have h1 := bads_cat hf ha (i + 1) hi1
      have hfc := fine_cat l at1 hf (i + 1) hi1
      cases hr : cat l at1 (i + 1) with
      | bad e q => rw [hr] at h1; exact bads_pass h1
      | out => exact bads_out
      | ok n q => rw [hr] at hfc; exact ih _ q hfc.2
    · rw [if_neg h]; exact bads_ok
theorem bads_alt (i : Nat) (hi : i ≤ l.length) : Bads l (alt l at1 i) := by
  unfold alt
  have h1 := bads_cat hf ha i hi
  have hfc := fine_cat l at1 hf i hi
  cases hr : cat l at1 i with
  | bad e q => rw [hr] at h1; exact bads_pass h1
  | out => exact bads_out
  | ok n q =>
    rw [hr] at hfc
    dsimp only
    have h2 := bads_cats hf ha (l.length + 1) [n] q hfc.2
    split
    · exact bads_ok
    · exact bads_ok
    · rename_i hr2; rw [hr2] at h2; exact bads_pass h2
    · exact bads_out
end
theorem bads_atom : ∀ (d i : Nat), i ≤ l.length → Bads l (atom l d i) := by
  intro d
  induction d with
  | zero =>
    intro i hi
    rw [atom]
    split
    · exact bads_other l i hi
    · rename_i hw
      split
      · exact bads_mk (Or.inr (Or.inr rfl)) hi
      · split
        · exact bads_ok
        · split
          · rename_i h _ h91
            have h1 := bads_cls (l := l) (i + 1) (pk_in (by rw [h91]; decide))
            cases hr : cls l (i + 1) with
            | bad e q => rw [hr] at h1; exact bads_pass h1
            | out => exact bads_out
            | ok S q => exact bads_ok
          · split
            · have h1 := bads_esc (l := l) i hi
              cases hr : esc l i with
              | bad e q => rw [hr] at h1; exact bads_pass h1
              | out => exact bads_out
              | ok x q => exact bads_ok
            · exact bads_ok
  | succ d ih =>
    intro i hi
    rw [atom]
    split
    · exact bads_other l i hi
    · rename_i hw
      split
      · rename_i h40
        have hi1 : i + 1 ≤ l.length := pk_in (by rw [h40]; decide)
        have h1 := bads_alt (at1 := atom l d) (fine_atom l d) ih (i + 1) hi1
        have hfa := fine_alt l (atom l d) (fine_atom l d) (i + 1) hi1
        cases hr : alt l (atom l d) (i + 1) with
        | bad e q => rw [hr] at h1; exact bads_pass h1
        | out => exact bads_out
        | ok n q =>
          rw [hr] at hfa
          dsimp only
          split
          · exact bads_ok
          · exact bads_other l q hfa.2
      · split
        · exact bads_ok
        · split
          · rename_i h _ h91
            have h1 := bads_cls (l := l) (i + 1) (pk_in (by rw [h91]; decide))
            cases hr : cls l (i + 1) with
            | bad e q => rw [hr] at h1; exact bads_pass h1
            | out => exact bads_out
            | ok S q => exact bads_ok
          · split
            · have h1 := bads_esc (l := l) i hi
              cases hr : esc l i with
              | bad e q => rw [hr] at h1; exact bads_pass h1
              | out => exact bads_out
              | ok x q => exact bads_ok
            · exact bads_ok
/-- a whole that was read; or a fault: its number and place -/
theorem parse_cases (l : List UInt8) : (∃ n, alt l (atom l 16) 0 = .ok n l.length ∧ parse l = (n, 0, 0) ∧ l.length ≤ 256) ∨ (∃ e p, parse l = (zero, e, p) ∧ (e = 1 ∨ e = 2 ∨ e = 3) ∧ p ≤ l.length) := by
  unfold parse
  split
  · exact Or.inr ⟨3, 256, rfl, Or.inr (Or.inr rfl), by omega⟩
  · rename_i hl
    have hfi := fine_alt l (atom l 16) (fine_atom l 16) 0 (Nat.zero_le _)
    have hb := bads_alt (at1 := atom l 16) (fine_atom l 16) (bads_atom 16) 0 (Nat.zero_le _)
    cases hr : alt l (atom l 16) 0 with
    | out => rw [hr] at hfi; exact hfi.elim
    | bad e p => rw [hr] at hb; exact Or.inr ⟨e, p, rfl, hb e p rfl⟩
    | ok n p =>
      rw [hr] at hfi
      have hp : p ≤ l.length := hfi.2
      dsimp only
      by_cases h : p < l.length
      · rw [if_pos h]
        have ho := bads_other (α := Node) l p hp
        cases hr2 : (other l p : Res Node) with
        | ok n q => exact (other_ok hr2).elim
        | out => unfold other at hr2; split at hr2 <;> cases hr2
        | bad e q => rw [hr2] at ho; exact Or.inr ⟨e, q, rfl, ho e q rfl⟩
      · rw [if_neg h]
        obtain rfl : p = l.length := by omega
        exact Or.inl ⟨n, rfl, rfl, by omega⟩
theorem cats_end {at1 : Nat → Res Node} : ∀ (f : Nat) (ns : List Node) (i : Nat) {ms : List Node} {p : Nat}, cats l at1 f ns i = .ok ms p → pk l p ≠ 124
  | 0, ns, i, ms, p, h => by cases h
  | f + 1, ns, i, ms, p, h => by
    unfold cats at h
    by_cases h1 : pk l i = 124
    · rw [if_pos h1] at h
      cases hr : cat l at1 (i + 1) with
      | bad e q => rw [hr] at h; cases h
      | out => rw [hr] at h; cases h
      | ok n q => rw [hr] at h; exact cats_end f _ q h
    · rw [if_neg h1] at h; cases h; exact h1
theorem alt_parts {at1 : Nat → Res Node} {i : Nat} {n : Node} {p : Nat} (h : alt l at1 i = .ok n p) :
    ∃ n0 p0 ns, cat l at1 i = .ok n0 p0 ∧ cats l at1 (l.length + 1) [n0] p0 = .ok ns p ∧ ((ns = [n]) ∨ (ns.length ≠ 1 ∧ n = join 3 ns)) := by
  unfold alt at h
  cases hr : cat l at1 i with
  | bad e q => rw [hr] at h; cases h
  | out => rw [hr] at h; cases h
  | ok n0 p0 =>
    rw [hr] at h
    dsimp only at h
    cases hr2 : cats l at1 (l.length + 1) [n0] p0 with
    | bad e q => rw [hr2] at h; cases h
    | out => rw [hr2] at h; cases h
    | ok ns q =>
      rw [hr2] at h
      refine ⟨n0, p0, ns, rfl, ?_⟩
      match ns, h with
      | [], h => cases h; exact ⟨hr2, Or.inr ⟨by simp, rfl⟩⟩
      | [x], h => cases h; exact ⟨hr2, Or.inl rfl⟩
      | x :: y :: r, h => cases h; exact ⟨hr2, Or.inr ⟨by simp, rfl⟩⟩
theorem alt_mk {at1 : Nat → Res Node} {i p0 p : Nat} {n0 n : Node} {ns : List Node} (h1 : cat l at1 i = .ok n0 p0) (h2 : cats l at1 (l.length + 1) [n0] p0 = .ok ns p) (h3 : (ns = [n]) ∨ (ns.length ≠ 1 ∧ n = join 3 ns)) : alt l at1 i = .ok n p := by
  unfold alt
  rw [h1]
  dsimp only
  rw [h2]
  rcases h3 with rfl | ⟨h3, rfl⟩
  · rfl
  · match ns, h3 with
    | [], _ => rfl
    | [x], h3 => simp at h3
    | x :: y :: r, _ => rfl
section
variable {m : List UInt8} {k : Nat} {c : Int} {at1 at2 : Nat → Res Node} {L : Prop}
theorem sim_alt (hf : ∀ i, i ≤ l.length → Fine l i (at1 i)) (ha : ∀ i, i ≤ l.length → Sim k L (at1 i) (at2 (i + k))) (E : Emb l m k c) (i : Nat) (hi : i ≤ l.length) (n : Node) (p : Nat) (h : alt l at1 i = .ok n p) (hc : p < l.length ∨ c ≠ 124) :
    alt m at2 (i + k) = .ok n (p + k) ∨ (L ∧ ∃ q, alt m at2 (i + k) = .bad 3 q) := by
  obtain ⟨n0, p0, ns, h1, h2, h3⟩ := alt_parts h
  have hfc := fine_cat l at1 hf i hi
  rw [h1] at hfc
  have hl := E.len
  rcases sim_cat hf ha E i hi n0 p0 h1 with e1 | ⟨hL, q, e1⟩
  · rcases sim_cats hf ha E (l.length + 1) (m.length + 1) [n0] p0 hfc.2 (by omega) (by omega) ns p h2 with ⟨f2, _, e2⟩ | ⟨hL, q, e2⟩
    · left
      refine alt_mk e1 ?_ h3
      rw [e2]
      have hfs := fine_cats l at1 hf (l.length + 1) [n0] p0 hfc.2 (by omega)
      rw [h2] at hfs
      have hp : p ≤ l.length := hfs.2
      have hne : pk m (p + k) ≠ 124 := by
        rcases Nat.lt_or_ge p l.length with h' | h'
        · rw [E.at_ p h']; exact cats_end _ _ _ h2
        · obtain rfl : p = l.length := by omega
          rw [E.end_]
          rcases hc with h'' | h''
          · omega
          · exact h''
      rw [cats, if_neg hne]
    · right
      refine ⟨hL, q, ?_⟩
      unfold alt
      rw [e1]
      dsimp only
      rw [e2]
  · right
    refine ⟨hL, q, ?_⟩
    unfold alt
    rw [e1]
theorem sim_atom (E : Emb l m k c) : ∀ (d' d : Nat), d' ≤ d → ∀ i, i ≤ l.length → Sim k (d' < d) (atom l d i) (atom m d' (i + k)) := by
  intro d'
  induction d' with
  | zero =>
    intro d hd i hi a p h
    by_cases hw : wrongAtom (pk l i) = true
    · unfold atom at h; rw [if_pos hw] at h; exact (other_ok h).elim
    have hne : pk l i ≠ -1 := fun e => hw (by rw [e]; rfl)
    have e0 := E.get hne
    have hlt := pk_in hne
    unfold atom at h
    rw [if_neg hw] at h
    unfold atom
    rw [e0, if_neg hw]
    by_cases h40 : pk l i = 40
    · rw [if_pos h40] at h ⊢
      cases d with
      | zero => cases h
      | succ d => exact Or.inr ⟨by omega, _, rfl⟩
    rw [if_neg h40] at h ⊢
    left
    by_cases h46 : pk l i = 46
    · rw [if_pos h46] at h ⊢; cases h; congr 1; omega
    rw [if_neg h46] at h ⊢
    by_cases h91 : pk l i = 91
    · rw [if_pos h91] at h ⊢
      have hs := sh_cls E (i + 1) (by omega)
      rw [show i + k + 1 = i + 1 + k by omega]
      cases hr : cls l (i + 1) with
      | bad e q => rw [hr] at h; cases h
      | out => rw [hr] at h; cases h
      | ok S q => rw [hr] at h; rw [hs _ _ hr]; cases h; rfl
    rw [if_neg h91] at h ⊢
    by_cases h92 : pk l i = 92
    · rw [if_pos h92] at h ⊢
      have hs := sh_esc E i
      cases hr : esc l i with
      | bad e q => rw [hr] at h; cases h
      | out => rw [hr] at h; cases h
      | ok x q => rw [hr] at h; rw [hs _ _ hr]; cases h; rfl
    rw [if_neg h92] at h ⊢
    cases h
    congr 1
    omega
  | succ d' ih =>
    intro d0 hd i hi a p h
    obtain ⟨d, rfl⟩ : ∃ d, d0 = d + 1 := ⟨d0 - 1, by omega⟩
    by_cases hw : wrongAtom (pk l i) = true
    · rw [atom, if_pos hw] at h; exact (other_ok h).elim
    have hne : pk l i ≠ -1 := fun e => hw (by rw [e]; rfl)
    have e0 := E.get hne
    have hlt := pk_in hne
    rw [atom, if_neg hw] at h
    rw [atom, e0, if_neg hw]
    by_cases h40 : pk l i = 40
    · rw [if_pos h40] at h ⊢
      have ha := sim_alt (at1 := atom l d) (at2 := atom m d') (fine_atom l d) (ih d (by omega)) E (i + 1) (by omega)
      rw [show i + k + 1 = i + 1 + k by omega]
      cases hr : alt l (atom l d) (i + 1) with
      | bad e q => rw [hr] at h; cases h
      | out => rw [hr] at h; cases h
      | ok n q =>
        rw [hr] at h
        dsimp only at h
        by_cases h41 : pk l q = 41
        · have hq : q < l.length := pk_in (by rw [h41]; decide)
          rw [if_pos h41] at h
          rcases ha n q hr (Or.inl hq) with e1 | ⟨hL, q', e1⟩
          · left
            rw [e1]
            dsimp only
            rw [if_pos (by rw [E.at_ q hq]; exact h41)]
            cases h
            congr 1
            omega
          · right; rw [e1]; exact ⟨by omega, q', rfl⟩
        · rw [if_neg h41] at h; exact (other_ok h).elim
    rw [if_neg h40] at h ⊢
    left
    by_cases h46 : pk l i = 46
    · rw [if_pos h46] at h ⊢; cases h; congr 1; omega
    rw [if_neg h46] at h ⊢
    by_cases h91 : pk l i = 91
    · rw [if_pos h91] at h ⊢
      have hs := sh_cls E (i + 1) (by omega)
      rw [show i + k + 1 = i + 1 + k by omega]
      cases hr : cls l (i + 1) with
      | bad e q => rw [hr] at h; cases h
      | out => rw [hr] at h; cases h
      | ok S q => rw [hr] at h; rw [hs _ _ hr]; cases h; rfl
    rw [if_neg h91] at h ⊢
    by_cases h92 : pk l i = 92
    · rw [if_pos h92] at h ⊢
      have hs := sh_esc E i
      cases hr : esc l i with
      | bad e q => rw [hr] at h; cases h
      | out => rw [hr] at h; cases h
      | ok x q => rw [hr] at h; rw [hs _ _ hr]; cases h; rfl
    rw [if_neg h92] at h ⊢
    cases h
    congr 1
    omega
end
end Rx
end Go.Proofs.YthgcefppeaopkaaDoor
