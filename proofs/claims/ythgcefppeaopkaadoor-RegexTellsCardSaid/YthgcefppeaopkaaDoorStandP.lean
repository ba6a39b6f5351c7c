/- The parser upon a text that stands within another one: plain. -/
import Derived.Test.YthgcefppeaopkaaDoorRegexS
namespace Go.Proofs.YthgcefppeaopkaaDoor
open Go
namespace Rx
/-- l stands within m from k on; behind it stands c -/
structure Emb (l m : List UInt8) (k : Nat) (c : Int) : Prop where
  at_ : ∀ i, i < l.length → pk m (i + k) = pk l i
  end_ : pk m (l.length + k) = c
  len : l.length + k ≤ m.length
  term : c = -1 ∨ c = 41 ∨ c = 124
section
variable {l m : List UInt8} {k : Nat} {c : Int}
theorem Emb.get (E : Emb l m k c) {i : Nat} (h : pk l i ≠ -1) : pk m (i + k) = pk l i := E.at_ i (pk_in h)
theorem pk_out {i : Nat} (h : l.length ≤ i) : pk l i = -1 := by unfold pk; rw [List.getElem?_eq_none h]
theorem Emb.test (E : Emb l m k c) {i : Nat} (hi : i ≤ l.length) {b : Int} (h1 : b ≠ -1) (h2 : b ≠ 41) (h3 : b ≠ 124) : pk m (i + k) = b ↔ pk l i = b := by
  rcases Nat.lt_or_ge i l.length with h | h
  · rw [E.at_ i h]
  · obtain rfl : i = l.length := by omega
    rw [E.end_, pk_out (Nat.le_refl _)]
    have := E.term
    constructor <;> intro e <;> omega
/-- the same result, so many places further on -/
def Sh {α : Type} (k : Nat) (r r' : Res α) : Prop := ∀ a p, r = .ok a p → r' = .ok a (p + k)
/-- the same, or (if L) too many brackets are open -/
def Sim {α : Type} (k : Nat) (L : Prop) (r r' : Res α) : Prop := ∀ a p, r = .ok a p → r' = .ok a (p + k) ∨ (L ∧ ∃ q, r' = .bad 3 q)
theorem other_ok {α : Type} {i : Nat} {a : α} {p : Nat} (h : (other l i : Res α) = .ok a p) : False := by
  unfold other at h; split at h <;> cases h
theorem sh_esc (E : Emb l m k c) (i : Nat) : Sh k (esc l i) (esc m (i + k)) := by
  intro a p h
  unfold esc at h ⊢
  by_cases h1 : pk l (i + 1) = -1
  · rw [if_pos h1] at h; cases h
  rw [if_neg h1] at h
  have e1 := E.get h1
  rw [show i + 1 + k = i + k + 1 by omega] at e1
  rw [e1, if_neg h1]
  by_cases h2 : pk l (i + 1) = 100
  · rw [if_pos h2] at h ⊢; cases h; congr 1; omega
  rw [if_neg h2] at h ⊢
  by_cases h3 : pk l (i + 1) = 119
  · rw [if_pos h3] at h ⊢; cases h; congr 1; omega
  rw [if_neg h3] at h ⊢
  by_cases h4 : pk l (i + 1) = 120
  · rw [if_pos h4] at h ⊢
    by_cases h5 : pk l (i + 2) = -1
    · rw [if_pos h5] at h; cases h
    rw [if_neg h5] at h
    have e2 := E.get h5
    rw [show i + 2 + k = i + k + 2 by omega] at e2
    rw [e2, if_neg h5]
    by_cases h6 : hexv (pk l (i + 2)) < 0
    · rw [if_pos h6] at h; cases h
    rw [if_neg h6] at h ⊢
    by_cases h7 : pk l (i + 3) = -1
    · rw [if_pos h7] at h; cases h
    rw [if_neg h7] at h
    have e3 := E.get h7
    rw [show i + 3 + k = i + k + 3 by omega] at e3
    rw [e3, if_neg h7]
    by_cases h8 : hexv (pk l (i + 3)) < 0
    · rw [if_pos h8] at h; cases h
    rw [if_neg h8] at h ⊢
    cases h
    congr 1
    omega
  rw [if_neg h4] at h ⊢
  by_cases h5 : plainB (pk l (i + 1)) = true
  · rw [if_pos h5] at h ⊢; cases h; congr 1; omega
  · rw [if_neg h5] at h; cases h
theorem sh_sign (E : Emb l m k c) (i : Nat) (hi : i ≤ l.length) : Sh k (sign l i) (sign m (i + k)) := by
  intro a p h
  unfold sign at h ⊢
  by_cases h1 : pk l i = 92
  · rw [if_pos h1] at h
    rw [if_pos ((E.test hi (by decide) (by decide) (by decide)).2 h1)]
    exact sh_esc E i a p h
  · rw [if_neg h1] at h
    rw [if_neg (fun e => h1 ((E.test hi (by decide) (by decide) (by decide)).1 e))]
    by_cases h2 : pk l i = -1 ∨ pk l i = 91 ∨ pk l i = 93 ∨ pk l i = 45 ∨ pk l i = 94
    · rw [if_pos h2] at h; exact (other_ok h).elim
    · rw [if_neg h2] at h
      have e := E.get (i := i) (by omega)
      rw [e, if_neg h2]
      cases h
      congr 1
      omega
theorem sh_item (E : Emb l m k c) (i : Nat) (hi : i ≤ l.length) : Sh k (item l i) (item m (i + k)) := by
  intro a p h
  unfold item at h ⊢
  have hf := fine_sign l i
  have hs := sh_sign E i hi
  cases hr : sign l i with
  | bad e q => rw [hr] at h; cases h
  | out => rw [hr] at h; cases h
  | ok x q =>
    obtain ⟨S, many⟩ := x
    rw [hr] at h hf
    rw [hs _ _ hr]
    dsimp only at h ⊢
    have hq := hf.2
    by_cases h1 : many = true ∨ pk l q ≠ 45
    · rw [if_pos h1] at h
      rw [if_pos (h1.imp_right fun e e' => e ((E.test hq (by decide) (by decide) (by decide)).1 e'))]
      cases h; rfl
    · rw [if_neg h1] at h
      have h45 : pk l q = 45 := Decidable.byContradiction fun e => h1 (Or.inr e)
      have hm : ¬ many = true := fun e => h1 (Or.inl e)
      rw [if_neg (by intro e; rcases e with e | e; exact hm e; exact e ((E.test hq (by decide) (by decide) (by decide)).2 h45))]
      have hq1 : q + 1 ≤ l.length := pk_in (by rw [h45]; decide)
      have hs2 := sh_sign E (q + 1) hq1
      rw [show q + k + 1 = q + 1 + k by omega]
      cases hr2 : sign l (q + 1) with
      | bad e q => rw [hr2] at h; cases h
      | out => rw [hr2] at h; cases h
      | ok y r =>
        obtain ⟨T, more⟩ := y
        rw [hr2] at h
        rw [hs2 _ _ hr2]
        dsimp only at h ⊢
        by_cases h3 : more = true ∨ T.first < S.first
        · rw [if_pos h3] at h; cases h
        · rw [if_neg h3] at h ⊢; cases h; rfl
theorem sh_items (E : Emb l m k c) : ∀ (f f' : Nat) (S : CSet) (i : Nat), i ≤ l.length → f ≤ f' → Sh k (items l f S i) (items m f' S (i + k)) := by
  intro f
  induction f with
  | zero => intro f' S i hi hf a p h; cases h
  | succ f ih =>
    intro f' S i hi hf a p h
    obtain ⟨f'', rfl⟩ : ∃ f'', f' = f'' + 1 := ⟨f' - 1, by omega⟩
    unfold items at h ⊢
    have hfi := fine_item l i
    have hs := sh_item E i hi
    cases hr : item l i with
    | bad e q => rw [hr] at h; cases h
    | out => rw [hr] at h; cases h
    | ok T q =>
      rw [hr] at h hfi
      rw [hs _ _ hr]
      dsimp only at h ⊢
      by_cases h1 : pk l q = 93
      · rw [if_pos h1] at h
        rw [if_pos ((E.test hfi.2 (by decide) (by decide) (by decide)).2 h1)]
        cases h; rfl
      · rw [if_neg h1] at h
        rw [if_neg (fun e => h1 ((E.test hfi.2 (by decide) (by decide) (by decide)).1 e))]
        exact ih f'' _ q hfi.2 (by omega) a p h
theorem sh_cls (E : Emb l m k c) (i : Nat) (hi : i ≤ l.length) : Sh k (cls l i) (cls m (i + k)) := by
  intro a p h
  unfold cls at h ⊢
  have h94 : pk m (i + k) = 94 ↔ pk l i = 94 := E.test hi (by decide) (by decide) (by decide)
  have hl := E.len
  by_cases h1 : pk l i = 94
  · have hi1 : i + 1 ≤ l.length := pk_in (by rw [h1]; decide)
    have hs := sh_items E (l.length + 1) (m.length + 1) CSet.empty (i + 1) hi1 (by omega)
    rw [if_pos h1] at h
    rw [if_pos (h94.2 h1), show i + k + 1 = i + 1 + k by omega]
    cases hr : items l (l.length + 1) CSet.empty (i + 1) with
    | bad e q => rw [hr] at h; cases h
    | out => rw [hr] at h; cases h
    | ok S q =>
      rw [hr] at h
      rw [hs _ _ hr]
      dsimp only at h ⊢
      rw [if_pos h1] at h
      rw [if_pos (h94.2 h1)]
      cases h
      congr 1
      omega
  · have hs := sh_items E (l.length + 1) (m.length + 1) CSet.empty i hi (by omega)
    rw [if_neg h1] at h
    rw [if_neg (fun e => h1 (h94.1 e))]
    cases hr : items l (l.length + 1) CSet.empty i with
    | bad e q => rw [hr] at h; cases h
    | out => rw [hr] at h; cases h
    | ok S q =>
      rw [hr] at h
      rw [hs _ _ hr]
      dsimp only at h ⊢
      rw [if_neg h1] at h
      rw [if_neg (fun e => h1 (h94.1 e))]
      cases h
      congr 1
      omega
theorem digit_bd {b : Int} (h : digitB b = true) : 48 ≤ b ∧ b ≤ 57 := by simpa [digitB] using h
theorem sh_digs (E : Emb l m k c) : ∀ (f f' n i : Nat), i + f = l.length → f ≤ f' → digs m f' n (i + k) = ((digs l f n i).1, (digs l f n i).2 + k) := by
  intro f
  induction f with
  | zero =>
    intro f' n i hi hf
    obtain rfl : i = l.length := by omega
    cases f' with
    | zero => rfl
    | succ f' =>
      unfold digs
      rw [E.end_, if_neg (fun e => by have := digit_bd e; have := E.term; omega)]
  | succ f ih =>
    intro f' n i hi hf
    obtain ⟨f'', rfl⟩ : ∃ f'', f' = f'' + 1 := ⟨f' - 1, by omega⟩
    unfold digs
    rw [E.at_ i (by omega)]
    by_cases h : digitB (pk l i) = true
    · rw [if_pos h, if_pos h, show i + k + 1 = i + 1 + k by omega]
      exact ih f'' _ (i + 1) (by omega) (by omega)
    · rw [if_neg h, if_neg h]
theorem sh_number (E : Emb l m k c) (i : Nat) (hi : i ≤ l.length) : Sh k (number l i) (number m (i + k)) := by
  intro a p h
  have hl := E.len
  have hd := sh_digs E (l.length - i) (m.length - (i + k)) 0 i (by omega) (by omega)
  unfold number at h ⊢
  rw [hd]
  dsimp only
  generalize digs l (l.length - i) 0 i = r at *
  obtain ⟨n, q⟩ := r
  dsimp only at h ⊢
  have hb := E.test hi (b := 48) (by decide) (by decide) (by decide)
  by_cases h1 : q = i
  · rw [if_pos h1] at h; exact (other_ok h).elim
  rw [if_neg h1] at h
  rw [if_neg (by omega)]
  by_cases h2 : pk l i = 48 ∧ q > i + 1
  · rw [if_pos h2] at h; cases h
  rw [if_neg h2] at h
  rw [if_neg (fun e => h2 ⟨hb.1 e.1, by omega⟩)]
  by_cases h3 : n > 16
  · rw [if_pos h3] at h; cases h
  rw [if_neg h3] at h ⊢
  cases h; rfl
theorem sh_brc (E : Emb l m k c) (i : Nat) (hi : i ≤ l.length) : Sh k (brc l i) (brc m (i + k)) := by
  intro a p h
  unfold brc at h ⊢
  have hf := fine_number l i hi
  have hs := sh_number E i hi
  cases hr : number l i with
  | bad e q => rw [hr] at h; cases h
  | out => rw [hr] at h; cases h
  | ok low q =>
    rw [hr] at h hf
    rw [hs _ _ hr]
    dsimp only at h ⊢
    have hq := hf.2
    have t44 := E.test hq (b := 44) (by decide) (by decide) (by decide)
    by_cases h1 : pk l q = 44
    · rw [if_pos h1] at h
      rw [if_pos (t44.2 h1), show q + k + 1 = q + 1 + k by omega]
      have hq1 : q + 1 ≤ l.length := pk_in (by rw [h1]; decide)
      have t125 := E.test hq1 (b := 125) (by decide) (by decide) (by decide)
      by_cases h2 : pk l (q + 1) = 125
      · rw [if_pos h2] at h
        rw [if_pos (t125.2 h2)]
        cases h; rfl
      · rw [if_neg h2] at h
        rw [if_neg (fun e => h2 (t125.1 e))]
        have hs2 := sh_number E (q + 1) hq1
        cases hr2 : number l (q + 1) with
        | bad e q => rw [hr2] at h; cases h
        | out => rw [hr2] at h; cases h
        | ok high r =>
          rw [hr2] at h
          rw [hs2 _ _ hr2]
          dsimp only at h ⊢
          by_cases h3 : high = 0 ∨ high < low
          · rw [if_pos h3] at h; cases h
          · rw [if_neg h3] at h ⊢; cases h; rfl
    · rw [if_neg h1] at h
      rw [if_neg (fun e => h1 (t44.1 e))]
      by_cases h2 : low = 0
      · rw [if_pos h2] at h; cases h
      · rw [if_neg h2] at h ⊢; cases h; rfl
variable {at1 at2 : Nat → Res Node} {L : Prop}
theorem sim_piece (E : Emb l m k c) (i : Nat) (hf : Fine l i (at1 i)) (ha : Sim k L (at1 i) (at2 (i + k))) : Sim k L (piece l at1 i) (piece m at2 (i + k)) := by
  intro a p h
  unfold piece at h ⊢
  cases hr : at1 i with
  | bad e q => rw [hr] at h; cases h
  | out => rw [hr] at h; cases h
  | ok n q =>
    rw [hr] at h hf
    rcases ha n q hr with h0 | ⟨hL, q', h0⟩
    · rw [h0]
      dsimp only at h ⊢
      have hq := hf.2
      have t1 := E.test hq (b := 42) (by decide) (by decide) (by decide)
      have t2 := E.test hq (b := 43) (by decide) (by decide) (by decide)
      have t3 := E.test hq (b := 63) (by decide) (by decide) (by decide)
      have t4 := E.test hq (b := 123) (by decide) (by decide) (by decide)
      by_cases h1 : pk l q = 42
      · rw [if_pos h1] at h; rw [if_pos (t1.2 h1)]; cases h; left; congr 1; omega
      rw [if_neg h1] at h; rw [if_neg (fun e => h1 (t1.1 e))]
      by_cases h2 : pk l q = 43
      · rw [if_pos h2] at h; rw [if_pos (t2.2 h2)]; cases h; left; congr 1; omega
      rw [if_neg h2] at h; rw [if_neg (fun e => h2 (t2.1 e))]
      by_cases h3 : pk l q = 63
      · rw [if_pos h3] at h; rw [if_pos (t3.2 h3)]; cases h; left; congr 1; omega
      rw [if_neg h3] at h; rw [if_neg (fun e => h3 (t3.1 e))]
      by_cases h4 : pk l q = 123
      · rw [if_pos h4] at h; rw [if_pos (t4.2 h4)]
        have hq1 : q + 1 ≤ l.length := pk_in (by rw [h4]; decide)
        have hs := sh_brc E (q + 1) hq1
        have hfb := fine_brc l (q + 1) hq1
        rw [show q + k + 1 = q + 1 + k by omega]
        cases hr2 : brc l (q + 1) with
        | bad e q => rw [hr2] at h; cases h
        | out => rw [hr2] at h; cases h
        | ok x r =>
          obtain ⟨lo, hi⟩ := x
          rw [hr2] at h hfb
          rw [hs _ _ hr2]
          dsimp only at h ⊢
          have t5 := E.test hfb.2 (b := 125) (by decide) (by decide) (by decide)
          by_cases h5 : pk l r = 125
          · rw [if_pos h5] at h; rw [if_pos (t5.2 h5)]; cases h; left; congr 1; omega
          · rw [if_neg h5] at h; exact (other_ok h).elim
      · rw [if_neg h4] at h; rw [if_neg (fun e => h4 (t4.1 e))]; cases h; left; rfl
    · rw [h0]; exact Or.inr ⟨hL, q', rfl⟩
variable (hf : ∀ i, i ≤ l.length → Fine l i (at1 i)) (ha : ∀ i, i ≤ l.length → Sim k L (at1 i) (at2 (i + k)))
include hf ha
theorem sim_pieces (E : Emb l m k c) : ∀ (f f' : Nat) (ns : List Node) (i : Nat), i ≤ l.length → f ≤ f' → Sim k L (pieces l at1 f ns i) (pieces m at2 f' ns (i + k)) := by
  intro f
  induction f with
  | zero => intro f' ns i hi hff a p h; cases h
  | succ f ih =>
    intro f' ns i hi hff a p h
    obtain ⟨f'', rfl⟩ : ∃ f'', f' = f'' + 1 := ⟨f' - 1, by omega⟩
    unfold pieces at h ⊢
    by_cases h1 : pk l i = -1 ∨ pk l i = 124 ∨ pk l i = 41
    · rw [if_pos h1] at h
      have h2 : pk m (i + k) = -1 ∨ pk m (i + k) = 124 ∨ pk m (i + k) = 41 := by
        rcases Nat.lt_or_ge i l.length with h' | h'
        · rw [E.at_ i h']; exact h1
        · obtain rfl : i = l.length := by omega
          rw [E.end_]; have := E.term; omega
      rw [if_pos h2]
      cases h; left; rfl
    · rw [if_neg h1] at h
      rw [E.get (i := i) (by omega), if_neg h1]
      have hp := sim_piece E i (hf i hi) (ha i hi)
      have hfp := fine_piece l at1 i (hf i hi)
      cases hr : piece l at1 i with
      | bad e q => rw [hr] at h; cases h
      | out => rw [hr] at h; cases h
      | ok n q =>
        rw [hr] at h hfp
        rcases hp n q hr with h0 | ⟨hL, q', h0⟩
        · rw [h0]
          exact ih f'' _ q hfp.2 (by omega) a p h
        · rw [h0]; exact Or.inr ⟨hL, q', rfl⟩
theorem sim_cat (E : Emb l m k c) (i : Nat) (hi : i ≤ l.length) : Sim k L (cat l at1 i) (cat m at2 (i + k)) := by
  intro a p h
  unfold cat at h ⊢
  have hp := sim_pieces hf ha E (l.length + 1) (m.length + 1) [] i hi (by have := E.len; omega)
  cases hr : pieces l at1 (l.length + 1) [] i with
  | bad e q => rw [hr] at h; cases h
  | out => rw [hr] at h; cases h
  | ok ns q =>
    rw [hr] at h
    rcases hp ns q hr with h0 | ⟨hL, q', h0⟩
    · rw [h0]; cases h; left; rfl
    · rw [h0]; exact Or.inr ⟨hL, q', rfl⟩
/-- bars: as far as the end of l; there cats goes on, if c is a bar -/
theorem sim_cats (E : Emb l m k c) : ∀ (f f' : Nat) (ns : List Node) (i : Nat), i ≤ l.length → f ≤ f' → m.length < i + k + f' → ∀ (ms : List Node) (p : Nat), cats l at1 f ns i = .ok ms p →
    (∃ f2, m.length < p + k + (f2 + 1) ∧ cats m at2 f' ns (i + k) = cats m at2 (f2 + 1) ms (p + k)) ∨ (L ∧ ∃ q, cats m at2 f' ns (i + k) = .bad 3 q) := by
  intro f
  induction f with
  | zero => intro f' ns i hi hff hm ms p h; cases h
  | succ f ih =>
    intro f' ns i hi hff hm ms p h
    obtain ⟨f'', rfl⟩ : ∃ f'', f' = f'' + 1 := ⟨f' - 1, by omega⟩
    by_cases h1 : pk l i = 124
    · rw [cats, if_pos h1] at h
      have hi1 : i + 1 ≤ l.length := pk_in (by rw [h1]; decide)
      have hs := sim_cat hf ha E (i + 1) hi1
      have hfc := fine_cat l at1 hf (i + 1) hi1
      cases hr : cat l at1 (i + 1) with
      | bad e q => rw [hr] at h; cases h
      | out => rw [hr] at h; cases h
      | ok n q =>
        rw [hr] at h hfc
        have hb : pk m (i + k) = 124 := by rw [E.get (by rw [h1]; decide), h1]
        rcases hs n q hr with h0 | ⟨hL, q', h0⟩
        · have e1 : cats m at2 (f'' + 1) ns (i + k) = cats m at2 f'' (ns ++ [n]) (q + k) := by rw [cats, if_pos hb, show i + k + 1 = i + 1 + k by omega, h0]
          rw [e1]
          rcases ih f'' (ns ++ [n]) q hfc.2 (by omega) (by have := hfc.1; omega) ms p h with ⟨f2, h2, h4⟩ | h5
          · exact Or.inl ⟨f2, h2, h4⟩
          · exact Or.inr h5
        · have e1 : cats m at2 (f'' + 1) ns (i + k) = .bad 3 q' := by rw [cats, if_pos hb, show i + k + 1 = i + 1 + k by omega, h0]
          exact Or.inr ⟨hL, q', e1⟩
    · rw [cats, if_neg h1] at h
      cases h
      exact Or.inl ⟨f'', by omega, rfl⟩
end
end Rx
end Go.Proofs.YthgcefppeaopkaaDoor
