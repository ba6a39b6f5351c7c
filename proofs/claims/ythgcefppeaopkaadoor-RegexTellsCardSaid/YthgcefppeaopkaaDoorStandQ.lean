/- The parser's faults; alternatives, atoms and wholes within another text: plain. -/
import Derived.Test.YthgcefppeaopkaaDoorStandP
namespace Go.Proofs.YthgcefppeaopkaaDoor
open Go
namespace Rx
/-- a fault has a number, and lies within the text -/
def Bads {α : Type} (l : List UInt8) (r : Res α) : Prop := ∀ e p, r = .bad e p → (e = 1 ∨ e = 2 ∨ e = 3) ∧ p ≤ l.length
theorem bads_ok {α : Type} {l : List UInt8} {a : α} {p : Nat} : Bads l (.ok a p) := fun e q h => by cases h
theorem bads_out {α : Type} {l : List UInt8} : Bads l (.out : Res α) := fun e q h => by cases h
theorem bads_mk {α : Type} {l : List UInt8} {e : Int} {p : Nat} (h : e = 1 ∨ e = 2 ∨ e = 3) (hp : p ≤ l.length) : Bads l (.bad e p : Res α) := fun e' q h' => by cases h'; exact ⟨h, hp⟩
theorem bads_pass {α β : Type} {l : List UInt8} {e : Int} {p : Nat} (h : Bads l (.bad e p : Res α)) : Bads l (.bad e p : Res β) := fun e' q h' => by cases h'; exact h e p rfl
theorem bads_other {α : Type} (l : List UInt8) (i : Nat) (hi : i ≤ l.length) : Bads l (other l i : Res α) := by
  unfold other; split
  · exact bads_mk (Or.inl rfl) (Nat.le_refl _)
  · exact bads_mk (Or.inr (Or.inl rfl)) hi
variable {l : List UInt8}
theorem bads_esc (i : Nat) (hi : i ≤ l.length) : Bads l (esc l i) := by
  unfold esc
  repeat' split
  all_goals first | exact bads_ok | exact bads_mk (Or.inl rfl) (Nat.le_refl _) | exact bads_mk (Or.inr (Or.inl rfl)) hi
theorem bads_sign (i : Nat) (hi : i ≤ l.length) : Bads l (sign l i) := by
  unfold sign; split
  · exact bads_esc i hi
  · split
    · exact bads_other l i hi
    · exact bads_ok
theorem bads_item (i : Nat) (hi : i ≤ l.length) : Bads l (item l i) := by
  unfold item
  have h1 := bads_sign (l := l) i hi
  have hf := fine_sign l i
  cases hr : sign l i with
  | bad e q => rw [hr] at h1; exact bads_pass h1
  | out => exact bads_out
  | ok x q =>
    obtain ⟨S, many⟩ := x
    rw [hr] at hf
    dsimp only
    by_cases h2 : many = true ∨ pk l q ≠ 45
    · rw [if_pos h2]; exact bads_ok
    · rw [if_neg h2]
      have h45 : pk l q = 45 := Decidable.byContradiction fun e => h2 (Or.inr e)
      have hq1 : q + 1 ≤ l.length := pk_in (by rw [h45]; decide)
      have h3 := bads_sign (l := l) (q + 1) hq1
      cases hr2 : sign l (q + 1) with
      | bad e q => rw [hr2] at h3; exact bads_pass h3
      | out => exact bads_out
      | ok y r =>
        obtain ⟨T, more⟩ := y
        dsimp only
        split
        · exact bads_mk (Or.inr (Or.inl rfl)) hq1
        · exact bads_ok
theorem bads_items : ∀ (f : Nat) (S : CSet) (i : Nat), i ≤ l.length → Bads l (items l f S i) := by
  intro f
  induction f with
  | zero => intro S i hi; exact bads_out
  | succ f ih =>
    intro S i hi
    unfold items
    have h1 := bads_item (l := l) i hi
    have hf := fine_item l i
    cases hr : item l i with
    | bad e q => rw [hr] at h1; exact bads_pass h1
    | out => exact bads_out
    | ok T q =>
      rw [hr] at hf
      dsimp only
      split
      · exact bads_ok
      · exact ih _ q hf.2
theorem bads_cls (i : Nat) (hi : i ≤ l.length) : Bads l (cls l i) := by
  unfold cls
  have h1 : Bads l (items l (l.length + 1) CSet.empty (if pk l i = 94 then i + 1 else i)) := by
    by_cases h : pk l i = 94
    · rw [if_pos h]; exact bads_items _ _ _ (pk_in (by rw [h]; decide))
    · rw [if_neg h]; exact bads_items _ _ _ hi
  cases hr : items l (l.length + 1) CSet.empty (if pk l i = 94 then i + 1 else i) with
  | bad e q => rw [hr] at h1; exact bads_pass h1
  | out => exact bads_out
  | ok S q => exact bads_ok
theorem bads_number (i : Nat) (hi : i ≤ l.length) : Bads l (number l i) := by
  unfold number
  split
  · exact bads_other l i hi
  · split
    · exact bads_mk (Or.inr (Or.inl rfl)) hi
    · split
      · exact bads_mk (Or.inr (Or.inr rfl)) hi
      · exact bads_ok
theorem bads_brc (i : Nat) (hi : i ≤ l.length) : Bads l (brc l i) := by
  unfold brc
  have h1 := bads_number (l := l) i hi
  have hf := fine_number l i hi
  cases hr : number l i with
  | bad e q => rw [hr] at h1; exact bads_pass h1
  | out => exact bads_out
  | ok low q =>
    rw [hr] at hf
    dsimp only
    by_cases h2 : pk l q = 44
    · rw [if_pos h2]
      have hq1 : q + 1 ≤ l.length := pk_in (by rw [h2]; decide)
      split
      · exact bads_ok
      · have h3 := bads_number (l := l) (q + 1) hq1
        cases hr2 : number l (q + 1) with
        | bad e q => rw [hr2] at h3; exact bads_pass h3
        | out => exact bads_out
        | ok high r =>
          dsimp only
          split
          · exact bads_mk (Or.inr (Or.inl rfl)) hq1
          · exact bads_ok
    · rw [if_neg h2]
      split
      · exact bads_mk (Or.inr (Or.inl rfl)) hi
      · exact bads_ok
section
variable {at1 : Nat → Res Node}
theorem bads_piece (i : Nat) (hf : Fine l i (at1 i)) (ha : Bads l (at1 i)) : Bads l (piece l at1 i) := by
  unfold piece
  cases hr : at1 i with
  | bad e q => rw [hr] at ha; exact bads_pass ha
  | out => exact bads_out
  | ok n q =>
    rw [hr] at hf
    dsimp only
    split
    · exact bads_ok
    · split
      · exact bads_ok
      · split
        · exact bads_ok
        · by_cases h : pk l q = 123
          · rw [if_pos h]
            have hq1 : q + 1 ≤ l.length := pk_in (by rw [h]; decide)
            have h1 := bads_brc (l := l) (q + 1) hq1
            have hfb := fine_brc l (q + 1) hq1
            cases hr2 : brc l (q + 1) with
            | bad e q => rw [hr2] at h1; exact bads_pass h1
            | out => exact bads_out
            | ok x r =>
              obtain ⟨lo, hi⟩ := x
              rw [hr2] at hfb
              dsimp only
              split
              · exact bads_ok
              · exact bads_other l r hfb.2
          · rw [if_neg h]; exact bads_ok
variable (hf : ∀ i, i ≤ l.length → Fine l i (at1 i)) (ha : ∀ i, i ≤ l.length → Bads l (at1 i))
include hf ha
theorem bads_pieces : ∀ (f : Nat) (ns : List Node) (i : Nat), i ≤ l.length → Bads l (pieces l at1 f ns i) := by
  intro f
  induction f with
  | zero => intro ns i hi; exact bads_out
  | succ f ih =>
    intro ns i hi
    unfold pieces
    split
    · exact bads_ok
    · have h1 := bads_piece i (hf i hi) (ha i hi)
      have hfp := fine_piece l at1 i (hf i hi)
      cases hr : piece l at1 i with
      | bad e q => rw [hr] at h1; exact bads_pass h1
      | out => exact bads_out
      | ok n q => rw [hr] at hfp; exact ih _ q hfp.2
theorem bads_cat (i : Nat) (hi : i ≤ l.length) : Bads l (cat l at1 i) := by
  unfold cat
  have h1 := bads_pieces hf ha (l.length + 1) [] i hi
  cases hr : pieces l at1 (l.length + 1) [] i with
  | bad e q => rw [hr] at h1; exact bads_pass h1
  | out => exact bads_out
  | ok ns q => exact bads_ok
theorem bads_cats : ∀ (f : Nat) (ns : List Node) (i : Nat), i ≤ l.length → Bads l (cats l at1 f ns i) := by
  intro f
  induction f with
  | zero => intro ns i hi; exact bads_out
  | succ f ih =>
    intro ns i hi
    unfold cats
    by_cases h : pk l i = 124
    · rw [if_pos h]
      have hi1 : i + 1 ≤ l.length := pk_in (by rw [h]; decide)
      have h1 := bads_cat hf ha (i + 1) hi1
      have hfc := fine_cat l at1 hf (i + 1) hi1
      cases hr : cat l at1 (i + 1) with
      | bad e q => rw [hr] at h1; exact bads_pass h1
      | out => exact bads_out
      | ok n q => rw [hr] at hfc; exact ih _ q hfc.2
    · rw [if_neg h]; exact bads_ok
theorem bads_alt (i : Nat) (hi : i ≤ l.length) : Bads l (alt l at1 i) := by
  unfold alt
  have h1 := bads_cat hf ha i hi
  have hfc := fine_cat l at1 hf i hi
  cases hr : cat l at1 i with
  | bad e q => rw [hr] at h1; exact bads_pass h1
  | out => exact bads_out
  | ok n q =>
    rw [hr] at hfc
    dsimp only
    have h2 := bads_cats hf ha (l.length + 1) [n] q hfc.2
    split
    · exact bads_ok
    · exact bads_ok
    · rename_i hr2; rw [hr2] at h2; exact bads_pass h2
    · exact bads_out
end
theorem bads_atom : ∀ (d i : Nat), i ≤ l.length → Bads l (atom l d i) := by
  intro d
  induction d with
  | zero =>
    intro i hi
    rw [atom]
    split
    · exact bads_other l i hi
    · rename_i hw
      split
      · exact bads_mk (Or.inr (Or.inr rfl)) hi
      · split
        · exact bads_ok
        · split
          · rename_i h _ h91
            have h1 := bads_cls (l := l) (i + 1) (pk_in (by rw [h91]; decide))
            cases hr : cls l (i + 1) with
            | bad e q => rw [hr] at h1; exact bads_pass h1
            | out => exact bads_out
            | ok S q => exact bads_ok
          · split
            · have h1 := bads_esc (l := l) i hi
              cases hr : esc l i with
              | bad e q => rw [hr] at h1; exact bads_pass h1
              | out => exact bads_out
              | ok x q => exact bads_ok
            · exact bads_ok
  | succ d ih =>
    intro i hi
    rw [atom]
    split
    · exact bads_other l i hi
    · rename_i hw
      split
      · rename_i h40
        have hi1 : i + 1 ≤ l.length := pk_in (by rw [h40]; decide)
        have h1 := bads_alt (at1 := atom l d) (fine_atom l d) ih (i + 1) hi1
        have hfa := fine_alt l (atom l d) (fine_atom l d) (i + 1) hi1
        cases hr : alt l (atom l d) (i + 1) with
        | bad e q => rw [hr] at h1; exact bads_pass h1
        | out => exact bads_out
        | ok n q =>
          rw [hr] at hfa
          dsimp only
          split
          · exact bads_ok
          · exact bads_other l q hfa.2
      · split
        · exact bads_ok
        · split
          · rename_i h _ h91
            have h1 := bads_cls (l := l) (i + 1) (pk_in (by rw [h91]; decide))
            cases hr : cls l (i + 1) with
            | bad e q => rw [hr] at h1; exact bads_pass h1
            | out => exact bads_out
            | ok S q => exact bads_ok
          · split
            · have h1 := bads_esc (l := l) i hi
              cases hr : esc l i with
              | bad e q => rw [hr] at h1; exact bads_pass h1
              | out => exact bads_out
              | ok x q => exact bads_ok
            · exact bads_ok
/-- a whole that was read; or a fault: its number and place -/
theorem parse_cases (l : List UInt8) : (∃ n, alt l (atom l 16) 0 = .ok n l.length ∧ parse l = (n, 0, 0) ∧ l.length ≤ 256) ∨ (∃ e p, parse l = (zero, e, p) ∧ (e = 1 ∨ e = 2 ∨ e = 3) ∧ p ≤ l.length) := by
  unfold parse
  split
  · exact Or.inr ⟨3, 256, rfl, Or.inr (Or.inr rfl), by omega⟩
  · rename_i hl
    have hfi := fine_alt l (atom l 16) (fine_atom l 16) 0 (Nat.zero_le _)
    have hb := bads_alt (at1 := atom l 16) (fine_atom l 16) (bads_atom 16) 0 (Nat.zero_le _)
    cases hr : alt l (atom l 16) 0 with
    | out => rw [hr] at hfi; exact hfi.elim
    | bad e p => rw [hr] at hb; exact Or.inr ⟨e, p, rfl, hb e p rfl⟩
    | ok n p =>
      rw [hr] at hfi
      have hp : p ≤ l.length := hfi.2
      dsimp only
      by_cases h : p < l.length
      · rw [if_pos h]
        have ho := bads_other (α := Node) l p hp
        cases hr2 : (other l p : Res Node) with
        | ok n q => exact (other_ok hr2).elim
        | out => unfold other at hr2; split at hr2 <;> cases hr2
        | bad e q => rw [hr2] at ho; exact Or.inr ⟨e, q, rfl, ho e q rfl⟩
      · rw [if_neg h]
        obtain rfl : p = l.length := by omega
        exact Or.inl ⟨n, rfl, rfl, by omega⟩
theorem cats_end {at1 : Nat → Res Node} : ∀ (f : Nat) (ns : List Node) (i : Nat) {ms : List Node} {p : Nat}, cats l at1 f ns i = .ok ms p → pk l p ≠ 124
  | 0, ns, i, ms, p, h => by cases h
  | f + 1, ns, i, ms, p, h => by
    unfold cats at h
    by_cases h1 : pk l i = 124
    · rw [if_pos h1] at h
      cases hr : cat l at1 (i + 1) with
      | bad e q => rw [hr] at h; cases h
      | out => rw [hr] at h; cases h
      | ok n q => rw [hr] at h; exact cats_end f _ q h
    · rw [if_neg h1] at h; cases h; exact h1
theorem alt_parts {at1 : Nat → Res Node} {i : Nat} {n : Node} {p : Nat} (h : alt l at1 i = .ok n p) :
    ∃ n0 p0 ns, cat l at1 i = .ok n0 p0 ∧ cats l at1 (l.length + 1) [n0] p0 = .ok ns p ∧ ((ns = [n]) ∨ (ns.length ≠ 1 ∧ n = join 3 ns)) := by
  unfold alt at h
  cases hr : cat l at1 i with
  | bad e q => rw [hr] at h; cases h
  | out => rw [hr] at h; cases h
  | ok n0 p0 =>
    rw [hr] at h
    dsimp only at h
    cases hr2 : cats l at1 (l.length + 1) [n0] p0 with
    | bad e q => rw [hr2] at h; cases h
    | out => rw [hr2] at h; cases h
    | ok ns q =>
      rw [hr2] at h
      refine ⟨n0, p0, ns, rfl, ?_⟩
      match ns, h with
      | [], h => cases h; exact ⟨hr2, Or.inr ⟨by simp, rfl⟩⟩
      | [x], h => cases h; exact ⟨hr2, Or.inl rfl⟩
      | x :: y :: r, h => cases h; exact ⟨hr2, Or.inr ⟨by simp, rfl⟩⟩
theorem alt_mk {at1 : Nat → Res Node} {i p0 p : Nat} {n0 n : Node} {ns : List Node} (h1 : cat l at1 i = .ok n0 p0) (h2 : cats l at1 (l.length + 1) [n0] p0 = .ok ns p) (h3 : (ns = [n]) ∨ (ns.length ≠ 1 ∧ n = join 3 ns)) : alt l at1 i = .ok n p := by
  unfold alt
  rw [h1]
  dsimp only
  rw [h2]
  rcases h3 with rfl | ⟨h3, rfl⟩
  · rfl
  · match ns, h3 with
    | [], _ => rfl
    | [x], h3 => simp at h3
    | x :: y :: r, _ => rfl
section
variable {m : List UInt8} {k : Nat} {c : Int} {at1 at2 : Nat → Res Node} {L : Prop}
theorem sim_alt (hf : ∀ i, i ≤ l.length → Fine l i (at1 i)) (ha : ∀ i, i ≤ l.length → Sim k L (at1 i) (at2 (i + k))) (E : Emb l m k c) (i : Nat) (hi : i ≤ l.length) (n : Node) (p : Nat) (h : alt l at1 i = .ok n p) (hc : p < l.length ∨ c ≠ 124) :
    alt m at2 (i + k) = .ok n (p + k) ∨ (L ∧ ∃ q, alt m at2 (i + k) = .bad 3 q) := by
  obtain ⟨n0, p0, ns, h1, h2, h3⟩ := alt_parts h
  have hfc := fine_cat l at1 hf i hi
  rw [h1] at hfc
  have hl := E.len
  rcases sim_cat hf ha E i hi n0 p0 h1 with e1 | ⟨hL, q, e1⟩
  · rcases sim_cats hf ha E (l.length + 1) (m.length + 1) [n0] p0 hfc.2 (by omega) (by omega) ns p h2 with ⟨f2, _, e2⟩ | ⟨hL, q, e2⟩
    · left
      refine alt_mk e1 ?_ h3
      rw [e2]
      have hfs := fine_cats l at1 hf (l.length + 1) [n0] p0 hfc.2 (by omega)
      rw [h2] at hfs
      have hp : p ≤ l.length := hfs.2
      have hne : pk m (p + k) ≠ 124 := by
        rcases Nat.lt_or_ge p l.length with h' | h'
        · rw [E.at_ p h']; exact cats_end _ _ _ h2
        · obtain rfl : p = l.length := by omega
          rw [E.end_]
          rcases hc with h'' | h''
          · omega
          · exact h''
      rw [cats, if_neg hne]
    · right
      refine ⟨hL, q, ?_⟩
      unfold alt
      rw [e1]
      dsimp only
      rw [e2]
  · right
    refine ⟨hL, q, ?_⟩
    unfold alt
    rw [e1]
theorem sim_atom (E : Emb l m k c) : ∀ (d' d : Nat), d' ≤ d → ∀ i, i ≤ l.length → Sim k (d' < d) (atom l d i) (atom m d' (i + k)) := by
  intro d'
  induction d' with
  | zero =>
    intro d hd i hi a p h
    by_cases hw : wrongAtom (pk l i) = true
    · unfold atom at h; rw [if_pos hw] at h; exact (other_ok h).elim
    have hne : pk l i ≠ -1 := fun e => hw (by rw [e]; rfl)
    have e0 := E.get hne
    have hlt := pk_in hne
    unfold atom at h
    rw [if_neg hw] at h
    unfold atom
    rw [e0, if_neg hw]
    by_cases h40 : pk l i = 40
    · rw [if_pos h40] at h ⊢
      cases d with
      | zero => cases h
      | succ d => exact Or.inr ⟨by omega, _, rfl⟩
    rw [if_neg h40] at h ⊢
    left
    by_cases h46 : pk l i = 46
    · rw [if_pos h46] at h ⊢; cases h; congr 1; omega
    rw [if_neg h46] at h ⊢
    by_cases h91 : pk l i = 91
    · rw [if_pos h91] at h ⊢
      have hs := sh_cls E (i + 1) (by omega)
      rw [show i + k + 1 = i + 1 + k by omega]
      cases hr : cls l (i + 1) with
      | bad e q => rw [hr] at h; cases h
      | out => rw [hr] at h; cases h
      | ok S q => rw [hr] at h; rw [hs _ _ hr]; cases h; rfl
    rw [if_neg h91] at h ⊢
    by_cases h92 : pk l i = 92
    · rw [if_pos h92] at h ⊢
      have hs := sh_esc E i
      cases hr : esc l i with
      | bad e q => rw [hr] at h; cases h
      | out => rw [hr] at h; cases h
      | ok x q => rw [hr] at h; rw [hs _ _ hr]; cases h; rfl
    rw [if_neg h92] at h ⊢
    cases h
    congr 1
    omega
  | succ d' ih =>
    intro d0 hd i hi a p h
    obtain ⟨d, rfl⟩ : ∃ d, d0 = d + 1 := ⟨d0 - 1, by omega⟩
    by_cases hw : wrongAtom (pk l i) = true
    · rw [atom, if_pos hw] at h; exact (other_ok h).elim
    have hne : pk l i ≠ -1 := fun e => hw (by rw [e]; rfl)
    have e0 := E.get hne
    have hlt := pk_in hne
    rw [atom, if_neg hw] at h
    rw [atom, e0, if_neg hw]
    by_cases h40 : pk l i = 40
    · rw [if_pos h40] at h ⊢
      have ha := sim_alt (at1 := atom l d) (at2 := atom m d') (fine_atom l d) (ih d (by omega)) E (i + 1) (by omega)
      rw [show i + k + 1 = i + 1 + k by omega]
      cases hr : alt l (atom l d) (i + 1) with
      | bad e q => rw [hr] at h; cases h
      | out => rw [hr] at h; cases h
      | ok n q =>
        rw [hr] at h
        dsimp only at h
        by_cases h41 : pk l q = 41
        · have hq : q < l.length := pk_in (by rw [h41]; decide)
          rw [if_pos h41] at h
          rcases ha n q hr (Or.inl hq) with e1 | ⟨hL, q', e1⟩
          · left
            rw [e1]
            dsimp only
            rw [if_pos (by rw [E.at_ q hq]; exact h41)]
            cases h
            congr 1
            omega
          · right; rw [e1]; exact ⟨by omega, q', rfl⟩
        · rw [if_neg h41] at h; exact (other_ok h).elim
    rw [if_neg h40] at h ⊢
    left
    by_cases h46 : pk l i = 46
    · rw [if_pos h46] at h ⊢; cases h; congr 1; omega
    rw [if_neg h46] at h ⊢
    by_cases h91 : pk l i = 91
    · rw [if_pos h91] at h ⊢
      have hs := sh_cls E (i + 1) (by omega)
      rw [show i + k + 1 = i + 1 + k by omega]
      cases hr : cls l (i + 1) with
      | bad e q => rw [hr] at h; cases h
      | out => rw [hr] at h; cases h
      | ok S q => rw [hr] at h; rw [hs _ _ hr]; cases h; rfl
    rw [if_neg h91] at h ⊢
    by_cases h92 : pk l i = 92
    · rw [if_pos h92] at h ⊢
      have hs := sh_esc E i
      cases hr : esc l i with
      | bad e q => rw [hr] at h; cases h
      | out => rw [hr] at h; cases h
      | ok x q => rw [hr] at h; rw [hs _ _ hr]; cases h; rfl
    rw [if_neg h92] at h ⊢
    cases h
    congr 1
    omega
end
end Rx
end Go.Proofs.YthgcefppeaopkaaDoor
