/- Brackets around a text, and a bar between two: plain. -/
import Derived.Test.YthgcefppeaopkaaDoorStandR
namespace Go.Proofs.YthgcefppeaopkaaDoor
open Go
namespace Rx
theorem pk_eq {l m : List UInt8} {i j : Nat} (h : l[i]? = m[j]?) : pk l i = pk m j := by unfold pk; rw [h]
theorem emb_paren (l : List UInt8) : Emb l (40 :: (l ++ [41])) 1 41 where
  at_ i hi := pk_eq (by rw [List.getElem?_cons_succ, List.getElem?_append_left hi])
  end_ := by unfold pk; rw [List.getElem?_cons_succ, List.getElem?_append_right (Nat.le_refl _)]; simp
  len := by simp
  term := Or.inr (Or.inl rfl)
theorem emb_left (l r : List UInt8) : Emb l (l ++ 124 :: r) 0 124 where
  at_ i hi := pk_eq (by rw [Nat.add_zero, List.getElem?_append_left hi])
  end_ := by unfold pk; rw [Nat.add_zero, List.getElem?_append_right (Nat.le_refl _)]; simp
  len := by simp
  term := Or.inr (Or.inr rfl)
theorem emb_right (l r : List UInt8) : Emb r (l ++ 124 :: r) (l.length + 1) (-1) where
  at_ i hi := pk_eq (by rw [List.getElem?_append_right (by omega), show i + (l.length + 1) - l.length = i + 1 by omega, List.getElem?_cons_succ])
  end_ := pk_out (by simp; omega)
  len := by simp; omega
  term := Or.inl rfl
theorem paren {l : List UInt8} {n : Node} (h : alt l (atom l 16) 0 = .ok n l.length) : parse (40 :: (l ++ [41])) = (n, 0, 0) ∨ ∃ p, parse (40 :: (l ++ [41])) = (zero, 3, p) := by
  have E := emb_paren l
  have hr := right_alt (right_atom 16) h
  have hlen : (40 :: (l ++ [41])).length = l.length + 2 := by simp
  have h0 : pk (40 :: (l ++ [41])) 0 = 40 := rfl
  generalize 40 :: (l ++ [41]) = m at *
  by_cases hm : m.length > 256
  · right; exact ⟨256, by unfold parse; rw [if_pos hm]⟩
  have hw : wrongAtom (pk m 0) = false := by rw [h0]; rfl
  have hat : atom m 16 0 = (match alt m (atom m 15) 1 with | .ok n p => if pk m p = 41 then .ok n (p + 1) else other m p | .bad e p => .bad e p | .out => .out) := by
    rw [atom, if_neg (by rw [hw]; decide), if_pos h0]
    cases alt m (atom m 15) (0 + 1) <;> rfl
  have ha := sim_alt (at1 := atom l 16) (at2 := atom m 15) (L := 15 < 16) (fine_atom l 16) (sim_atom E 15 16 (by omega)) E 0 (Nat.zero_le _) n l.length h (Or.inr (by decide))
  rw [Nat.zero_add] at ha
  have hns : ¬ (pk m 0 = -1 ∨ pk m 0 = 124 ∨ pk m 0 = 41) := by rw [h0]; decide
  rcases ha with e1 | ⟨_, q, e1⟩
  · left
    rw [e1] at hat
    have h41 : pk m (l.length + 1) = 41 := E.end_
    dsimp only at hat
    rw [if_pos h41] at hat
    have hout : pk m (l.length + 1 + 1) = -1 := pk_out (by omega)
    have hp : piece m (atom m 16) 0 = .ok n (l.length + 1 + 1) := by
      unfold piece
      rw [hat]
      dsimp only
      rw [hout, if_neg (by decide), if_neg (by decide), if_neg (by decide), if_neg (by decide)]
    have hps : pieces m (atom m 16) (m.length + 1) [] 0 = .ok [n] (l.length + 1 + 1) := by
      rw [pieces, if_neg hns, hp]
      dsimp only
      rw [hlen, pieces, if_pos (Or.inl hout)]
      rfl
    have hc : cat m (atom m 16) 0 = .ok n (l.length + 1 + 1) := by
      unfold cat
      rw [hps]
      dsimp only
      rw [join_self hr 2 (Or.inl rfl)]
    have hcs : cats m (atom m 16) (m.length + 1) [n] (l.length + 1 + 1) = .ok [n] (l.length + 1 + 1) := by
      rw [cats, if_neg (by rw [hout]; decide)]
    have hal := alt_mk hc hcs (Or.inl rfl)
    unfold parse
    rw [if_neg hm, hal]
    dsimp only
    rw [if_neg (by omega)]
  · right
    refine ⟨q, ?_⟩
    rw [e1] at hat
    dsimp only at hat
    have hp : piece m (atom m 16) 0 = .bad 3 q := by unfold piece; rw [hat]
    have hps : pieces m (atom m 16) (m.length + 1) [] 0 = .bad 3 q := by rw [pieces, if_neg hns, hp]
    have hc : cat m (atom m 16) 0 = .bad 3 q := by unfold cat; rw [hps]
    have hal : alt m (atom m 16) 0 = .bad 3 q := by unfold alt; rw [hc]
    unfold parse
    rw [if_neg hm, hal]
/-- how many branches a tree has -/
def br (n : Node) : Nat := if n.kind = 3 then n.kids.length else 1
theorem br_alt {l : List UInt8} {at1 : Nat → Res Node} {i p : Nat} {n : Node} (ha : ∀ i n p, at1 i = .ok n p → right n = true) (h : alt l at1 i = .ok n p) :
    ∃ n0 p0 ns, cat l at1 i = .ok n0 p0 ∧ cats l at1 (l.length + 1) [n0] p0 = .ok ns p ∧ (∀ x ∈ ns, right x = true) ∧ 1 ≤ ns.length ∧ (flat 3 ns).length = br n := by
  obtain ⟨n0, p0, ns, h1, h2, h3⟩ := alt_parts h
  have hr := right_cats ha _ _ _ (by intro x hx; simp at hx; subst hx; exact right_cat ha h1) h2
  have hl := hr.2
  simp at hl
  refine ⟨n0, p0, ns, h1, h2, hr.1, hl, ?_⟩
  rcases h3 with rfl | ⟨h3, rfl⟩
  · rw [flat_one]
    unfold br
    split <;> simp_all
  · have h4 := flat_ne hr.1
    unfold join
    generalize flat 3 ns = f at *
    match f, h4 with
    | [], h4 => have h5 : ns.length ≤ 0 := h4; omega
    | [x], h4 => have h5 : ns.length ≤ 1 := h4; omega
    | x :: y :: r, _ => simp [br, Node.kind, Node.kids]
theorem bar {l r : List UInt8} {a b : Node} (h1 : alt l (atom l 16) 0 = .ok a l.length) (h2 : alt r (atom r 16) 0 = .ok b r.length) (hlen : l.length + r.length ≤ 255) :
    ∃ d, parse (l ++ 124 :: r) = (d, 0, 0) ∧ d.kind = 3 ∧ d.kids.length = br a + br b := by
  have E1 := emb_left l r
  have E2 := emb_right l r
  have hml : (l ++ 124 :: r).length = l.length + 1 + r.length := by simp; omega
  generalize l ++ 124 :: r = m at *
  obtain ⟨a0, pa, na, ca, sa, ra, la, fa⟩ := br_alt (right_atom 16) h1
  obtain ⟨b0, pb, nb, cb, sb, rb, lb, fb⟩ := br_alt (right_atom 16) h2
  have hfa := fine_cat l (atom l 16) (fine_atom l 16) 0 (Nat.zero_le _)
  rw [ca] at hfa
  have hfb := fine_cat r (atom r 16) (fine_atom r 16) 0 (Nat.zero_le _)
  rw [cb] at hfb
  have A1 := sim_cat (fine_atom l 16) (sim_atom E1 16 16 (Nat.le_refl _)) E1 0 (Nat.zero_le _) a0 pa ca
  have A2 : cat m (atom m 16) 0 = .ok a0 pa := by
    rcases A1 with e | ⟨hL, _⟩
    · simpa using e
    · omega
  have B2 : cat m (atom m 16) (l.length + 1) = .ok b0 (pb + (l.length + 1)) := by
    rcases sim_cat (fine_atom r 16) (sim_atom E2 16 16 (Nat.le_refl _)) E2 0 (Nat.zero_le _) b0 pb cb with e | ⟨hL, _⟩
    · simpa using e
    · omega
  obtain ⟨f2, g2, e2⟩ := (sim_cats (fine_atom l 16) (sim_atom E1 16 16 (Nat.le_refl _)) E1 (l.length + 1) (m.length + 1) [a0] pa hfa.2 (by omega) (by omega) na l.length sa).resolve_right (fun h => by have := h.1; omega)
  simp only [Nat.add_zero] at e2
  rw [Nat.add_zero] at g2
  have hbar : pk m l.length = 124 := E1.end_
  have e3 : cats m (atom m 16) (f2 + 1) na l.length = cats m (atom m 16) f2 (na ++ [b0]) (pb + (l.length + 1)) := by
    rw [cats, if_pos hbar, B2]
  have key : ∀ (f : Nat) (ns ms : List Node) (i p : Nat), cats r (atom r 16) f ns i = .ok ms p → ∀ (g : Nat) (us : List Node), i ≤ r.length → m.length < i + (l.length + 1) + g →
      ∃ vs, ms = ns ++ vs ∧ cats m (atom m 16) g us (i + (l.length + 1)) = .ok (us ++ vs) (p + (l.length + 1)) := by
    intro f
    induction f with
    | zero => intro ns ms i p h; cases h
    | succ f ih =>
      intro ns ms i p h g us hi hg
      obtain ⟨g', rfl⟩ : ∃ g', g = g' + 1 := ⟨g - 1, by omega⟩
      by_cases h1 : pk r i = 124
      · rw [cats, if_pos h1] at h
        have hi1 : i + 1 ≤ r.length := pk_in (by rw [h1]; decide)
        have hfc := fine_cat r (atom r 16) (fine_atom r 16) (i + 1) hi1
        have hs := sim_cat (fine_atom r 16) (sim_atom E2 16 16 (Nat.le_refl _)) E2 (i + 1) hi1
        cases hr : cat r (atom r 16) (i + 1) with
        | bad e q => rw [hr] at h; cases h
        | out => rw [hr] at h; cases h
        | ok x q =>
          rw [hr] at h hfc
          rcases hs x q hr with e | ⟨hL, _⟩
          · obtain ⟨vs, h3, h4⟩ := ih (ns ++ [x]) ms q p h g' (us ++ [x]) hfc.2 (by have := hfc.1; omega)
            refine ⟨x :: vs, by rw [h3]; simp, ?_⟩
            rw [cats, if_pos (by rw [E2.get (by rw [h1]; decide), h1]), show i + (l.length + 1) + 1 = i + 1 + (l.length + 1) by omega, e]
            dsimp only
            rw [h4]
            simp
          · omega
      · rw [cats, if_neg h1] at h
        cases h
        refine ⟨[], by simp, ?_⟩
        have hne : pk m (i + (l.length + 1)) ≠ 124 := by
          rcases Nat.lt_or_ge i r.length with h' | h'
          · rw [E2.at_ i h']; exact h1
          · rw [show i = r.length by omega, E2.end_]; decide
        rw [cats, if_neg hne]
        simp
  obtain ⟨vs, h3, h4⟩ := key (r.length + 1) [b0] nb pb r.length sb f2 (na ++ [b0]) hfb.2 (by omega)
  have e4 : cats m (atom m 16) (m.length + 1) [a0] pa = .ok (na ++ nb) m.length := by
    rw [e2, e3, h4, h3, hml]
    simp
    omega
  have hnn : (na ++ nb).length ≠ 1 := by rw [List.length_append]; omega
  have hal := alt_mk A2 e4 (Or.inr ⟨hnn, rfl⟩)
  have hff : (flat 3 (na ++ nb)).length = br a + br b := by rw [flat_append, List.length_append, fa, fb]
  have hge : 2 ≤ (flat 3 (na ++ nb)).length := by
    have q1 := flat_ne ra
    have q2 := flat_ne rb
    rw [flat_append, List.length_append]
    omega
  have hj : join 3 (na ++ nb) = .mk 3 CSet.empty (flat 3 (na ++ nb)) 0 0 := by
    unfold join
    generalize flat 3 (na ++ nb) = f at *
    match f, hge with
    | x :: y :: r, _ => rfl
  refine ⟨join 3 (na ++ nb), ?_, by rw [hj]; rfl, by rw [hj]; exact hff⟩
  unfold parse
  rw [if_neg (by omega), hal]
  dsimp only
  rw [if_neg (by omega)]
end Rx
end Go.Proofs.YthgcefppeaopkaaDoor
