/- What brackets, bars and counts read to, and the texts of it: plain. -/
import Derived.Test.YthgcefppeaopkaaDoorLangQ
import Derived.Test.YthgcefppeaopkaaDoorLangP
namespace Go.Proofs.YthgcefppeaopkaaDoor
open Go
namespace Rx
/-- a byte at which a cat ends -/
def Stop (b : Int) : Prop := b = -1 ∨ b = 124 ∨ b = 41
section
variable {m : List UInt8} {atm : Nat → Res Node} {n a b : Node} {i p q : Nat}
theorem piece_plain (h : atm i = .ok n p) (h1 : pk m p ≠ 42) (h2 : pk m p ≠ 43) (h3 : pk m p ≠ 63) (h4 : pk m p ≠ 123) : piece m atm i = .ok n p := by
  unfold piece
  rw [h]
  dsimp only
  rw [if_neg h1, if_neg h2, if_neg h3, if_neg h4]
theorem piece_star (h : atm i = .ok n p) (h1 : pk m p = 42) : piece m atm i = .ok (rep n 0 (-1)) (p + 1) := by
  unfold piece
  rw [h]
  dsimp only
  rw [if_pos h1]
theorem piece_brc {lo hi : Int} (h : atm i = .ok n p) (h1 : pk m p = 123) (h2 : brc m (p + 1) = .ok (lo, hi) q) (h3 : pk m q = 125) : piece m atm i = .ok (rep n lo hi) (q + 1) := by
  unfold piece
  rw [h]
  dsimp only
  rw [if_neg (by rw [h1]; decide), if_neg (by rw [h1]; decide), if_neg (by rw [h1]; decide), if_pos h1, h2]
  dsimp only
  rw [if_pos h3]
theorem alt_one (h : piece m atm i = .ok n p) (hi : ¬ Stop (pk m i)) (hl : 1 ≤ m.length) (hp : pk m p = -1 ∨ pk m p = 41) (hr : right n = true) : alt m atm i = .ok n p := by
  obtain ⟨f, hf⟩ : ∃ f, m.length = f + 1 := ⟨m.length - 1, by omega⟩
  have hps : pieces m atm (m.length + 1) [] i = .ok [n] p := by
    rw [pieces, if_neg (show ¬ (pk m i = -1 ∨ pk m i = 124 ∨ pk m i = 41) from hi), h]
    dsimp only
    rw [hf, pieces, if_pos (by omega)]
    rfl
  have hc : cat m atm i = .ok n p := by
    unfold cat
    rw [hps]
    dsimp only
    rw [join_self hr 2 (Or.inl rfl)]
  refine alt_mk hc ?_ (Or.inl rfl)
  rw [cats, if_neg (by omega)]
theorem alt_two (h : piece m atm i = .ok a p) (hi : ¬ Stop (pk m i)) (hl : 2 ≤ m.length) (h2 : piece m atm p = .ok b q) (hp : ¬ Stop (pk m p)) (hq : pk m q = -1 ∨ pk m q = 41) : alt m atm i = .ok (join 2 [a, b]) q := by
  obtain ⟨f, hf⟩ : ∃ f, m.length = f + 2 := ⟨m.length - 2, by omega⟩
  have hps : pieces m atm (m.length + 1) [] i = .ok [a, b] q := by
    rw [pieces, if_neg (show ¬ (pk m i = -1 ∨ pk m i = 124 ∨ pk m i = 41) from hi), h]
    dsimp only
    rw [hf, pieces, if_neg (show ¬ (pk m p = -1 ∨ pk m p = 124 ∨ pk m p = 41) from hp), h2]
    dsimp only
    rw [pieces, if_pos (by omega)]
    rfl
  have hc : cat m atm i = .ok (join 2 [a, b]) q := by
    unfold cat
    rw [hps]
  refine alt_mk hc ?_ (Or.inl rfl)
  rw [cats, if_neg (by omega)]
/-- a bracket -/
theorem atom_par {l : List UInt8} {d : Nat} (E : Emb l m (i + 1) 41) (h0 : pk m i = 40) (h : Whole d l n) : atom m (d + 1) i = .ok n (l.length + (i + 1) + 1) := by
  rw [atom, if_neg (by rw [h0]; decide), if_pos h0, h.within E (by decide)]
  dsimp only
  rw [if_pos E.end_]
theorem parse_of (h : alt m (atom m 16) 0 = .ok n m.length) (hm : m.length ≤ 256) : parse m = (n, 0, 0) := by
  unfold parse
  rw [if_neg (by omega), h]
  dsimp only
  rw [if_neg (by omega)]
theorem parse_whole (hp : (parse m).2.1 = 0) : ∃ n, Whole 16 m n ∧ parse m = (n, 0, 0) ∧ m.length ≤ 256 := by
  rcases parse_cases m with h | ⟨e, p, h, he, _⟩
  · exact h
  · rw [h] at hp
    simp at hp
    omega
theorem number_one {i c : Nat} (hc : c ≤ 9) (h0 : pk m i = (48 + c : Nat)) (h1 : digitB (pk m (i + 1)) = false) : number m i = .ok c (i + 1) := by
  have hi : i < m.length := pk_in (by rw [h0]; omega)
  obtain ⟨f, hf⟩ : ∃ f, m.length - i = f + 1 := ⟨m.length - i - 1, by omega⟩
  have hd : digs m (m.length - i) 0 i = (c, i + 1) := by
    rw [hf, digs, if_pos (by rw [h0]; simp [digitB]; omega)]
    have e : Nat.min (10 * 0 + (pk m i - 48).toNat) 1000 = c := by
      rw [h0]
      show min _ _ = _
      omega
    rw [e]
    cases f with
    | zero => rfl
    | succ f => rw [digs, if_neg (by rw [h1]; decide)]
  unfold number
  rw [hd]
  dsimp only
  rw [if_neg (by omega), if_neg (by omega), if_neg (by omega)]
theorem number_ten {i : Nat} (h0 : pk m i = 49) (h1 : pk m (i + 1) = 48) (h2 : digitB (pk m (i + 2)) = false) : number m i = .ok 10 (i + 2) := by
  have hi : i + 1 < m.length := pk_in (by rw [h1]; omega)
  obtain ⟨f, hf⟩ : ∃ f, m.length - i = f + 2 := ⟨m.length - i - 2, by omega⟩
  have hd : digs m (m.length - i) 0 i = (10, i + 2) := by
    rw [hf, digs, if_pos (by rw [h0]; decide)]
    rw [show Nat.min (10 * 0 + (pk m i - 48).toNat) 1000 = 1 by rw [h0]; rfl]
    rw [digs, if_pos (by rw [h1]; decide)]
    rw [show Nat.min (10 * 1 + (pk m (i + 1) - 48).toNat) 1000 = 10 by rw [h1]; rfl]
    cases f with
    | zero => rfl
    | succ f => rw [digs, if_neg (by rw [h2]; decide)]
  unfold number
  rw [hd]
  dsimp only
  rw [if_neg (by omega), if_neg (by rw [h0]; omega), if_neg (by omega)]
theorem brc_many {i c : Nat} (hc : c ≤ 9) (h0 : pk m i = (48 + c : Nat)) (h1 : pk m (i + 1) = 44) (h2 : pk m (i + 2) = 125) : brc m i = .ok ((c : Int), -1) (i + 2) := by
  unfold brc
  rw [number_one hc h0 (by rw [h1]; rfl)]
  dsimp only
  rw [if_pos h1, if_pos h2]
theorem brc_ten {i c : Nat} (hc : c ≤ 9) (h0 : pk m i = (48 + c : Nat)) (h1 : pk m (i + 1) = 44) (h2 : pk m (i + 2) = 49) (h3 : pk m (i + 3) = 48) (h4 : pk m (i + 4) = 125) : brc m i = .ok ((c : Int), 10) (i + 4) := by
  unfold brc
  rw [number_one hc h0 (by rw [h1]; rfl)]
  dsimp only
  rw [if_pos h1, if_neg (by rw [h2]; decide), show i + 1 + 1 = i + 2 by omega, number_ten h2 h3 (by rw [h4]; rfl)]
  dsimp only
  rw [if_neg (by omega)]
  rfl
end
theorem alt_parts' {l : List UInt8} {at1 : Nat → Res Node} {i p : Nat} {n : Node} (ha : ∀ i n p, at1 i = .ok n p → right n = true) (h : alt l at1 i = .ok n p) :
    ∃ n0 p0 ns, cat l at1 i = .ok n0 p0 ∧ cats l at1 (l.length + 1) [n0] p0 = .ok ns p ∧ (∀ x ∈ ns, right x = true) ∧ 1 ≤ ns.length ∧ (ns = [n] ∨ n = join 3 ns) := by
  obtain ⟨n0, p0, ns, h1, h2, h3⟩ := alt_parts h
  have hr := right_cats ha _ _ _ (by intro x hx; simp at hx; subst hx; exact right_cat ha h1) h2
  have hl := hr.2
  simp at hl
  exact ⟨n0, p0, ns, h1, h2, hr.1, hl, h3.imp_right And.right⟩
theorem bar_join {l r : List UInt8} {a b : Node} (h1 : alt l (atom l 16) 0 = .ok a l.length) (h2 : alt r (atom r 16) 0 = .ok b r.length) (hlen : l.length + r.length ≤ 255) :
    ∃ na nb, parse (l ++ 124 :: r) = (join 3 (na ++ nb), 0, 0) ∧ (na = [a] ∨ a = join 3 na) ∧ (nb = [b] ∨ b = join 3 nb) := by
  have E1 := emb_left l r
  have E2 := emb_right l r
  have hml : (l ++ 124 :: r).length = l.length + 1 + r.length := by simp; omega
  generalize l ++ 124 :: r = m at *
  obtain ⟨a0, pa, na, ca, sa, ra, la, fa⟩ := alt_parts' (right_atom 16) h1
  obtain ⟨b0, pb, nb, cb, sb, rb, lb, fb⟩ := alt_parts' (right_atom 16) h2
  have hfa := fine_cat l (atom l 16) (fine_atom l 16) 0 (Nat.zero_le _)
  rw [ca] at hfa
  have hfb := fine_cat r (atom r 16) (fine_atom r 16) 0 (Nat.zero_le _)
  rw [cb] at hfb
  have A1 := sim_cat (fine_atom l 16) (sim_atom E1 16 16 (Nat.le_refl _)) E1 0 (Nat.zero_le _) a0 pa ca
  have A2 : cat m (atom m 16) 0 = .ok a0 pa := by
    rcases A1 with e | ⟨hL, _⟩
    · simpa using e
    · omega
  have B2 : cat m (atom m 16) (l.length + 1) = .ok b0 (pb + (l.length + 1)) := by
    rcases sim_cat (fine_atom r 16) (sim_atom E2 16 16 (Nat.le_refl _)) E2 0 (Nat.zero_le _) b0 pb cb with e | ⟨hL, _⟩
    · simpa using e
    · omega
  obtain ⟨f2, g2, e2⟩ := (sim_cats (fine_atom l 16) (sim_atom E1 16 16 (Nat.le_refl _)) E1 (l.length + 1) (m.length + 1) [a0] pa hfa.2 (by omega) (by omega) na l.length sa).resolve_right (fun h => by have := h.1; omega)
  simp only [Nat.add_zero] at e2
  rw [Nat.add_zero] at g2
  have hbar : pk m l.length = 124 := E1.end_
  have e3 : cats m (atom m 16) (f2 + 1) na l.length = cats m (atom m 16) f2 (na ++ [b0]) (pb + (l.length + 1)) := by
    rw [cats, if_pos hbar, B2]
  have key : ∀ (f : Nat) (ns ms : List Node) (i p : Nat), cats r (atom r 16) f ns i = .ok ms p → ∀ (g : Nat) (us : List Node), i ≤ r.length → m.length < i + (l.length + 1) + g →
      ∃ vs, ms = ns ++ vs ∧ cats m (atom m 16) g us (i + (l.length + 1)) = .ok (us ++ vs) (p + (l.length + 1)) := by
    intro f
    induction f with
    | zero => intro ns ms i p h; cases h
    | succ f ih =>
      intro ns ms i p h g us hi hg
      obtain ⟨g', rfl⟩ : ∃ g', g = g' + 1 := ⟨g - 1, by omega⟩
      by_cases h1 : pk r i = 124
      · rw [cats, if_pos h1] at h
        have hi1 : i + 1 ≤ r.length := pk_in (by rw [h1]; decide)
        have hfc := fine_cat r (atom r 16) (fine_atom r 16) (i + 1) hi1
        have hs := sim_cat (fine_atom r 16) (sim_atom E2 16 16 (Nat.le_refl _)) E2 (i + 1) hi1
        cases hr : cat r (atom r 16) (i + 1) with
        | bad e q => rw [hr] at h; cases h
        | out => rw [hr] at h; cases h
        | ok x q =>
          rw [hr] at h hfc
          rcases hs x q hr with e | ⟨hL, _⟩
          · obtain ⟨vs, h3, h4⟩ := ih (ns ++ [x]) ms q p h g' (us ++ [x]) hfc.2 (by have := hfc.1; omega)
            refine ⟨x :: vs, by rw [h3]; simp, ?_⟩
            rw [cats, if_pos (by rw [E2.get (by rw [h1]; decide), h1]), show i + (l.length + 1) + 1 = i + 1 + (l.length + 1) by omega, e]
            dsimp only
            rw [h4]
            simp
          · omega
      · rw [cats, if_neg h1] at h
        cases h
        refine ⟨[], by simp, ?_⟩
        have hne : pk m (i + (l.length + 1)) ≠ 124 := by
          rcases Nat.lt_or_ge i r.length with h' | h'
          · rw [E2.at_ i h']; exact h1
          · rw [show i = r.length by omega, E2.end_]; decide
        rw [cats, if_neg hne]
        simp
  obtain ⟨vs, h3, h4⟩ := key (r.length + 1) [b0] nb pb r.length sb f2 (na ++ [b0]) hfb.2 (by omega)
  have e4 : cats m (atom m 16) (m.length + 1) [a0] pa = .ok (na ++ nb) m.length := by
    rw [e2, e3, h4, h3, hml]
    simp
    omega
  have hnn : (na ++ nb).length ≠ 1 := by rw [List.length_append]; omega
  have hal := alt_mk A2 e4 (Or.inr ⟨hnn, rfl⟩)
  refine ⟨na, nb, ?_, fa, fb⟩
  unfold parse
  rw [if_neg (by omega), hal]
  dsimp only
  rw [if_neg (by omega)]
end Rx
namespace Mx
theorem lcat_nil (A : Lg) (w : List UInt8) : lcat A lnil w ↔ A w := by
  constructor
  · rintro ⟨u, v, rfl, h, rfl⟩; rwa [List.append_nil]
  · intro h; exact ⟨w, [], by simp, h, rfl⟩
theorem nil_lcat (A : Lg) (w : List UInt8) : lcat lnil A w ↔ A w := by
  constructor
  · rintro ⟨u, v, rfl, rfl, h⟩; exact h
  · intro h; exact ⟨[], w, rfl, rfl, h⟩
theorem lcat_assoc (A B C : Lg) (w : List UInt8) : lcat (lcat A B) C w ↔ lcat A (lcat B C) w := by
  constructor
  · rintro ⟨u, v, rfl, ⟨x, y, rfl, h1, h2⟩, h3⟩; exact ⟨x, y ++ v, by simp, h1, y, v, rfl, h2, h3⟩
  · rintro ⟨x, u, rfl, h1, y, v, rfl, h2, h3⟩; exact ⟨x ++ y, v, by simp, ⟨x, y, rfl, h1, h2⟩, h3⟩
theorem lcat_congr {A B C D : Lg} (h1 : ∀ w, A w ↔ B w) (h2 : ∀ w, C w ↔ D w) (w : List UInt8) : lcat A C w ↔ lcat B D w := by
  unfold lcat
  simp only [h1, h2]
theorem lpow_congr {A B : Lg} (h : ∀ w, A w ↔ B w) : ∀ k w, lpow A k w ↔ lpow B k w
  | 0, _ => Iff.rfl
  | k + 1, w => lcat_congr h (lpow_congr h k) w
theorem lpow_add (A : Lg) : ∀ a b w, lpow A (a + b) w ↔ lcat (lpow A a) (lpow A b) w
  | 0, b, w => by rw [Nat.zero_add]; exact (nil_lcat _ _).symm
  | a + 1, b, w => by
    rw [show a + 1 + b = (a + b) + 1 by omega]
    show lcat A (lpow A (a + b)) w ↔ lcat (lcat A (lpow A a)) (lpow A b) w
    rw [lcat_assoc]
    exact lcat_congr (fun _ => Iff.rfl) (lpow_add A a b) w
theorem langCat_append (a b : List Node) (w : List UInt8) : langCat (a ++ b) w ↔ lcat (langCat a) (langCat b) w := by
  induction a generalizing w with
  | nil =>
    rw [List.nil_append]
    have e : ∀ w, langCat [] w ↔ lnil w := fun w => by rw [langCat]
    rw [lcat_congr e (fun _ => Iff.rfl), nil_lcat]
  | cons n r ih =>
    rw [List.cons_append, langCat_cons, lcat_congr (fun _ => Iff.rfl) ih, lcat_congr (langCat_cons n r) (fun _ => Iff.rfl), lcat_assoc]
theorem langAlt_append (a b : List Node) (w : List UInt8) : langAlt (a ++ b) w ↔ langAlt a w ∨ langAlt b w := by
  induction a with
  | nil => rw [List.nil_append, langAlt]; simp
  | cons n r ih => rw [List.cons_append, langAlt_cons, langAlt_cons, ih, _root_.or_assoc]
theorem lang_of2 {n : Node} (h : n.kind = 2) (w : List UInt8) : lang n w ↔ langCat n.kids w := by
  obtain ⟨k, S, l, a, b⟩ := n
  obtain rfl : k = 2 := h
  exact lang2 S l a b w
theorem lang_of3 {n : Node} (h : n.kind = 3) (w : List UInt8) : lang n w ↔ langAlt n.kids w := by
  obtain ⟨k, S, l, a, b⟩ := n
  obtain rfl : k = 3 := h
  exact lang3 S l a b w
theorem flat_cat (ns : List Node) (w : List UInt8) : langCat (Rx.flat 2 ns) w ↔ langCat ns w := by
  induction ns generalizing w with
  | nil => rfl
  | cons n r ih =>
    rw [langCat_cons, Rx.flat]
    split
    · rename_i h
      rw [langCat_append]
      exact lcat_congr (fun w => (lang_of2 h w).symm) ih w
    · rw [langCat_cons]
      exact lcat_congr (fun _ => Iff.rfl) ih w
theorem flat_alt (ns : List Node) (w : List UInt8) : langAlt (Rx.flat 3 ns) w ↔ langAlt ns w := by
  induction ns with
  | nil => rfl
  | cons n r ih =>
    rw [langAlt_cons, Rx.flat]
    split
    · rename_i h
      rw [langAlt_append, ih, lang_of3 h]
    · rw [langAlt_cons, ih]
theorem langCat_one (n : Node) (w : List UInt8) : langCat [n] w ↔ lang n w := by
  rw [langCat_cons]
  have e : ∀ w, langCat [] w ↔ lnil w := fun w => by rw [langCat]
  rw [lcat_congr (fun _ => Iff.rfl) e, lcat_nil]
theorem langAlt_one (n : Node) (w : List UInt8) : langAlt [n] w ↔ lang n w := by
  rw [langAlt_cons, langAlt]
  simp
theorem lang_join2 (ns : List Node) (w : List UInt8) : lang (Rx.join 2 ns) w ↔ langCat ns w := by
  rw [← flat_cat]
  unfold Rx.join
  generalize Rx.flat 2 ns = l
  match l with
  | [n] => exact (langCat_one n w).symm
  | [] => exact lang2 _ _ _ _ _
  | a :: b :: r => exact lang2 _ _ _ _ _
theorem lang_join3 (ns : List Node) (w : List UInt8) : lang (Rx.join 3 ns) w ↔ langAlt ns w := by
  rw [← flat_alt]
  unfold Rx.join
  generalize Rx.flat 3 ns = l
  match l with
  | [n] => exact (langAlt_one n w).symm
  | [] => exact lang3 _ _ _ _ _
  | a :: b :: r => exact lang3 _ _ _ _ _
theorem lang_two (a b : Node) (w : List UInt8) : lang (Rx.join 2 [a, b]) w ↔ lcat (lang a) (lang b) w := by
  rw [lang_join2, langCat_cons]
  exact lcat_congr (fun _ => Iff.rfl) (langCat_one b) w
theorem lang_rep (n : Node) (lo hi : Int) (w : List UInt8) : lang (Rx.rep n lo hi) w ↔ ∃ k : Nat, lo.toNat ≤ k ∧ (hi = -1 ∨ (k : Int) ≤ hi) ∧ lpow (lang n) k w := by
  unfold Rx.rep
  rw [lang4 (by decide) (by decide) (by decide), langRep_cons]
/-- what comes n times or more: as often as may be, and then n to ten times -/
theorem lang_more (n : Node) (c : Nat) (hc : c ≤ 9) (w : List UInt8) : lang (Rx.rep n c (-1)) w ↔ lang (Rx.join 2 [Rx.rep n 0 (-1), Rx.rep n c 10]) w := by
  rw [lang_two, lang_rep]
  constructor
  · rintro ⟨k, h1, _, h2⟩
    have e : k = (k - c) + c := by omega
    rw [e, lpow_add] at h2
    obtain ⟨u, v, rfl, h3, h4⟩ := h2
    exact ⟨u, v, rfl, (lang_rep _ _ _ _).2 ⟨k - c, by omega, Or.inl rfl, h3⟩, (lang_rep _ _ _ _).2 ⟨c, by omega, Or.inr (by omega), h4⟩⟩
  · rintro ⟨u, v, rfl, h1, h2⟩
    obtain ⟨a, _, _, h3⟩ := (lang_rep _ _ _ _).1 h1
    obtain ⟨b, h4, _, h5⟩ := (lang_rep _ _ _ _).1 h2
    exact ⟨a + b, by omega, Or.inl rfl, (lpow_add _ _ _ _).2 ⟨u, v, rfl, h3, h5⟩⟩
theorem lang_fewer (n : Node) (c : Nat) (w : List UInt8) (h : lang (Rx.rep n c 10) w) : lang (Rx.rep n c (-1)) w := by
  obtain ⟨k, h1, _, h2⟩ := (lang_rep _ _ _ _).1 h
  exact (lang_rep _ _ _ _).2 ⟨k, h1, Or.inl rfl, h2⟩
end Mx
end Go.Proofs.YthgcefppeaopkaaDoor
