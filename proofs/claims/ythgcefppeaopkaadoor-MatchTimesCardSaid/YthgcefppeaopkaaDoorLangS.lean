/- The plain laws of MatchParts and MatchTimes. -/
import Derived.Test.YthgcefppeaopkaaDoorLangR
namespace Go.Proofs.YthgcefppeaopkaaDoor
open Go
namespace Rx
theorem emb_mid (x l r : List UInt8) : Emb l (x ++ (l ++ 41 :: r)) x.length 41 where
  at_ i hi := pk_eq (by rw [List.getElem?_append_right (by omega), show i + x.length - x.length = i by omega, List.getElem?_append_left hi])
  end_ := by unfold pk; rw [List.getElem?_append_right (by omega), show l.length + x.length - x.length = l.length by omega, List.getElem?_append_right (Nat.le_refl _)]; simp
  len := by simp; omega
  term := Or.inr (Or.inl rfl)
theorem pk_app (x y : List UInt8) (j : Nat) : pk (x ++ y) (x.length + j) = pk y j :=
  pk_eq (by rw [List.getElem?_append_right (by omega), show x.length + j - x.length = j by omega])
theorem right_whole {d : Nat} {l : List UInt8} {n : Node} (h : Whole d l n) : right n = true := right_alt (right_atom d) h
/-- in one bracket -/
theorem par_text {s : List UInt8} (f : (parse (40 :: (s ++ [41]))).2.1 = 0) (u : (parse s).2.1 = 0) : ∃ a, Whole 16 s a ∧ Whole 15 s a ∧ parse (40 :: (s ++ [41])) = (a, 0, 0) ∧ parse s = (a, 0, 0) := by
  obtain ⟨a, h1, h2, h3⟩ := parse_whole u
  refine ⟨a, h1, deep1 (emb_paren s) rfl f h1, ?_, h2⟩
  rcases paren h1 with h4 | ⟨p, h4⟩
  · exact h4
  · rw [h4] at f
    simp at f
theorem parts_ok {s t : List UInt8} (hs : s.length ≤ 60) (ht : t.length ≤ 60) (f : (parse (40 :: (s ++ [41]))).2.1 = 0) (g : (parse (40 :: (t ++ [41]))).2.1 = 0) (u : (parse s).2.1 = 0) (v : (parse t).2.1 = 0) :
    ∃ a b c d, parse (40 :: (s ++ [41])) = (a, 0, 0) ∧ parse (40 :: (t ++ [41])) = (b, 0, 0) ∧ parse (40 :: (s ++ 41 :: 40 :: (t ++ [41]))) = (c, 0, 0) ∧ parse (s ++ 124 :: t) = (d, 0, 0) ∧
      right a = true ∧ right b = true ∧ right c = true ∧ right d = true ∧ (∀ w, Mx.lang c w ↔ Mx.lcat (Mx.lang a) (Mx.lang b) w) ∧ (∀ w, Mx.lang d w ↔ Mx.lang a w ∨ Mx.lang b w) := by
  obtain ⟨a, wa, wa', pa, _⟩ := par_text f u
  obtain ⟨b, wb, wb', pb, _⟩ := par_text g v
  obtain ⟨na, nb, pd, ea, eb⟩ := bar_join wa wb (by omega)
  have E1 : Emb s (40 :: (s ++ 41 :: 40 :: (t ++ [41]))) (0 + 1) 41 := emb_mid [40] s (40 :: (t ++ [41]))
  have E2 : Emb t (40 :: (s ++ 41 :: 40 :: (t ++ [41]))) (s.length + 2 + 1) 41 := by
    have := emb_mid (40 :: (s ++ [41, 40])) t []
    simpa using this
  have hl : (40 :: (s ++ 41 :: 40 :: (t ++ [41]))).length = s.length + t.length + 4 := by simp; omega
  have h0 : pk (40 :: (s ++ 41 :: 40 :: (t ++ [41]))) 0 = 40 := rfl
  have h2 : pk (40 :: (s ++ 41 :: 40 :: (t ++ [41]))) (s.length + 2) = 40 := by
    have e := pk_app (40 :: s) (41 :: 40 :: (t ++ [41])) 1
    exact e
  generalize 40 :: (s ++ 41 :: 40 :: (t ++ [41])) = m at *
  have a1 := atom_par (d := 15) E1 h0 wa'
  have a2 := atom_par (d := 15) E2 h2 wb'
  have e1 : s.length + (0 + 1) + 1 = s.length + 2 := by omega
  have e2 : t.length + (s.length + 2 + 1) + 1 = m.length := by omega
  rw [e1] at a1
  rw [e2] at a2
  have hout : pk m m.length = -1 := pk_out (Nat.le_refl _)
  have hw := alt_two (piece_plain a1 (by rw [h2]; decide) (by rw [h2]; decide) (by rw [h2]; decide) (by rw [h2]; decide)) (by rw [h0]; unfold Stop; decide) (by omega)
    (piece_plain a2 (by rw [hout]; decide) (by rw [hout]; decide) (by rw [hout]; decide) (by rw [hout]; decide)) (by rw [h2]; unfold Stop; decide) (Or.inl hout)
  have hra := right_whole wa
  have hrb := right_whole wb
  refine ⟨a, b, _, _, pa, pb, parse_of hw (by omega), pd, hra, hrb, right_alt (right_atom 16) hw, ?_, fun w => Mx.lang_two a b w, fun w => ?_⟩
  · rcases parse_cases (s ++ 124 :: t) with ⟨n, h1, h2, _⟩ | ⟨e, p, h, he, _⟩
    · rw [pd] at h2
      have : join 3 (na ++ nb) = n := congrArg Prod.fst h2
      rw [this]
      exact right_alt (right_atom 16) h1
    · rw [pd] at h
      have : (0 : Int) = e := congrArg (fun x => x.2.1) h
      omega
  · rw [Mx.lang_join3, Mx.langAlt_append]
    have k1 : Mx.langAlt na w ↔ Mx.lang a w := by
      rcases ea with rfl | rfl
      · exact Mx.langAlt_one a w
      · exact (Mx.lang_join3 na w).symm
    have k2 : Mx.langAlt nb w ↔ Mx.lang b w := by
      rcases eb with rfl | rfl
      · exact Mx.langAlt_one b w
      · exact (Mx.lang_join3 nb w).symm
    rw [k1, k2]
theorem pk_byte {l : List UInt8} {i c : Nat} (hc : c ≤ 9) (h : l[i]? = some (UInt8.ofNat (48 + c))) : pk l i = (48 + c : Nat) := by
  unfold pk
  rw [h]
  show ((UInt8.ofNat (48 + c)).toNat : Int) = _
  rw [UInt8.toNat_ofNat', Nat.mod_eq_of_lt (by show 48 + c < 256; omega)]
section
variable (s : List UInt8) (c : Nat)
def txMany : List UInt8 := 40 :: (s ++ 41 :: [123, UInt8.ofNat (48 + c), 44, 125])
def txTen : List UInt8 := 40 :: (s ++ 41 :: [123, UInt8.ofNat (48 + c), 44, 49, 48, 125])
def txBoth : List UInt8 := 40 :: 40 :: (s ++ 41 :: 42 :: 41 :: 40 :: (s ++ 41 :: [123, UInt8.ofNat (48 + c), 44, 49, 48, 125]))
end
theorem times_ok {s : List UInt8} {c : Nat} (hs : s.length ≤ 40) (hc : c ≤ 9) (ok : (parse (40 :: 40 :: (s ++ [41, 41]))).2.1 = 0) (alone : (parse s).2.1 = 0) :
    ∃ a b d, parse (txMany s c) = (a, 0, 0) ∧ parse (txTen s c) = (b, 0, 0) ∧ parse (txBoth s c) = (d, 0, 0) ∧ right a = true ∧ right b = true ∧ right d = true ∧
      (∀ w, Mx.lang a w ↔ Mx.lang d w) ∧ (∀ w, Mx.lang b w → Mx.lang a w) := by
  obtain ⟨n, w16, pn, _⟩ := parse_whole alone
  have w14 : Whole 14 s n := deep2 (m := 40 :: 40 :: (s ++ [41, 41])) (emb_mid [40, 40] s [41]) rfl rfl ok w16
  have w15 : Whole 15 s n := w16.mid w14 (by omega) (by omega)
  have hrn := right_whole w16
  have hlo : right (rep n 0 (-1)) = true := right_rep hrn rfl
  have A : alt (txMany s c) (atom (txMany s c) 16) 0 = .ok (rep n c (-1)) (txMany s c).length ∧ (txMany s c).length ≤ 256 := by
    have E : Emb s (txMany s c) (0 + 1) 41 := emb_mid [40] s _
    have h0 : pk (txMany s c) 0 = 40 := rfl
    have hl : (txMany s c).length = s.length + 6 := by simp [txMany]
    have g : ∀ j, (txMany s c)[s.length + 1 + j]? = (41 :: [123, UInt8.ofNat (48 + c), 44, 125])[j]? := fun j => by
      unfold txMany
      rw [← List.cons_append, List.getElem?_append_right (by simp <;> omega)]
      congr 1
      simp <;> omega
    have g1 : pk (txMany s c) (s.length + 2) = 123 := by unfold pk; rw [g 1]; rfl
    have g2 : pk (txMany s c) (s.length + 3) = (48 + c : Nat) := pk_byte hc (by rw [g 2]; rfl)
    have g3 : pk (txMany s c) (s.length + 4) = 44 := by unfold pk; rw [g 3]; rfl
    have g4 : pk (txMany s c) (s.length + 5) = 125 := by unfold pk; rw [g 4]; rfl
    generalize txMany s c = m at *
    have a1 := atom_par (d := 15) E h0 w15
    rw [show s.length + (0 + 1) + 1 = s.length + 2 by omega] at a1
    have hb : brc m (s.length + 2 + 1) = .ok ((c : Int), -1) (s.length + 5) := brc_many hc g2 g3 g4
    have hp := piece_brc a1 g1 hb g4
    rw [show s.length + 5 + 1 = m.length by omega] at hp
    exact ⟨alt_one hp (by rw [h0]; unfold Stop; decide) (by omega) (Or.inl (pk_out (Nat.le_refl _))) (right_rep hrn (by simp [timesB]; omega)), by omega⟩
  have B : alt (txTen s c) (atom (txTen s c) 16) 0 = .ok (rep n c 10) (txTen s c).length ∧ (txTen s c).length ≤ 256 := by
    have E : Emb s (txTen s c) (0 + 1) 41 := emb_mid [40] s _
    have h0 : pk (txTen s c) 0 = 40 := rfl
    have hl : (txTen s c).length = s.length + 8 := by simp [txTen]
    have g : ∀ j, (txTen s c)[s.length + 1 + j]? = (41 :: [123, UInt8.ofNat (48 + c), 44, 49, 48, 125])[j]? := fun j => by
      unfold txTen
      rw [← List.cons_append, List.getElem?_append_right (by simp <;> omega)]
      congr 1
      simp <;> omega
    have g1 : pk (txTen s c) (s.length + 2) = 123 := by unfold pk; rw [g 1]; rfl
    have g2 : pk (txTen s c) (s.length + 3) = (48 + c : Nat) := pk_byte hc (by rw [g 2]; rfl)
    have g3 : pk (txTen s c) (s.length + 4) = 44 := by unfold pk; rw [g 3]; rfl
    have g4 : pk (txTen s c) (s.length + 5) = 49 := by unfold pk; rw [g 4]; rfl
    have g5 : pk (txTen s c) (s.length + 6) = 48 := by unfold pk; rw [g 5]; rfl
    have g6 : pk (txTen s c) (s.length + 7) = 125 := by unfold pk; rw [g 6]; rfl
    generalize txTen s c = m at *
    have a1 := atom_par (d := 15) E h0 w15
    rw [show s.length + (0 + 1) + 1 = s.length + 2 by omega] at a1
    have hb : brc m (s.length + 2 + 1) = .ok ((c : Int), 10) (s.length + 7) := brc_ten hc g2 g3 g4 g5 g6
    have hp := piece_brc a1 g1 hb g6
    rw [show s.length + 7 + 1 = m.length by omega] at hp
    exact ⟨alt_one hp (by rw [h0]; unfold Stop; decide) (by omega) (Or.inl (pk_out (Nat.le_refl _))) (right_rep hrn (by simp [timesB]; omega)), by omega⟩
  have D : alt (txBoth s c) (atom (txBoth s c) 16) 0 = .ok (join 2 [rep n 0 (-1), rep n c 10]) (txBoth s c).length ∧ (txBoth s c).length ≤ 256 := by
    have E1 : Emb s (txBoth s c) (1 + 1) 41 := emb_mid [40, 40] s _
    have E2 : Emb s (txBoth s c) (s.length + 5 + 1) 41 := by
      have := emb_mid (40 :: 40 :: (s ++ [41, 42, 41, 40])) s [123, UInt8.ofNat (48 + c), 44, 49, 48, 125]
      simpa [txBoth] using this
    have h0 : pk (txBoth s c) 0 = 40 := rfl
    have h1 : pk (txBoth s c) 1 = 40 := rfl
    have hl : (txBoth s c).length = s.length + s.length + 13 := by simp [txBoth]; omega
    have k : ∀ j, j ≤ 3 → (txBoth s c)[s.length + 2 + j]? = [41, 42, 41, 40][j]? := fun j hj => by
      unfold txBoth
      rw [← List.cons_append, ← List.cons_append, List.getElem?_append_right (by simp <;> omega), show s.length + 2 + j - (40 :: 40 :: s).length = j by simp <;> omega]
      match j, hj with
      | 0, _ => rfl
      | 1, _ => rfl
      | 2, _ => rfl
      | 3, _ => rfl
    have k1 : pk (txBoth s c) (s.length + 3) = 42 := by unfold pk; rw [k 1 (by omega)]; rfl
    have k2 : pk (txBoth s c) (s.length + 4) = 41 := by unfold pk; rw [k 2 (by omega)]; rfl
    have k3 : pk (txBoth s c) (s.length + 5) = 40 := by unfold pk; rw [k 3 (by omega)]; rfl
    have g : ∀ j, (txBoth s c)[s.length + s.length + 6 + j]? = (41 :: [123, UInt8.ofNat (48 + c), 44, 49, 48, 125])[j]? := fun j => by
      have e : txBoth s c = (40 :: 40 :: (s ++ 41 :: 42 :: 41 :: 40 :: s)) ++ (41 :: [123, UInt8.ofNat (48 + c), 44, 49, 48, 125]) := by simp [txBoth]
      rw [e, List.getElem?_append_right (by simp <;> omega)]
      congr 1
      simp <;> omega
    have g1 : pk (txBoth s c) (s.length + s.length + 7) = 123 := by unfold pk; rw [g 1]; rfl
    have g2 : pk (txBoth s c) (s.length + s.length + 8) = (48 + c : Nat) := pk_byte hc (by rw [g 2]; rfl)
    have g3 : pk (txBoth s c) (s.length + s.length + 9) = 44 := by unfold pk; rw [g 3]; rfl
    have g4 : pk (txBoth s c) (s.length + s.length + 10) = 49 := by unfold pk; rw [g 4]; rfl
    have g5 : pk (txBoth s c) (s.length + s.length + 11) = 48 := by unfold pk; rw [g 5]; rfl
    have g6 : pk (txBoth s c) (s.length + s.length + 12) = 125 := by unfold pk; rw [g 6]; rfl
    generalize txBoth s c = m at *
    have a1 := atom_par (d := 14) E1 h1 w14
    rw [show s.length + (1 + 1) + 1 = s.length + 3 by omega] at a1
    have p1 := piece_star a1 k1
    have q1 := alt_one p1 (by rw [h1]; unfold Stop; decide) (by omega) (Or.inr k2) hlo
    have b1 : atom m 16 0 = .ok (rep n 0 (-1)) (s.length + 5) := by
      rw [atom, if_neg (by rw [h0]; decide), if_pos h0]
      have q2 : alt m (atom m 15) (0 + 1) = .ok (rep n 0 (-1)) (s.length + 3 + 1) := q1
      rw [q2]
      dsimp only
      rw [if_pos k2]
    have b2 := piece_plain b1 (by rw [k3]; decide) (by rw [k3]; decide) (by rw [k3]; decide) (by rw [k3]; decide)
    have a2 := atom_par (d := 15) E2 k3 w15
    rw [show s.length + (s.length + 5 + 1) + 1 = s.length + s.length + 7 by omega] at a2
    have hb : brc m (s.length + s.length + 7 + 1) = .ok ((c : Int), 10) (s.length + s.length + 12) := brc_ten hc g2 g3 g4 g5 g6
    have hp := piece_brc a2 g1 hb g6
    rw [show s.length + s.length + 12 + 1 = m.length by omega] at hp
    exact ⟨alt_two b2 (by rw [h0]; unfold Stop; decide) (by omega) hp (by rw [k3]; unfold Stop; decide) (Or.inl (pk_out (Nat.le_refl _))), by omega⟩
  exact ⟨_, _, _, parse_of A.1 A.2, parse_of B.1 B.2, parse_of D.1 D.2, right_alt (right_atom 16) A.1, right_alt (right_atom 16) B.1, right_alt (right_atom 16) D.1, fun w => Mx.lang_more n c hc w, fun w h => Mx.lang_fewer n c w h⟩
end Rx
end Go.Proofs.YthgcefppeaopkaaDoor
