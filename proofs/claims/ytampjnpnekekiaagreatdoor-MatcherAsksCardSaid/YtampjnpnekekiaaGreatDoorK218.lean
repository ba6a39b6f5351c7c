/- Sets of bytes as four words: plain definitions. No program in sight. -/
import Derived.Laws.BitsAllLaws
namespace Go.Proofs.YtampjnpnekekiaaGreatDoor
open Go
structure CSet where
  a : BitVec 64
  b : BitVec 64
  c : BitVec 64
  d : BitVec 64
deriving DecidableEq
namespace CSet
def word (S : CSet) : Nat → BitVec 64
  | 0 => S.a
  | 1 => S.b
  | 2 => S.c
  | _ => S.d
def has (S : CSet) (b : Nat) : Bool := (S.word (b / 64)).getLsbD (b % 64)
def empty : CSet := ⟨0, 0, 0, 0⟩
def setWord (S : CSet) : Nat → BitVec 64 → CSet
  | 0, x => { S with a := x }
  | 1, x => { S with b := x }
  | 2, x => { S with c := x }
  | _, x => { S with d := x }
def put (S : CSet) (b : Nat) : CSet := S.setWord (b / 64) (S.word (b / 64) ||| (1#64 <<< (b % 64)))
def or (S T : CSet) : CSet := ⟨S.a ||| T.a, S.b ||| T.b, S.c ||| T.c, S.d ||| T.d⟩
def and (S T : CSet) : CSet := ⟨S.a &&& T.a, S.b &&& T.b, S.c &&& T.c, S.d &&& T.d⟩
def not (S : CSet) : CSet := ⟨~~~S.a, ~~~S.b, ~~~S.c, ~~~S.d⟩
def span (lo : Nat) : Nat → CSet
  | 0 => empty
  | n + 1 => (span lo n).put (lo + n)
def between (lo hi : Nat) : CSet := span lo (hi + 1 - lo)
def mix (S T : CSet) (k : Nat) : CSet := ⟨if 0 < k then T.a else S.a, if 1 < k then T.b else S.b, if 2 < k then T.c else S.c, if 3 < k then T.d else S.d⟩
theorem ext_has {S T : CSet} (h : ∀ b, b < 256 → S.has b = T.has b) : S = T := by
  have w : ∀ k, k < 4 → S.word k = T.word k := fun k hk => by
    apply BitVec.eq_of_getLsbD_eq
    intro i hi
    have := h (64 * k + i) (by omega)
    unfold has at this
    rw [show (64 * k + i) / 64 = k by omega, show (64 * k + i) % 64 = i by omega] at this
    exact this
  have h0 := w 0 (by omega); have h1 := w 1 (by omega); have h2 := w 2 (by omega); have h3 := w 3 (by omega)
  cases S; cases T
  simp only [word] at h0 h1 h2 h3
  simp [h0, h1, h2, h3]
theorem has_empty (b : Nat) : empty.has b = false := by
  unfold has empty word
  split <;> simp
theorem word_setWord (S : CSet) (i j : Nat) (x : BitVec 64) (hi : i < 4) (hj : j < 4) : (S.setWord i x).word j = if i = j then x else S.word j := by
  have h1 : i = 0 ∨ i = 1 ∨ i = 2 ∨ i = 3 := by omega
  have h2 : j = 0 ∨ j = 1 ∨ j = 2 ∨ j = 3 := by omega
  rcases h1 with rfl | rfl | rfl | rfl <;> rcases h2 with rfl | rfl | rfl | rfl <;> rfl
theorem has_put (S : CSet) (b x : Nat) (hb : b < 256) (hx : x < 256) : (S.put b).has x = (S.has x || decide (x = b)) := by
  unfold put has
  rw [word_setWord _ _ _ _ (by omega) (by omega)]
  by_cases e : b / 64 = x / 64
  · rw [if_pos e, BitVec.getLsbD_or, ← e]
    congr 1
    rw [BitVec.getLsbD_shiftLeft]
    have hm : x % 64 < 64 := by omega
    by_cases e2 : x = b
    · subst e2; simp [hm]
    · have : x % 64 ≠ b % 64 := by omega
      have e3 : decide (x = b) = false := by simp [e2]
      rw [e3]
      by_cases h4 : x % 64 < b % 64
      · simp [h4]
      · have h5 : 0 < x % 64 - b % 64 := by omega
        simp [h4, hm]
        omega
  · rw [if_neg e]
    have : x ≠ b := fun h => e (by rw [h])
    simp [this]
theorem has_or (S T : CSet) (x : Nat) : (S.or T).has x = (S.has x || T.has x) := by
  unfold has or word
  split <;> simp
theorem has_not (S : CSet) (x : Nat) : S.not.has x = !S.has x := by
  have hm : x % 64 < 64 := by omega
  unfold has not word
  split <;> simp [hm]
theorem has_span (lo : Nat) : ∀ (n x : Nat), lo + n ≤ 256 → x < 256 → (span lo n).has x = (decide (lo ≤ x) && decide (x < lo + n))
  | 0, x, _, _ => by
    rw [span, has_empty]
    by_cases h : lo ≤ x
    · simp [h]
    · simp [h]
  | n + 1, x, h, hx => by
    rw [span, has_put _ _ _ (by omega) hx, has_span lo n x (by omega) hx, Bool.eq_iff_iff]
    simp
    omega
theorem has_between (lo hi x : Nat) (h : hi < 256) (hx : x < 256) : (between lo hi).has x = (decide (lo ≤ x) && decide (x ≤ hi)) := by
  unfold between
  by_cases hl : lo ≤ hi
  · rw [has_span _ _ _ (by omega) hx, Bool.eq_iff_iff]
    simp
    omega
  · rw [show hi + 1 - lo = 0 by omega, span, has_empty]
    symm
    rw [Bool.eq_false_iff]
    simp
    omega
theorem or_empty (S : CSet) : S.or empty = S := ext_has fun b _ => by rw [has_or, has_empty, Bool.or_false]
theorem put_has (S : CSet) (b : Nat) (hb : b < 256) (h : S.has b = true) : S.put b = S := ext_has fun x hx => by
  rw [has_put _ _ _ hb hx]
  by_cases e : x = b
  · subst e; simp [h]
  · simp [e]
def orTo (S T : CSet) : Nat → CSet
  | 0 => S
  | k + 1 => if T.has k then (orTo S T k).put k else orTo S T k
theorem has_orTo (S T : CSet) : ∀ (k x : Nat), k ≤ 256 → x < 256 → (orTo S T k).has x = (S.has x || (decide (x < k) && T.has x))
  | 0, x, _, _ => by simp [orTo]
  | k + 1, x, hk, hx => by
    unfold orTo
    by_cases hT : T.has k = true
    · rw [if_pos hT, has_put _ _ _ (by omega) hx, has_orTo S T k x (by omega) hx]
      by_cases e : x = k
      · subst e; simp [hT]
      · have e2 : decide (x < k + 1) = decide (x < k) := by rw [Bool.eq_iff_iff]; simp; omega
        rw [e2]; simp [e]
    · rw [if_neg hT, has_orTo S T k x (by omega) hx]
      by_cases e : x = k
      · subst e
        have : T.has x = false := by simpa using hT
        simp [this]
      · have e2 : decide (x < k + 1) = decide (x < k) := by rw [Bool.eq_iff_iff]; simp; omega
        rw [e2]
theorem orTo_all (S T : CSet) : orTo S T 256 = S.or T := ext_has fun x hx => by
  rw [has_orTo _ _ _ _ (Nat.le_refl _) hx, has_or]
  simp [hx]
def notTo (S : CSet) : Nat → CSet
  | 0 => empty
  | k + 1 => if S.has k then notTo S k else (notTo S k).put k
theorem has_notTo (S : CSet) : ∀ (k x : Nat), k ≤ 256 → x < 256 → (notTo S k).has x = (decide (x < k) && !S.has x)
  | 0, x, _, _ => by simp [notTo, has_empty]
  | k + 1, x, hk, hx => by
    unfold notTo
    by_cases hT : S.has k = true
    · rw [if_pos hT, has_notTo S k x (by omega) hx]
      by_cases e : x = k
      · subst e; simp [hT]
      · have e2 : decide (x < k + 1) = decide (x < k) := by rw [Bool.eq_iff_iff]; simp; omega
        rw [e2]
    · rw [if_neg hT, has_put _ _ _ (by omega) hx, has_notTo S k x (by omega) hx]
      by_cases e : x = k
      · subst e
        have : S.has x = false := by simpa using hT
        simp [this]
      · have e2 : decide (x < k + 1) = decide (x < k) := by rw [Bool.eq_iff_iff]; simp; omega
        rw [e2]; simp [e]
theorem notTo_all (S : CSet) : notTo S 256 = S.not := ext_has fun x hx => by
  rw [has_notTo _ _ _ (Nat.le_refl _) hx, has_not]
  simp [hx]
def firstFrom (S : CSet) (b : Nat) : Nat → Int
  | 0 => -1
  | n + 1 => if S.has b then b else S.firstFrom (b + 1) n
def first (S : CSet) : Int := S.firstFrom 0 256
theorem first_at (S : CSet) : ∀ (n b k : Nat), b ≤ k → k < b + n → S.has k = true → (∀ j, b ≤ j → j < k → S.has j = false) → S.firstFrom b n = k
  | 0, b, k, h1, h2, _, _ => by omega
  | n + 1, b, k, h1, h2, h3, h4 => by
    unfold firstFrom
    by_cases e : b = k
    · subst e; rw [if_pos h3]
    · rw [if_neg (by rw [h4 b (Nat.le_refl _) (by omega)]; simp), first_at S n (b + 1) k (by omega) (by omega) h3 (fun j hj hk => h4 j (by omega) hk)]
theorem first_none (S : CSet) : ∀ (n b : Nat), (∀ j, b ≤ j → j < b + n → S.has j = false) → S.firstFrom b n = -1
  | 0, b, _ => rfl
  | n + 1, b, h => by
    unfold firstFrom
    rw [if_neg (by rw [h b (Nat.le_refl _) (by omega)]; simp), first_none S n (b + 1) (fun j hj hk => h j (by omega) (by omega))]
end CSet
end Go.Proofs.YtampjnpnekekiaaGreatDoor
