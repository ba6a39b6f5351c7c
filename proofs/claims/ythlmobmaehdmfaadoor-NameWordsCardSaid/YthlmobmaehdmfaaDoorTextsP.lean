/- Plain laws on texts: pieces between blanks, joining. No program in sight. -/
import Derived.Lib.Split
import Derived.Lib.SplitLaws
import Derived.Lib.Join
import Derived.Test.YthlmobmaehdmfaaDoorNameP
namespace Go.Proofs.YthlmobmaehdmfaaDoor.Nm
open Go
/-- the first piece gets p ahead -/
def attach (p : List UInt8) : List (List UInt8) → List (List UInt8)
  | [] => [p]
  | x :: r => (p ++ x) :: r
/-- what stands between single blanks -/
def splitL : List UInt8 → List (List UInt8)
  | [] => [[]]
  | c :: r => if c = 32 then [] :: splitL r else attach [c] (splitL r)
theorem splitL_ne (l : List UInt8) : splitL l ≠ [] := by
  cases l with
  | nil => simp [splitL]
  | cons c r =>
    unfold splitL
    split
    · simp
    · cases splitL r <;> simp [attach]
theorem attach_nil {x : List (List UInt8)} (h : x ≠ []) : attach [] x = x := by
  cases x with
  | nil => exact absurd rfl h
  | cons => rfl
theorem attach_attach (p q : List UInt8) (x : List (List UInt8)) (h : x ≠ []) : attach p (attach q x) = attach (p ++ q) x := by
  cases x with
  | nil => exact absurd rfl h
  | cons => simp [attach]
theorem splitL_no : ∀ (l : List UInt8), (∀ c ∈ l, c ≠ 32) → splitL l = [l]
  | [], _ => rfl
  | c :: r, h => by
    unfold splitL
    rw [if_neg (h c (by simp)), splitL_no r (fun d hd => h d (by simp [hd]))]
    rfl
theorem splitL_at : ∀ (p r : List UInt8), (∀ c ∈ p, c ≠ 32) → splitL (p ++ 32 :: r) = p :: splitL r
  | [], r, _ => by simp [splitL]
  | c :: p, r, h => by
    simp only [List.cons_append, splitL]
    rw [if_neg (h c (by simp)), splitL_at p r (fun d hd => h d (by simp [hd]))]
    rfl
theorem join_cons2 (x y : List UInt8) (r : List (List UInt8)) (sep : List UInt8) : Lib.join (x :: y :: r) sep = x ++ sep ++ Lib.join (y :: r) sep := by
  rw [Lib.join_cons, Lib.join_cons]
  simp [Lib.joinTail]
/-- joined, the pieces are the text again -/
theorem join_splitL : ∀ l : List UInt8, Lib.join (splitL l) [32] = l
  | [] => by simp [splitL, Lib.join_one]
  | c :: r => by
    have ih := join_splitL r
    unfold splitL
    cases hs : splitL r with
    | nil => exact absurd hs (splitL_ne r)
    | cons x xs =>
      rw [hs] at ih
      split
      · rename_i hc
        rw [join_cons2, ih, hc]
        rfl
      · cases xs with
        | nil =>
          rw [Lib.join_one] at ih
          simp [attach, Lib.join_one, ih]
        | cons y ys =>
          rw [join_cons2] at ih
          simp only [attach, join_cons2]
          rw [← ih]
          simp
/-- texts without blanks, joined and cut again, are the texts -/
theorem splitL_join : ∀ (ls : List (List UInt8)), ls ≠ [] → (∀ x ∈ ls, ∀ c ∈ x, c ≠ 32) → splitL (Lib.join ls [32]) = ls
  | [], h, _ => absurd rfl h
  | [x], _, h => by rw [Lib.join_one]; exact splitL_no x (h x (by simp))
  | x :: y :: r, _, h => by
    rw [join_cons2]
    simp only [List.append_assoc, List.singleton_append]
    rw [splitL_at x _ (h x (by simp)), splitL_join (y :: r) (by simp) (fun z hz => h z (by simp [hz]))]
theorem index_at (p r : List UInt8) (h : ∀ c ∈ p, c ≠ 32) : Lib.index (p ++ 32 :: r) [32] = p.length := by
  refine Lib.index_first (by simp) (by simp [Lib.occAt]) (fun j hj => ?_)
  unfold Lib.occAt
  rw [List.drop_append_of_le_length (by omega)]
  have e : p.drop j = p[j] :: p.drop (j + 1) := List.drop_eq_getElem_cons hj
  have h1 := h p[j] (List.getElem_mem hj)
  rw [e]
  show ((32 == p[j]) && _) = false
  have h2 : ((32 : UInt8) == p[j]) = false := by simpa using fun e => h1 e.symm
  rw [h2]
  rfl
theorem splitK_splitL : ∀ (n : Nat) (l : List UInt8), l.length ≤ n → Lib.splitK [32] 0 (Lib.count l [32]) l = splitL l
  | n, l, hn => by
    by_cases h : (32 : UInt8) ∈ l
    · obtain ⟨p, r, rfl, hp⟩ := List.eq_append_cons_of_mem h
      have hp' : ∀ c ∈ p, c ≠ 32 := fun c hc e => hp (e ▸ hc)
      have hc : Lib.count (p ++ 32 :: r) [32] = Lib.count r [32] + 1 := by
        rw [Lib.count_one, Lib.count_one, List.count_append, List.count_eq_zero.2 hp]
        simp
      rw [hc, splitL_at p r hp']
      match n, hn with
      | 0, hn => simp at hn
      | n + 1, hn =>
        unfold Lib.splitK
        rw [index_at p r hp', if_neg (by simp)]
        have e1 : ((p.length : Int)).toNat = p.length := by omega
        rw [e1]
        have e2 : (p ++ 32 :: r).drop (p.length + ([32] : List UInt8).length) = r := by
          rw [List.drop_append]
          simp
        rw [e2, splitK_splitL n r (by simp at hn; omega)]
        simp
    · have hl : ∀ c ∈ l, c ≠ 32 := fun c hc e => h (e ▸ hc)
      have hc : Lib.count l [32] = 0 := by
        rw [Lib.count_one]
        exact List.count_eq_zero.2 h
      rw [hc, splitL_no l hl]
      rfl
/-- the sum of the sizes -/
def total (xs : List ByteArray) : Nat := (xs.map (·.size)).sum
theorem total_take (xs : List ByteArray) (k : Nat) (h : k < xs.length) : total (xs.take (k + 1)) = total (xs.take k) + (xs[k]'h).size := by
  unfold total
  rw [List.take_succ_eq_append_getElem h, List.map_append, List.sum_append]
  rfl
theorem total_le (xs : List ByteArray) (k : Nat) : total (xs.take k) ≤ total xs := by
  unfold total
  conv => rhs; rw [← List.take_append_drop k xs]
  rw [List.map_append, List.sum_append]
  omega
def shortB (xs : List ByteArray) : Bool := decide (xs.length ≤ 20) && decide (total xs ≤ 400)
def joinTo (xs : List (List UInt8)) (k : Nat) : List UInt8 := Lib.join (xs.take k) [32]
theorem joinTo_succ (xs : List (List UInt8)) (k : Nat) (h : k < xs.length) : joinTo xs (k + 1) = if k = 0 then xs[k]'h else joinTo xs k ++ [32] ++ xs[k]'h := by
  unfold joinTo
  cases xs with
  | nil => simp at h
  | cons x r =>
    cases k with
    | zero => simp [Lib.join_one]
    | succ k =>
      rw [if_neg (by omega)]
      have hk : k < r.length := by simpa using h
      rw [List.take_succ_cons, List.take_succ_cons, Lib.join_cons, Lib.join_cons, List.take_succ_eq_append_getElem hk]
      unfold Lib.joinTail
      rw [List.map_append, List.flatten_append]
      simp only [List.map_cons, List.map_nil, List.flatten_cons, List.flatten_nil, List.append_nil, List.append_assoc, List.getElem_cons_succ]
theorem join_total : ∀ (xs : List (List UInt8)), (Lib.join xs [32]).length ≤ (xs.map List.length).sum + xs.length
  | [] => by simp [Lib.join_nil]
  | [x] => by simp [Lib.join_one]
  | x :: y :: r => by
    rw [join_cons2]
    have := join_total (y :: r)
    simp at this ⊢
    omega
end Go.Proofs.YthlmobmaehdmfaaDoor.Nm
