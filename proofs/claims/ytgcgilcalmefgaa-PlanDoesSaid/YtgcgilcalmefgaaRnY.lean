/- Rows that are owned, each with cells of its own: pairs. -/
import Derived.Test.YtgcgilcalmefgaaRnX
namespace Go.Proofs.Ytgcgilcalmefgaa
open Go Go.RowKit
theorem rows_map {α β : Type} {n : Nat} {R : β → List Value → Prop} {G : Nat → Prop} {w : World} {A : Option Addr} {ps : List α} (f : α → β) (h : RowsAt n (fun p cs => R (f p) cs) G w A ps) : RowsAt n R G w A (ps.map f) := fun h0 => by
  rw [List.length_map] at h0
  obtain ⟨b, o, h1, h2, h3⟩ := h h0
  refine ⟨b, o, h1, h2, fun k hk => ?_⟩
  rw [List.length_map] at hk
  obtain ⟨cs, h4, h5⟩ := h3 k hk
  exact ⟨cs, by rw [List.getElem_map]; exact h4, h5⟩
theorem own_slice {w : World} {base n len : Nat} {e : TypeId} {v : Value} {xs : List Value} (h : w.ownsRow base e n v len xs) : ∃ A c, v = .slice A len c := by
  rcases h.2 with ⟨rfl, h0⟩ | ⟨g, cap, cur, rfl, -⟩
  · subst h0; exact ⟨none, 0, rfl⟩
  · exact ⟨_, cap, rfl⟩
theorem flat_at {α : Type} {n : Nat} {row : α → List Value} (hrow : ∀ x, (row x).length = n) : ∀ (l : List α) (j : Nat) (u : Value), (l.flatMap row)[j]? = some u → ∃ (k r : Nat) (h : k < l.length), j = k * n + r ∧ (row l[k])[r]? = some u := by
  intro l
  induction l with
  | nil => intro j u h; simp at h
  | cons a r ih =>
    intro j u h
    rw [List.flatMap_cons] at h
    rcases Nat.lt_or_ge j n with hj | hj
    · rw [List.getElem?_append_left (by rw [hrow]; exact hj)] at h
      exact ⟨0, j, by simp, by omega, h⟩
    · rw [List.getElem?_append_right (by rw [hrow]; exact hj), hrow] at h
      obtain ⟨k, q, hk, e, hu⟩ := ih _ _ h
      exact ⟨k + 1, q, by simpa using hk, by rw [Nat.succ_mul]; omega, by simpa using hu⟩
/-- the cells of some rows that follow one another -/
theorem rows_news {α : Type} {n : Nat} {R : α → List Value → Prop} {row : α → List Value} {G : Nat → Prop} {w : World} {b o : Nat} {xs : List α} (hrow : ∀ x, (row x).length = n) (hR : ∀ x cs, R x cs → cs = row x) (h : RowsAt n R G w (some ⟨b, o, none⟩) xs) (lo m : Nat) :
    ∀ j u, (((xs.drop lo).take m).flatMap row)[j]? = some u → w.cell? ((⟨b, o + lo * n, none⟩ : Addr).add j) = some u := by
  intro j u hj
  obtain ⟨k, r, hk, rfl, hu⟩ := flat_at hrow _ _ _ hj
  have hk2 : lo + k < xs.length := by simp at hk; omega
  obtain ⟨b', o', cs, e, -, h2, h3⟩ := rows_at h hk2
  obtain ⟨rfl, rfl⟩ : b = b' ∧ o = o' := by simpa using e
  have e2 : ((xs.drop lo).take m)[k] = xs[lo + k] := by simp
  rw [e2, ← hR _ _ h2] at hu
  have h4 := h3 r u hu
  rw [addr_off, show o + lo * n + (k * n + r) = o + (lo + k) * n + r by rw [Nat.add_mul]; omega]
  exact h4
end Go.Proofs.Ytgcgilcalmefgaa
