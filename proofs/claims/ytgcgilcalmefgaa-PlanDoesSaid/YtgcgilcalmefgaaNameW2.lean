/- Walks for chapter 9 (names): the loops over a string's runes. -/
import Derived.Test.YtgcgilcalmefgaaNameW
namespace Go.Proofs.Ytgcgilcalmefgaa.Nm
open Go Go.RowKit
set_option maxRecDepth 100000
set_option linter.unusedSimpArgs false
set_option linter.unusedVariables false
set_option maxHeartbeats 400000
theorem isEmpty_no {s : ByteArray} (h : 1 ≤ s.size) : s.toList.isEmpty = false := by
  have e : s.toList = s.data.toList := ByteArray.toList_eq s
  rw [e]
  cases hs : s.data.toList with
  | nil =>
    have h1 : s.data.toList.length = 0 := by rw [hs]; rfl
    have h2 : s.data.toList.length = s.size := by simp
    omega
  | cons => rfl
theorem isEmpty_yes {s : ByteArray} (h : s.size = 0) : s.toList.isEmpty = true := by
  have e : s.toList = s.data.toList := ByteArray.toList_eq s
  rw [e]
  cases hs : s.data.toList with
  | nil => rfl
  | cons a r =>
    have h1 : s.data.toList.length = r.length + 1 := by rw [hs]; rfl
    have h2 : s.data.toList.length = s.size := by simp
    omega
/-- a sign that holds g is a single byte: what a range over the string makes of it -/
theorem dec_of (g : Int → Bool → Bool) (hg : ∀ c f, g c f = true → 0 ≤ c ∧ c < 128) (s : ByteArray) (k : Nat) (h : k < s.size) (f : Bool) :
    g (s[k].toNat) f = g (Utf8.decode s k).1 f ∧ (g (Utf8.decode s k).1 f = true → (Utf8.decode s k).2 = 1) := by
  by_cases ha : (s[k]'h).toNat < 128
  · rw [decode_ascii s k h ha]
    exact ⟨rfl, fun _ => rfl⟩
  · have hd := decode_high s k h (by omega)
    have e1 : g (Utf8.decode s k).1 f = false := by
      cases e : g (Utf8.decode s k).1 f with
      | false => rfl
      | true => have := hg _ _ e; omega
    have e2 : g (s[k].toNat) f = false := by
      cases e : g (s[k].toNat) f with
      | false => rfl
      | true => have := hg _ _ e; omega
    exact ⟨by rw [e1, e2], fun e => by rw [e1] at e; cases e⟩
theorem at_list (s : ByteArray) (i : Nat) (h : i < s.data.toList.length) : s.data.toList[i] = s[i]'(by simpa using h) := rfl
theorem fin_no (g : Int → Bool → Bool) (s : ByteArray) (k : Nat) (hlt : k < s.size) (hp : ∀ i (h : i < s.size), i < k → g (s[i].toNat) (i == 0) = true) (hn : g (s[k].toNat) (k == 0) = false) : allB g s.data.toList = false :=
  allB_no g _ k (by simpa using hlt) (fun i hi hik => by rw [at_list]; exact hp i _ hik) (by rw [at_list]; exact hn)
theorem fin_yes (g : Int → Bool → Bool) (s : ByteArray) (k : Nat) (hlt : ¬ k < s.size) (hp : ∀ i (h : i < s.size), i < k → g (s[i].toNat) (i == 0) = true) : allB g s.data.toList = true :=
  allB_yes g _ (fun i hi => by
    have h : i < s.size := by simpa using hi
    rw [at_list]
    exact hp i h (by omega))
theorem more (g : Int → Bool → Bool) (s : ByteArray) (k : Nat) (hlt : k < s.size) (hp : ∀ i (h : i < s.size), i < k → g (s[i].toNat) (i == 0) = true) (hn : g (s[k].toNat) (k == 0) = true) :
    ∀ i (h : i < s.size), i < k + 1 → g (s[i].toNat) (i == 0) = true := fun i h hi => by
  by_cases e : i = k
  · subst e; exact hn
  · exact hp i h (by omega)
theorem below_iter (w : World) (s : ByteArray) (k : Nat) : Below w.heap.size w (w.iter s k) := (Below.refl _ _).alloc (Nat.le_refl _) _
end Go.Proofs.Ytgcgilcalmefgaa.Nm
