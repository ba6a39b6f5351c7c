/- Plain definitions for chapter 9 (names): no program in sight. -/
namespace Go.Proofs.Ytgcgilcalmefgaa.Nm
def letterB (c : Int) : Bool := c == 95 || (decide (97 ≤ c) && decide (c ≤ 122)) || (decide (65 ≤ c) && decide (c ≤ 90))
def digitB (c : Int) : Bool := decide (48 ≤ c) && decide (c ≤ 57)
/-- may this sign stand in a label's name (first: as its first one)? -/
def signB (c : Int) (first : Bool) : Bool := letterB c || (!first && digitB c)
/-- may this sign stand in a word? -/
def wsignB (c : Int) (first : Bool) : Bool := (decide (97 ≤ c) && decide (c ≤ 122)) || (!first && (digitB c || c == 45))
theorem letterB_lt {c : Int} (h : letterB c = true) : 0 ≤ c ∧ c < 128 := by
  simp [letterB] at h; omega
theorem digitB_lt {c : Int} (h : digitB c = true) : 0 ≤ c ∧ c < 128 := by
  simp [digitB] at h; omega
theorem signB_lt {c : Int} {f : Bool} (h : signB c f = true) : 0 ≤ c ∧ c < 128 := by
  simp only [signB, Bool.or_eq_true, Bool.and_eq_true] at h
  rcases h with h | ⟨_, h⟩
  · exact letterB_lt h
  · exact digitB_lt h
theorem wsignB_lt {c : Int} {f : Bool} (h : wsignB c f = true) : 0 ≤ c ∧ c < 128 := by
  simp [wsignB, digitB] at h; omega
/-- how many signs, from the head on, hold g (first: the first one's mark) -/
def run (g : Int → Bool → Bool) : Bool → List UInt8 → Nat
  | _, [] => 0
  | f, c :: r => if g c.toNat f then run g false r + 1 else 0
def allB (g : Int → Bool → Bool) (l : List UInt8) : Bool := run g true l == l.length
def labelB (l : List UInt8) : Bool := decide (1 ≤ l.length) && decide (l.length ≤ 32) && allB signB l
def wordB (l : List UInt8) : Bool := decide (1 ≤ l.length) && decide (l.length ≤ 32) && allB wsignB l
theorem run_le (g : Int → Bool → Bool) : ∀ f l, run g f l ≤ l.length
  | _, [] => Nat.le_refl _
  | f, c :: r => by
    unfold run
    have := run_le g false r
    split <;> simp; omega
/-- the first k hold g, the next does not: the run is k -/
theorem run_eq (g : Int → Bool → Bool) : ∀ (f : Bool) (l : List UInt8) (k : Nat), k ≤ l.length → (∀ i (h : i < l.length), i < k → g (l[i].toNat) (f && i == 0) = true) →
    (∀ (h : k < l.length), g (l[k].toNat) (f && k == 0) = false) → run g f l = k
  | _, [], k, h, _, _ => by simp at h; simp [run, h]
  | f, c :: r, 0, _, _, h2 => by
    have := h2 (by simp)
    simp at this
    simp [run, this]
  | f, c :: r, k + 1, hk, h1, h2 => by
    have h0 := h1 0 (by simp) (by omega)
    simp at h0
    simp only [run, h0, if_true]
    rw [run_eq g false r k (by simpa using hk) (fun i hi hik => by have := h1 (i + 1) (by simpa using hi) (by omega); simpa using this)
      (fun h => by have := h2 (by simpa using h); simpa using this)]
theorem run_all (g : Int → Bool → Bool) (f : Bool) (l : List UInt8) (h : ∀ i (h : i < l.length), g (l[i].toNat) (f && i == 0) = true) : run g f l = l.length :=
  run_eq g f l l.length (Nat.le_refl _) (fun i hi _ => h i hi) (fun h => absurd h (Nat.lt_irrefl _))
theorem allB_no (g : Int → Bool → Bool) (l : List UInt8) (k : Nat) (hk : k < l.length) (h1 : ∀ i (h : i < l.length), i < k → g (l[i].toNat) (i == 0) = true) (h2 : g (l[k].toNat) (k == 0) = false) : allB g l = false := by
  unfold allB
  rw [run_eq g true l k (by omega) (by simpa using h1) (by simpa using fun _ => h2)]
  simp; omega
theorem allB_yes (g : Int → Bool → Bool) (l : List UInt8) (h1 : ∀ i (h : i < l.length), g (l[i].toNat) (i == 0) = true) : allB g l = true := by
  unfold allB
  rw [run_all g true l (by simpa using h1)]
  simp
theorem run_app (g : Int → Bool → Bool) : ∀ (f : Bool) (l r : List UInt8), run g f l = l.length → (∀ c ∈ r.head?, g c.toNat false = false) → (f = true → l ≠ [] ) → run g f (l ++ r) = l.length
  | f, [], r, _, h, hf => by
    cases f
    · cases r with
      | nil => rfl
      | cons c r => simp [run, h c (by simp)]
    · exact absurd rfl (hf rfl)
  | f, c :: l, r, hl, h, _ => by
    simp only [run] at hl
    split at hl
    · rename_i hc
      simp only [List.cons_append, run, hc, if_true, List.length_cons]
      rw [run_app g false l r (by simpa using hl) h (by simp)]
    · simp at hl
theorem run_label {l : List UInt8} (h : labelB l = true) (r : List UInt8) (hr : ∀ c ∈ r.head?, signB c.toNat false = false) : run signB true (l ++ r) = l.length := by
  simp only [labelB, Bool.and_eq_true, decide_eq_true_eq, allB, beq_iff_eq] at h
  exact run_app _ _ _ _ h.2 hr (fun _ e => by subst e; simp at h)
theorem signB_0 {c : Int} : signB c true = letterB c := by simp [signB]
theorem signB_1 {c : Int} : signB c false = (letterB c || digitB c) := by simp [signB]
end Go.Proofs.Ytgcgilcalmefgaa.Nm
