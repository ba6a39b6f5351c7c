/- Trees that may be; what is read may be; brackets and bars around: plain. -/
import Derived.Test.YthgcefppeaopkaaDoorStandP
namespace Go.Proofs.YthgcefppeaopkaaDoor
open Go
namespace Rx
def timesB (lo hi : Int) : Bool := if lo < 0 || lo > 16 || hi > 16 || hi < -1 || hi == 0 then false else hi == -1 || hi ≥ lo
/-- a node itself, its kids aside -/
def topB (kind : Int) (S : CSet) (many : Nat) (mn mx : Int) : Bool :=
  (kind == 1 || kind == 2 || kind == 3 || kind == 4) && (kind == 1 || decide (S = CSet.empty)) && (kind == 4 || mn == 0 && mx == 0) &&
  (if kind == 1 then many == 0 else if kind == 2 then many != 1 else if kind == 3 then decide (many > 1) else many == 1 && timesB mn mx)
mutual
/-- may a tree be? -/
def right : Node → Bool
  | .mk kind S kids mn mx => topB kind S kids.length mn mx && rights kind kids
def rights (kind : Int) : List Node → Bool
  | [] => true
  | n :: r => (right n && !(n.kind == kind && kind != 4)) && rights kind r
end
theorem right_eq (n : Node) : right n = (topB n.kind n.set n.kids.length n.min n.max && rights n.kind n.kids) := by cases n; rw [right]; rfl
theorem rights_iff (kind : Int) (ns : List Node) : rights kind ns = true ↔ ∀ n ∈ ns, right n = true ∧ ¬ (n.kind = kind ∧ kind ≠ 4) := by
  induction ns with
  | nil => simp [rights]
  | cons a r ih => rw [rights, Bool.and_eq_true, ih]; simp; intro _; omega
theorem right_one (S : CSet) : right (.mk 1 S [] 0 0) = true := by simp [right, rights, topB]
theorem right_rep {n : Node} {lo hi : Int} (h : right n = true) (ht : timesB lo hi = true) : right (rep n lo hi) = true := by
  unfold rep
  rw [right, Bool.and_eq_true]
  refine ⟨by simp [topB, ht], ?_⟩
  rw [rights_iff]
  intro x hx
  simp at hx
  subst hx
  exact ⟨h, by simp⟩
/-- parts laid flat: each may be, and none is of the kind -/
theorem right_flat {kind : Int} (hk : kind = 2 ∨ kind = 3) : ∀ (ns : List Node), (∀ n ∈ ns, right n = true) → ∀ x ∈ flat kind ns, right x = true ∧ ¬ (x.kind = kind ∧ kind ≠ 4)
  | [], _, x, hx => by simp [flat] at hx
  | n :: r, h, x, hx => by
    unfold flat at hx
    by_cases h1 : n.kind = kind
    · rw [if_pos h1] at hx
      rcases List.mem_append.1 hx with hx | hx
      · have hn := h n (by simp)
        rw [right_eq, Bool.and_eq_true] at hn
        have := (rights_iff _ _).1 hn.2 x hx
        rwa [h1] at this
      · exact right_flat hk r (fun n hn => h n (by simp [hn])) x hx
    · rw [if_neg h1] at hx
      rcases List.mem_cons.1 hx with rfl | hx
      · exact ⟨h x (by simp), fun e => h1 e.1⟩
      · exact right_flat hk r (fun n hn => h n (by simp [hn])) x hx
theorem right_join {kind : Int} (hk : kind = 2 ∨ kind = 3) (ns : List Node) (h : ∀ n ∈ ns, right n = true) (h3 : kind = 3 → (flat kind ns).length ≠ 0) : right (join kind ns) = true := by
  have hf := right_flat hk ns h
  unfold join
  generalize flat kind ns = l at *
  match l, hf, h3 with
  | [x], hf, _ => exact (hf x (by simp)).1
  | [], hf, h3 =>
    rcases hk with rfl | rfl
    · simp [right, rights, topB]
    · exact absurd rfl (h3 rfl)
  | x :: y :: r, hf, _ =>
    rw [right, Bool.and_eq_true]
    refine ⟨?_, (rights_iff _ _).2 hf⟩
    rcases hk with rfl | rfl <;> simp [topB]
theorem kids_alt {n : Node} (h : right n = true) (hk : n.kind = 3) : 2 ≤ n.kids.length := by
  rw [right_eq, Bool.and_eq_true] at h
  have := h.1
  simp [topB, hk] at this
  omega
theorem flat_ne {ns : List Node} (h : ∀ n ∈ ns, right n = true) : ns.length ≤ (flat 3 ns).length := by
  induction ns with
  | nil => simp
  | cons n r ih =>
    have hr := ih (fun x hx => h x (by simp [hx]))
    unfold flat
    by_cases h1 : n.kind = 3
    · rw [if_pos h1, List.length_append, List.length_cons]
      have := kids_alt (h n (by simp)) h1
      omega
    · rw [if_neg h1, List.length_cons, List.length_cons]; omega
variable {l : List UInt8}
theorem times_brc {i : Nat} {lo hi : Int} {p : Nat} (h : brc l i = .ok (lo, hi) p) : timesB lo hi = true := by
  unfold brc at h
  cases hr : number l i with
  | bad e q => rw [hr] at h; cases h
  | out => rw [hr] at h; cases h
  | ok low q =>
    have hl := number_le hr
    rw [hr] at h
    dsimp only at h
    split at h
    · split at h
      · cases h; simp [timesB]; omega
      · cases hr2 : number l (q + 1) with
        | bad e q => rw [hr2] at h; cases h
        | out => rw [hr2] at h; cases h
        | ok high r =>
          have hl2 := number_le hr2
          rw [hr2] at h
          dsimp only at h
          split at h
          · cases h
          · rename_i h3
            cases h
            simp [timesB]
            omega
    · split at h
      · cases h
      · cases h; simp [timesB]; omega
section
variable {at1 : Nat → Res Node}
theorem right_piece {i : Nat} {n : Node} {p : Nat} (ha : ∀ i n p, at1 i = .ok n p → right n = true) (h : piece l at1 i = .ok n p) : right n = true := by
  unfold piece at h
  cases hr : at1 i with
  | bad e q => rw [hr] at h; cases h
  | out => rw [hr] at h; cases h
  | ok x q =>
    have hx := ha i x q hr
    rw [hr] at h
    dsimp only at h
    split at h
    · cases h; exact right_rep hx (by decide)
    · split at h
      · cases h; exact right_rep hx (by decide)
      · split at h
        · cases h; exact right_rep hx (by decide)
        · split at h
          · cases hr2 : brc l (q + 1) with
            | bad e q => rw [hr2] at h; cases h
            | out => rw [hr2] at h; cases h
            | ok y r =>
              obtain ⟨lo, hi⟩ := y
              rw [hr2] at h
              dsimp only at h
              split at h
              · cases h; exact right_rep hx (times_brc hr2)
              · exact (other_ok h).elim
          · cases h; exact hx
theorem right_pieces (ha : ∀ i n p, at1 i = .ok n p → right n = true) : ∀ (f : Nat) (ns : List Node) (i : Nat) {ms : List Node} {p : Nat}, (∀ n ∈ ns, right n = true) → pieces l at1 f ns i = .ok ms p → ∀ n ∈ ms, right n = true
  | 0, ns, i, ms, p, hn, h => by cases h
  | f + 1, ns, i, ms, p, hn, h => by
    unfold pieces at h
    split at h
    · cases h; exact hn
    · cases hr : piece l at1 i with
      | bad e q => rw [hr] at h; cases h
      | out => rw [hr] at h; cases h
      | ok x q =>
        rw [hr] at h
        refine right_pieces ha f _ q (fun n hm => ?_) h
        rcases List.mem_append.1 hm with hm | hm
        · exact hn n hm
        · simp at hm; subst hm; exact right_piece ha hr
theorem right_cat {i : Nat} {n : Node} {p : Nat} (ha : ∀ i n p, at1 i = .ok n p → right n = true) (h : cat l at1 i = .ok n p) : right n = true := by
  unfold cat at h
  cases hr : pieces l at1 (l.length + 1) [] i with
  | bad e q => rw [hr] at h; cases h
  | out => rw [hr] at h; cases h
  | ok ns q =>
    rw [hr] at h
    cases h
    exact right_join (Or.inl rfl) ns (right_pieces ha _ _ _ (by simp) hr) (fun e => by simp at e)
theorem right_cats (ha : ∀ i n p, at1 i = .ok n p → right n = true) : ∀ (f : Nat) (ns : List Node) (i : Nat) {ms : List Node} {p : Nat}, (∀ n ∈ ns, right n = true) → cats l at1 f ns i = .ok ms p → (∀ n ∈ ms, right n = true) ∧ ns.length ≤ ms.length
  | 0, ns, i, ms, p, hn, h => by cases h
  | f + 1, ns, i, ms, p, hn, h => by
    unfold cats at h
    split at h
    · cases hr : cat l at1 (i + 1) with
      | bad e q => rw [hr] at h; cases h
      | out => rw [hr] at h; cases h
      | ok x q =>
        rw [hr] at h
        have := right_cats ha f (ns ++ [x]) q (fun n hm => by
          rcases List.mem_append.1 hm with hm | hm
          · exact hn n hm
          · simp at hm; subst hm; exact right_cat ha hr) h
        exact ⟨this.1, by have h2 := this.2; simp at h2; omega⟩
    · cases h; exact ⟨hn, Nat.le_refl _⟩
theorem right_alt {i : Nat} {n : Node} {p : Nat} (ha : ∀ i n p, at1 i = .ok n p → right n = true) (h : alt l at1 i = .ok n p) : right n = true := by
  obtain ⟨n0, p0, ns, h1, h2, h3⟩ := alt_parts h
  have hr := right_cats ha _ _ _ (by intro x hx; simp at hx; subst hx; exact right_cat ha h1) h2
  rcases h3 with rfl | ⟨h3, rfl⟩
  · exact hr.1 n (by simp)
  · refine right_join (Or.inr rfl) ns hr.1 (fun _ e => ?_)
    have h4 := flat_ne hr.1
    have h5 := hr.2
    simp at h5
    omega
end
theorem right_atom : ∀ (d i : Nat) (n : Node) (p : Nat), atom l d i = .ok n p → right n = true := by
  intro d
  induction d with
  | zero =>
    intro i n p h
    rw [atom] at h
    split at h
    · exact (other_ok h).elim
    · split at h
      · cases h
      · split at h
        · cases h; exact right_one _
        · split at h
          · cases hr : cls l (i + 1) with
            | bad e q => rw [hr] at h; cases h
            | out => rw [hr] at h; cases h
            | ok S q => rw [hr] at h; cases h; exact right_one _
          · split at h
            · cases hr : esc l i with
              | bad e q => rw [hr] at h; cases h
              | out => rw [hr] at h; cases h
              | ok x q => rw [hr] at h; cases h; exact right_one _
            · cases h; exact right_one _
  | succ d ih =>
    intro i n p h
    rw [atom] at h
    split at h
    · exact (other_ok h).elim
    · split at h
      · cases hr : alt l (atom l d) (i + 1) with
        | bad e q => rw [hr] at h; cases h
        | out => rw [hr] at h; cases h
        | ok x q =>
          rw [hr] at h
          dsimp only at h
          split at h
          · cases h; exact right_alt ih hr
          · exact (other_ok h).elim
      · split at h
        · cases h; exact right_one _
        · split at h
          · cases hr : cls l (i + 1) with
            | bad e q => rw [hr] at h; cases h
            | out => rw [hr] at h; cases h
            | ok S q => rw [hr] at h; cases h; exact right_one _
          · split at h
            · cases hr : esc l i with
              | bad e q => rw [hr] at h; cases h
              | out => rw [hr] at h; cases h
              | ok x q => rw [hr] at h; cases h; exact right_one _
            · cases h; exact right_one _
/-- joining a tree alone leaves it -/
theorem join_self {n : Node} (h : right n = true) (kind : Int) (hk : kind = 2 ∨ kind = 3) : join kind [n] = n := by
  unfold join
  rw [flat_one]
  by_cases h1 : n.kind = kind
  · rw [if_pos h1]
    rw [right_eq, Bool.and_eq_true] at h
    have ht := h.1
    have hlen : n.kids.length ≠ 1 := by
      rcases hk with rfl | rfl <;> simp [topB, h1] at ht <;> omega
    have hs : n.set = CSet.empty ∧ n.min = 0 ∧ n.max = 0 := by
      rcases hk with rfl | rfl <;> simp [topB, h1] at ht <;> exact ⟨ht.1.1, ht.1.2.1, ht.1.2.2⟩
    have e : n = .mk kind CSet.empty n.kids 0 0 := by
      obtain ⟨h2, h3, h4⟩ := hs
      cases n
      simp [Node.kind, Node.set, Node.min, Node.max, Node.kids] at *
      exact ⟨h1, h2, h3, h4⟩
    generalize n.kids = l at *
    match l, hlen, e with
    | [], _, e => exact e.symm
    | [x], hl, _ => simp at hl
    | x :: y :: r, _, e => exact e.symm
  · rw [if_neg h1]
end Rx
end Go.Proofs.YthgcefppeaopkaaDoor
