/- The texts of a pattern, as a set of strings: plain. -/
import Derived.Test.YthgcefppeaopkaaDoorMatchP
import Derived.Test.YthgcefppeaopkaaDoorStandR
namespace Go.Proofs.YthgcefppeaopkaaDoor
open Go
namespace Mx
abbrev Lg := List UInt8 → Prop
/-- no bytes at all -/
def lnil : Lg := fun w => w = []
/-- a text of the first, and behind it one of the second -/
def lcat (A B : Lg) : Lg := fun w => ∃ u v, w = u ++ v ∧ A u ∧ B v
def lpow (A : Lg) : Nat → Lg
  | 0 => lnil
  | k + 1 => lcat A (lpow A k)
mutual
/-- the texts of a pattern -/
def lang : Node → Lg
  | .mk k S kids mn mx => fun w => if k = 1 then ∃ c, w = [c] ∧ S.has c.toNat = true else if k = 2 then langCat kids w else if k = 3 then langAlt kids w else langRep kids mn mx w
def langCat : List Node → Lg
  | [] => lnil
  | n :: r => fun w => ∃ u v, w = u ++ v ∧ lang n u ∧ langCat r v
def langAlt : List Node → Lg
  | [] => fun _ => False
  | n :: r => fun w => lang n w ∨ langAlt r w
def langRep (kids : List Node) (mn mx : Int) : Lg := match kids with
  | [] => fun _ => False
  | n :: _ => fun w => ∃ k : Nat, mn.toNat ≤ k ∧ (mx = -1 ∨ (k : Int) ≤ mx) ∧ lpow (lang n) k w
end
theorem lang1 (S : CSet) (kids : List Node) (mn mx : Int) (w : List UInt8) : lang (.mk 1 S kids mn mx) w ↔ ∃ c, w = [c] ∧ S.has c.toNat = true := by unfold lang; simp
theorem lang2 (S : CSet) (kids : List Node) (mn mx : Int) (w : List UInt8) : lang (.mk 2 S kids mn mx) w ↔ langCat kids w := by rw [lang]; simp
theorem lang3 (S : CSet) (kids : List Node) (mn mx : Int) (w : List UInt8) : lang (.mk 3 S kids mn mx) w ↔ langAlt kids w := by rw [lang]; simp
theorem lang4 {k : Int} (h1 : k ≠ 1) (h2 : k ≠ 2) (h3 : k ≠ 3) (S : CSet) (kids : List Node) (mn mx : Int) (w : List UInt8) : lang (.mk k S kids mn mx) w ↔ langRep kids mn mx w := by rw [lang]; simp [h1, h2, h3]
theorem langCat_cons (n : Node) (r : List Node) (w : List UInt8) : langCat (n :: r) w ↔ lcat (lang n) (langCat r) w := by rw [langCat]; rfl
theorem langAlt_cons (n : Node) (r : List Node) (w : List UInt8) : langAlt (n :: r) w ↔ (lang n w ∨ langAlt r w) := by rw [langAlt]
theorem langRep_cons (n : Node) (r : List Node) (mn mx : Int) (w : List UInt8) : langRep (n :: r) mn mx w ↔ ∃ k : Nat, mn.toNat ≤ k ∧ (mx = -1 ∨ (k : Int) ≤ mx) ∧ lpow (lang n) k w := by rw [langRep]
/-- the bytes from one place to another -/
def seg (s : List UInt8) (i j : Nat) : List UInt8 := (s.drop i).take (j - i)
theorem seg_len {s : List UInt8} {i j : Nat} (hi : i ≤ j) (hj : j ≤ s.length) : (seg s i j).length = j - i := by unfold seg; rw [List.length_take, List.length_drop]; omega
theorem seg_split {s : List UInt8} {i m j : Nat} (h1 : i ≤ m) (h2 : m ≤ j) (_hj : j ≤ s.length) : seg s i j = seg s i m ++ seg s m j := by
  unfold seg
  have e : j - i = (m - i) + (j - m) := by omega
  rw [e, List.take_add, List.drop_drop, show i + (m - i) = m by omega]
theorem seg_all (s : List UInt8) : seg s 0 s.length = s := by unfold seg; simp
theorem seg_nil {s : List UInt8} {i j : Nat} (hi : i ≤ j) (hj : j ≤ s.length) : seg s i j = [] ↔ i = j := by
  rw [← List.length_eq_zero_iff, seg_len hi hj]; omega
/-- f goes from a place to those behind texts of A -/
structure Sem (s : List UInt8) (f : Pos → Pos) (A : Lg) : Prop where
  adds : Adds f
  keeps : Keeps (s.length + 1) f
  spec : ∀ i j, i ≤ s.length → (f (single i) j = true ↔ i ≤ j ∧ j ≤ s.length ∧ A (seg s i j))
theorem Sem.of_iff {s : List UInt8} {f : Pos → Pos} {A B : Lg} (h : Sem s f A) (e : ∀ w, A w ↔ B w) : Sem s f B := ⟨h.adds, h.keeps, fun i j hi => by rw [h.spec i j hi, e]⟩
theorem sem_nil (s : List UInt8) : Sem s (fun x => x) lnil where
  adds := Adds.id
  keeps := fun _ h => h
  spec i j hi := by
    simp only [single, beq_iff_eq, lnil]
    constructor
    · rintro rfl; exact ⟨Nat.le_refl _, hi, (seg_nil (Nat.le_refl _) hi).2 rfl⟩
    · rintro ⟨h1, h2, h3⟩; exact ((seg_nil h1 h2).1 h3).symm
theorem sem_none (s : List UInt8) : Sem s (fun _ => zr) (fun _ => False) where
  adds := Adds.zr
  keeps := fun _ _ => sup_none _
  spec i j hi := by simp [zr]
theorem Sem.or {s : List UInt8} {f g : Pos → Pos} {A B : Lg} (hf : Sem s f A) (hg : Sem s g B) : Sem s (fun x => orP (f x) (g x)) (fun w => A w ∨ B w) where
  adds := Adds.orP hf.adds hg.adds
  keeps := fun x h => (hf.keeps x h).orP (hg.keeps x h)
  spec i j hi := by
    simp only [orP, Bool.or_eq_true, hf.spec i j hi, hg.spec i j hi]
    constructor
    · rintro (⟨a, b, c⟩ | ⟨a, b, c⟩)
      · exact ⟨a, b, Or.inl c⟩
      · exact ⟨a, b, Or.inr c⟩
    · rintro ⟨a, b, c | c⟩
      · exact Or.inl ⟨a, b, c⟩
      · exact Or.inr ⟨a, b, c⟩
theorem lcat_seg {s : List UInt8} {A B : Lg} {i j : Nat} (hi : i ≤ j) (hj : j ≤ s.length) : lcat A B (seg s i j) ↔ ∃ m, i ≤ m ∧ m ≤ j ∧ A (seg s i m) ∧ B (seg s m j) := by
  constructor
  · rintro ⟨u, v, e, hu, hv⟩
    have hl : u.length + v.length = j - i := by rw [← seg_len hi hj, e, List.length_append]
    have hs := seg_split (s := s) (i := i) (m := i + u.length) (j := j) (by omega) (by omega) hj
    rw [e] at hs
    have h1 : u.length = (seg s i (i + u.length)).length := by rw [seg_len (by omega) (by omega)]; omega
    obtain ⟨h2, h3⟩ := List.append_inj hs h1
    exact ⟨i + u.length, by omega, by omega, h2 ▸ hu, h3 ▸ hv⟩
  · rintro ⟨m, h1, h2, h3, h4⟩
    exact ⟨_, _, seg_split h1 h2 hj, h3, h4⟩
theorem Sem.comp {s : List UInt8} {f g : Pos → Pos} {A B : Lg} (hf : Sem s f A) (hg : Sem s g B) : Sem s (fun x => g (f x)) (lcat A B) where
  adds := hf.adds.comp hg.adds
  keeps := fun x h => hg.keeps _ (hf.keeps x h)
  spec i j hi := by
    have hsup : Sup (s.length + 1) (f (single i)) := hf.keeps _ (sup_single (by omega))
    show g (f (single i)) j = true ↔ _
    rw [sp_any hg.adds hsup j, List.any_eq_true]
    constructor
    · rintro ⟨m, hm, h⟩
      rw [Bool.and_eq_true] at h
      obtain ⟨a, b, c⟩ := (hf.spec i m hi).1 h.1
      obtain ⟨a', b', c'⟩ := (hg.spec m j b).1 h.2
      exact ⟨by omega, b', (lcat_seg (by omega) b').2 ⟨m, a, a', c, c'⟩⟩
    · rintro ⟨a, b, c⟩
      obtain ⟨m, h1, h2, h3, h4⟩ := (lcat_seg a b).1 c
      exact ⟨m, List.mem_range.2 (by omega), by rw [Bool.and_eq_true]; exact ⟨(hf.spec i m hi).2 ⟨h1, by omega, h3⟩, (hg.spec m j (by omega)).2 ⟨h2, b, h4⟩⟩⟩
theorem Sem.iter {s : List UInt8} {f : Pos → Pos} {A : Lg} (hf : Sem s f A) : ∀ k, Sem s (iter f k) (lpow A k)
  | 0 => sem_nil s
  | k + 1 => hf.comp (Sem.iter hf k)
theorem iter_add (f : Pos → Pos) : ∀ a b x, Mx.iter f b (Mx.iter f a x) = Mx.iter f (a + b) x
  | 0, b, x => by rw [Nat.zero_add]; rfl
  | a + 1, b, x => by
    show Mx.iter f b (Mx.iter f a (f x)) = _
    rw [iter_add f a b (f x), show a + 1 + b = (a + b) + 1 by omega]
    rfl
theorem upto_iff {f : Pos → Pos} (hf : Adds f) (x : Pos) (j : Nat) : ∀ M, upto f M x j = true ↔ ∃ k, k ≤ M ∧ Mx.iter f k x j = true
  | 0 => by
    constructor
    · intro h; exact ⟨0, Nat.le_refl _, h⟩
    · rintro ⟨k, hk, h⟩
      obtain rfl : k = 0 := by omega
      exact h
  | M + 1 => by
    rw [upto_succ hf]
    simp only [orP, Bool.or_eq_true, upto_iff hf x j M]
    constructor
    · rintro (⟨k, hk, h⟩ | h)
      · exact ⟨k, by omega, h⟩
      · exact ⟨M + 1, Nat.le_refl _, h⟩
    · rintro ⟨k, hk, h⟩
      rcases Nat.lt_or_ge k (M + 1) with h1 | h1
      · exact Or.inl ⟨k, by omega, h⟩
      · obtain rfl : k = M + 1 := by omega
        exact Or.inr h
theorem upto_mono {f : Pos → Pos} (hf : Adds f) (x : Pos) {a b : Nat} (h : a ≤ b) (j : Nat) (hj : upto f a x j = true) : upto f b x j = true := by
  obtain ⟨k, h1, h2⟩ := (upto_iff hf x j a).1 hj
  exact (upto_iff hf x j b).2 ⟨k, by omega, h2⟩
/-- least and most of a repetition that may be -/
def Times (mn mx : Int) : Prop := 0 ≤ mn ∧ (mx = -1 ∨ mn ≤ mx)
theorem Sem.rep {s : List UInt8} {f : Pos → Pos} {A : Lg} (hf : Sem s f A) {mn mx : Int} (ht : Times mn mx) : Sem s (fun x => upto f (more s.length mn mx) (Mx.iter f mn.toNat x)) (fun w => ∃ k : Nat, mn.toNat ≤ k ∧ (mx = -1 ∨ (k : Int) ≤ mx) ∧ lpow A k w) where
  adds := (hf.adds.iter _).comp (hf.adds.upto _)
  keeps := fun x h => hf.keeps.upto _ _ (hf.keeps.iter _ _ h)
  spec i j hi := by
    have hsup : Sup (s.length + 1) (Mx.iter f mn.toNat (single i)) := hf.keeps.iter _ _ (sup_single (by omega))
    obtain ⟨h0, h1⟩ := ht
    show upto f (more s.length mn mx) (Mx.iter f mn.toNat (single i)) j = true ↔ _
    have key : upto f (more s.length mn mx) (Mx.iter f mn.toNat (single i)) j = true ↔ ∃ k : Nat, mn.toNat ≤ k ∧ (mx = -1 ∨ (k : Int) ≤ mx) ∧ Mx.iter f k (single i) j = true := by
      constructor
      · intro h
        obtain ⟨k, hk, h2⟩ := (upto_iff hf.adds _ j _).1 h
        rw [iter_add] at h2
        refine ⟨mn.toNat + k, by omega, ?_, h2⟩
        unfold more at hk
        split at hk
        · left; assumption
        · right; omega
      · rintro ⟨k, h2, h3, h4⟩
        have h5 : upto f (k - mn.toNat) (Mx.iter f mn.toNat (single i)) j = true := (upto_iff hf.adds _ j _).2 ⟨k - mn.toNat, Nat.le_refl _, by rw [iter_add, show mn.toNat + (k - mn.toNat) = k by omega]; exact h4⟩
        unfold more
        split
        · rcases Nat.le_total (k - mn.toNat) s.length with h6 | h6
          · exact upto_mono hf.adds _ h6 j h5
          · rw [← upto_full hf.adds hf.keeps hsup _ h6]; exact h5
        · exact upto_mono hf.adds _ (by omega) j h5
    rw [key]
    constructor
    · rintro ⟨k, h2, h3, h4⟩
      obtain ⟨a, b, c⟩ := ((hf.iter k).spec i j hi).1 h4
      exact ⟨a, b, k, h2, h3, c⟩
    · rintro ⟨a, b, k, h2, h3, c⟩
      exact ⟨k, h2, h3, ((hf.iter k).spec i j hi).2 ⟨a, b, c⟩⟩
theorem sem_one (S : CSet) (s : List UInt8) : Sem s (one S s) (fun w => ∃ c, w = [c] ∧ S.has c.toNat = true) where
  adds := adds_one S s
  keeps := keeps_one S s
  spec i j hi := by
    cases j with
    | zero =>
      simp only [one]
      constructor
      · intro h; cases h
      · rintro ⟨h1, h2, c, h3, _⟩
        have := congrArg List.length h3
        rw [seg_len h1 h2] at this
        simp at this
    | succ j =>
      simp only [one, single, Bool.and_eq_true, beq_iff_eq]
      constructor
      · rintro ⟨rfl, h⟩
        have hj : j < s.length := by
          rcases Nat.lt_or_ge j s.length with h1 | h1
          · exact h1
          · rw [List.getElem?_eq_none h1] at h; cases h
        rw [List.getElem?_eq_getElem hj] at h
        refine ⟨by omega, hj, s[j], ?_, h⟩
        unfold seg
        rw [List.drop_eq_getElem_cons hj, show j + 1 - j = 1 by omega]
        rfl
      · rintro ⟨h1, h2, c, h3, h4⟩
        have hl := congrArg List.length h3
        rw [seg_len h1 h2] at hl
        simp at hl
        obtain rfl : i = j := by omega
        have hj : i < s.length := by omega
        refine ⟨rfl, ?_⟩
        unfold seg at h3
        rw [List.drop_eq_getElem_cons hj, show i + 1 - i = 1 by omega] at h3
        have h5 : s[i] = c := (List.cons.inj h3).1
        rw [List.getElem?_eq_getElem hj, h5]
        exact h4
theorem times_right {n : Node} (h : Rx.right n = true) (h1 : n.kind ≠ 1) (h2 : n.kind ≠ 2) (h3 : n.kind ≠ 3) : Times n.min n.max := by
  rw [Rx.right_eq, Bool.and_eq_true] at h
  have ht := h.1
  unfold Rx.topB at ht
  simp [h1, h2, h3] at ht
  obtain ⟨_, _, ht⟩ := ht
  unfold Rx.timesB at ht
  split at ht
  · cases ht
  · rename_i hc
    simp at hc ht
    exact ⟨by omega, by omega⟩
mutual
theorem sem_sp (s : List UInt8) : ∀ n, Rx.right n = true → Sem s (sp s n) (lang n)
  | .mk k S kids mn mx, hr => by
    have hk : ∀ x ∈ kids, Rx.right x = true := fun x hx => by
      rw [Rx.right_eq, Bool.and_eq_true] at hr
      exact ((Rx.rights_iff _ _).1 hr.2 x hx).1
    by_cases h1 : k = 1
    · subst h1
      have e : sp s (.mk 1 S kids mn mx) = one S s := by unfold sp; simp
      rw [e]
      exact (sem_one S s).of_iff (fun w => by unfold lang; simp)
    · by_cases h2 : k = 2
      · subst h2
        have e : sp s (.mk 2 S kids mn mx) = spCat s kids := by unfold sp; simp
        rw [e]
        exact (sem_cat s kids hk).of_iff (fun w => by rw [lang2])
      · by_cases h3 : k = 3
        · subst h3
          have e : sp s (.mk 3 S kids mn mx) = spAlt s kids := by unfold sp; simp
          rw [e]
          exact (sem_alt s kids hk).of_iff (fun w => by rw [lang3])
        · have ht : Times mn mx := times_right hr h1 h2 h3
          have e : sp s (.mk k S kids mn mx) = spRep s kids mn mx := by unfold sp; simp [h1, h2, h3]
          rw [e]
          exact (sem_rep s kids hk mn mx ht).of_iff (fun w => by rw [lang4 h1 h2 h3])
theorem sem_cat (s : List UInt8) : ∀ l, (∀ x ∈ l, Rx.right x = true) → Sem s (spCat s l) (langCat l)
  | [], _ => by unfold spCat; exact (sem_nil s).of_iff (fun w => by unfold langCat; rfl)
  | n :: r, h => by
    unfold spCat
    exact ((sem_sp s n (h n (by simp))).comp (sem_cat s r (fun x hx => h x (by simp [hx])))).of_iff (fun w => by rw [langCat_cons])
theorem sem_alt (s : List UInt8) : ∀ l, (∀ x ∈ l, Rx.right x = true) → Sem s (spAlt s l) (langAlt l)
  | [], _ => by unfold spAlt; exact (sem_none s).of_iff (fun w => by unfold langAlt; rfl)
  | n :: r, h => by
    unfold spAlt
    exact ((sem_sp s n (h n (by simp))).or (sem_alt s r (fun x hx => h x (by simp [hx])))).of_iff (fun w => by rw [langAlt_cons])
theorem sem_rep (s : List UInt8) : ∀ (kids : List Node), (∀ x ∈ kids, Rx.right x = true) → ∀ mn mx, Times mn mx → Sem s (spRep s kids mn mx) (langRep kids mn mx)
  | [], _, _, _, _ => by unfold spRep; exact (sem_none s).of_iff (fun w => by unfold langRep; rfl)
  | n :: _, h, mn, mx, ht => by
    unfold spRep
    exact ((sem_sp s n (h n (by simp))).rep ht).of_iff (fun w => by rw [langRep_cons])
end
/-- a text is one of a pattern's: all of it -/
theorem sp_whole {n : Node} (h : Rx.right n = true) (s : List UInt8) : sp s n (single 0) s.length = true ↔ lang n s := by
  rw [(sem_sp s n h).spec 0 s.length (Nat.zero_le _), seg_all]
  simp
end Mx
end Go.Proofs.YthgcefppeaopkaaDoor
