/- Where a pattern's texts end: plain. -/
import Derived.Test.YthgcefppeaopkaaDoorRegexP
namespace Go.Proofs.YthgcefppeaopkaaDoor
open Go
namespace Mx
abbrev Pos := Nat → Bool
def zr : Pos := fun _ => false
def orP (a b : Pos) : Pos := fun j => a j || b j
def single (i : Nat) : Pos := fun j => j == i
/-- one byte on -/
def one (S : CSet) (s : List UInt8) (x : Pos) : Pos := fun j => match j with
  | 0 => false
  | i + 1 => x i && (match s[i]? with | some c => S.has c.toNat | _ => false)
def iter (f : Pos → Pos) : Nat → Pos → Pos
  | 0, x => x
  | k + 1, x => iter f k (f x)
/-- x, and what f reaches off it in up to so many steps -/
def upto (f : Pos → Pos) : Nat → Pos → Pos
  | 0, x => x
  | k + 1, x => orP x (f (upto f k x))
/-- how many times more than its least a part may come, upon a text so long -/
def more (long : Nat) (mn mx : Int) : Nat := if mx = -1 then long else (mx - mn).toNat
mutual
/-- where the texts end that begin at one of some places -/
def sp (s : List UInt8) : Node → Pos → Pos
  | .mk k S kids mn mx => fun x => if k = 1 then one S s x else if k = 2 then spCat s kids x else if k = 3 then spAlt s kids x else spRep s kids mn mx x
def spCat (s : List UInt8) : List Node → Pos → Pos
  | [] => fun x => x
  | n :: r => fun x => spCat s r (sp s n x)
def spAlt (s : List UInt8) : List Node → Pos → Pos
  | [] => fun _ => zr
  | n :: r => fun x => orP (sp s n x) (spAlt s r x)
def spRep (s : List UInt8) (kids : List Node) (mn mx : Int) : Pos → Pos := match kids with
  | [] => fun _ => zr
  | n :: _ => fun x => upto (sp s n) (more s.length mn mx) (iter (sp s n) mn.toNat x)
end
/-- f works place by place -/
structure Adds (f : Pos → Pos) : Prop where
  or_ : ∀ a b, f (orP a b) = orP (f a) (f b)
  none_ : f zr = zr
theorem or_none (a : Pos) : orP a zr = a := by funext j; simp [orP, zr]
theorem none_or (a : Pos) : orP zr a = a := by funext j; simp [orP, zr]
theorem or_self (a : Pos) : orP a a = a := by funext j; simp [orP]
theorem or_comm (a b : Pos) : orP a b = orP b a := by funext j; simp [orP, Bool.or_comm]
theorem or_assoc (a b c : Pos) : orP (orP a b) c = orP a (orP b c) := by funext j; simp [orP, Bool.or_assoc]
theorem or_four (a b c d : Pos) : orP (orP a b) (orP c d) = orP (orP a c) (orP b d) := by
  funext j; simp only [orP]; cases a j <;> cases b j <;> cases c j <;> cases d j <;> rfl
theorem adds_one (S : CSet) (s : List UInt8) : Adds (one S s) where
  or_ a b := by
    funext j
    cases j with
    | zero => rfl
    | succ i => simp only [one, orP]; cases a i <;> cases b i <;> simp
  none_ := by funext j; cases j <;> simp [one, zr]
theorem Adds.comp {f g : Pos → Pos} (hf : Adds f) (hg : Adds g) : Adds (fun x => g (f x)) := ⟨fun a b => by rw [hf.or_, hg.or_], by rw [hf.none_, hg.none_]⟩
theorem Adds.id : Adds (fun x => x) := ⟨fun _ _ => rfl, rfl⟩
theorem Adds.zr : Adds (fun _ => zr) := ⟨fun _ _ => (or_self _).symm, rfl⟩
theorem Adds.orP {f g : Pos → Pos} (hf : Adds f) (hg : Adds g) : Adds (fun x => orP (f x) (g x)) := ⟨fun a b => by rw [hf.or_, hg.or_, or_four], by rw [hf.none_, hg.none_, or_self]⟩
theorem Adds.iter {f : Pos → Pos} (hf : Adds f) : ∀ k, Adds (iter f k)
  | 0 => Adds.id
  | k + 1 => hf.comp (Adds.iter hf k)
theorem Adds.upto {f : Pos → Pos} (hf : Adds f) : ∀ k, Adds (upto f k)
  | 0 => Adds.id
  | k + 1 => Adds.orP Adds.id ((Adds.upto hf k).comp hf)
mutual
theorem adds_sp (s : List UInt8) : ∀ n, Adds (sp s n)
  | .mk k S kids mn mx => by
    unfold sp
    by_cases h1 : k = 1
    · simp only [h1, if_true]; exact adds_one S s
    · by_cases h2 : k = 2
      · simp only [h2]; exact adds_cat s kids
      · by_cases h3 : k = 3
        · simp only [h3]; exact adds_alt s kids
        · simp only [h1, h2, h3, if_false]; exact adds_rep s kids mn mx
theorem adds_cat (s : List UInt8) : ∀ l, Adds (spCat s l)
  | [] => by unfold spCat; exact Adds.id
  | n :: r => by unfold spCat; exact (adds_sp s n).comp (adds_cat s r)
theorem adds_alt (s : List UInt8) : ∀ l, Adds (spAlt s l)
  | [] => by unfold spAlt; exact Adds.zr
  | n :: r => by unfold spAlt; exact Adds.orP (adds_sp s n) (adds_alt s r)
theorem adds_rep (s : List UInt8) : ∀ (kids : List Node) (mn mx : Int), Adds (spRep s kids mn mx)
  | [], _, _ => by unfold spRep; exact Adds.zr
  | n :: _, mn, mx => by unfold spRep; exact ((adds_sp s n).iter _).comp ((adds_sp s n).upto _)
end
/-- nothing from N on -/
def Sup (N : Nat) (x : Pos) : Prop := ∀ j, N ≤ j → x j = false
def Keeps (N : Nat) (f : Pos → Pos) : Prop := ∀ x, Sup N x → Sup N (f x)
theorem sup_none (N : Nat) : Sup N zr := fun _ _ => rfl
theorem Sup.orP {N : Nat} {a b : Pos} (ha : Sup N a) (hb : Sup N b) : Sup N (orP a b) := fun j hj => by simp [Mx.orP, ha j hj, hb j hj]
theorem sup_single {N i : Nat} (h : i < N) : Sup N (single i) := fun j hj => by simp [single]; omega
theorem keeps_one (S : CSet) (s : List UInt8) : Keeps (s.length + 1) (one S s) := fun x _ j hj => by
  cases j with
  | zero => omega
  | succ i => simp only [one]; rw [List.getElem?_eq_none (by omega)]; simp
theorem Keeps.iter {N : Nat} {f : Pos → Pos} (hf : Keeps N f) : ∀ k, Keeps N (iter f k)
  | 0 => fun _ h => h
  | k + 1 => fun x h => Keeps.iter hf k _ (hf x h)
theorem Keeps.upto {N : Nat} {f : Pos → Pos} (hf : Keeps N f) : ∀ k, Keeps N (upto f k)
  | 0 => fun _ h => h
  | k + 1 => fun x h => h.orP (hf _ (Keeps.upto hf k x h))
mutual
theorem keeps_sp (s : List UInt8) : ∀ n, Keeps (s.length + 1) (sp s n)
  | .mk k S kids mn mx => by
    unfold sp
    by_cases h1 : k = 1
    · simp only [h1, if_true]; exact keeps_one S s
    · by_cases h2 : k = 2
      · simp only [h2]; exact keeps_cat s kids
      · by_cases h3 : k = 3
        · simp only [h3]; exact keeps_alt s kids
        · simp only [h1, h2, h3, if_false]; exact keeps_rep s kids mn mx
theorem keeps_cat (s : List UInt8) : ∀ l, Keeps (s.length + 1) (spCat s l)
  | [] => by unfold spCat; exact fun _ h => h
  | n :: r => by unfold spCat; exact fun x h => keeps_cat s r _ (keeps_sp s n x h)
theorem keeps_alt (s : List UInt8) : ∀ l, Keeps (s.length + 1) (spAlt s l)
  | [] => by unfold spAlt; exact fun _ _ => sup_none _
  | n :: r => by unfold spAlt; exact fun x h => (keeps_sp s n x h).orP (keeps_alt s r x h)
theorem keeps_rep (s : List UInt8) : ∀ (kids : List Node) (mn mx : Int), Keeps (s.length + 1) (spRep s kids mn mx)
  | [], _, _ => by unfold spRep; exact fun _ _ => sup_none _
  | n :: _, mn, mx => by unfold spRep; exact fun x h => (keeps_sp s n).upto _ _ ((keeps_sp s n).iter _ _ h)
end
/-- what is in a is in b -/
def Le (a b : Pos) : Prop := ∀ j, a j = true → b j = true
theorem le_or_left (a b : Pos) : Le a (orP a b) := fun j h => by simp [orP, h]
theorem le_or_right (a b : Pos) : Le b (orP a b) := fun j h => by simp [orP, h]
theorem or_of_le {a b : Pos} (h : Le b a) : orP a b = a := by
  funext j
  simp only [orP]
  cases hb : b j
  · simp
  · simp [h j hb]
theorem le_of_or {a b : Pos} (h : orP a b = a) : Le b a := fun j hj => by have := congrFun h j; simp [orP, hj] at this; exact this
theorem Adds.mono {f : Pos → Pos} (hf : Adds f) {a b : Pos} (h : Le a b) : Le (f a) (f b) := by
  have e : b = Mx.orP b a := (or_of_le h).symm
  rw [e, hf.or_]
  exact le_or_right _ _
theorem Le.antisymm {a b : Pos} (h : Le a b) (h' : Le b a) : a = b := by
  funext j
  cases ha : a j
  · cases hb : b j
    · rfl
    · rw [h' j hb] at ha; cases ha
  · rw [h j ha]
theorem iter_succ (f : Pos → Pos) : ∀ k x, iter f (k + 1) x = f (iter f k x)
  | 0, _ => rfl
  | k + 1, x => iter_succ f k (f x)
/-- up to one more: the next step's places besides -/
theorem upto_succ {f : Pos → Pos} (hf : Adds f) : ∀ k x, upto f (k + 1) x = orP (upto f k x) (iter f (k + 1) x)
  | 0, x => rfl
  | k + 1, x => by
    show orP x (f (upto f (k + 1) x)) = orP (orP x (f (upto f k x))) (iter f (k + 2) x)
    rw [upto_succ hf k x, hf.or_, ← or_assoc, ← iter_succ f (k + 1) x]
theorem upto_le {f : Pos → Pos} (hf : Adds f) (k : Nat) (x : Pos) : Le (upto f k x) (upto f (k + 1) x) := by rw [upto_succ hf]; exact le_or_left _ _
/-- once nothing is new, nothing is ever -/
theorem upto_stop {f : Pos → Pos} {k : Nat} {x : Pos} (h : upto f (k + 1) x = upto f k x) : ∀ m, k ≤ m → upto f m x = upto f k x := by
  intro m hm
  induction m with
  | zero => obtain rfl : k = 0 := by omega
            rfl
  | succ m ih =>
    rcases Nat.lt_or_ge k (m + 1) with h1 | h1
    · have h2 := ih (by omega)
      show orP x (f (upto f m x)) = _
      rw [h2]
      exact h
    · obtain rfl : k = m + 1 := by omega
      rfl
def cnt (N : Nat) (x : Pos) : Nat := (List.range N).countP x
theorem cnt_le (N : Nat) (x : Pos) : cnt N x ≤ N := by unfold cnt; have := List.countP_le_length (p := x) (l := List.range N); simpa using this
theorem cnt_lt {N : Nat} {a b : Pos} (h : Le a b) (hb : Sup N b) (hne : a ≠ b) : cnt N a < cnt N b := by
  have hex : ∃ j, a j = false ∧ b j = true := Classical.byContradiction fun hno => hne (h.antisymm fun j hj => by
    cases ha : a j
    · exact absurd ⟨j, ha, hj⟩ hno
    · rfl)
  obtain ⟨j, h1, h2⟩ := hex
  have hj : j < N := Nat.lt_of_not_le fun h3 => by rw [hb j h3] at h2; cases h2
  unfold cnt
  have key : ∀ (l : List Nat), l.countP a ≤ l.countP b ∧ (j ∈ l → l.countP a < l.countP b) := by
    intro l
    induction l with
    | nil => exact ⟨Nat.le_refl _, fun h => by cases h⟩
    | cons i r ih =>
      rw [List.countP_cons, List.countP_cons]
      refine ⟨?_, fun hm => ?_⟩
      · cases hai : a i
        · have := ih.1; simp; omega
        · rw [h i hai]; have := ih.1; simp; omega
      · rcases List.mem_cons.1 hm with rfl | hm
        · rw [h1, h2]; have := ih.1; simp; omega
        · have := ih.2 hm
          cases hai : a i
          · simp; omega
          · rw [h i hai]; simp; omega
  exact (key _).2 (by simpa using hj)
theorem cnt_upto {f : Pos → Pos} {N : Nat} (hf : Adds f) (hk : Keeps N f) {x : Pos} (hx : Sup N x) (hne : x ≠ zr) : ∀ k, upto f (k + 1) x ≠ upto f k x → k + 2 ≤ cnt N (upto f (k + 1) x)
  | 0, h => by
    have h1 : 0 < cnt N x := by have := cnt_lt (a := zr) (b := x) (fun j h => by cases h) hx (Ne.symm hne); omega
    have h2 := cnt_lt (upto_le hf 0 x) (hk.upto 1 x hx) (Ne.symm h)
    have h3 : upto f 0 x = x := rfl
    rw [h3] at h2
    omega
  | k + 1, h => by
    by_cases h0 : upto f (k + 1) x = upto f k x
    · exact absurd ((upto_stop h0 (k + 2) (by omega)).trans (upto_stop h0 (k + 1) (by omega)).symm) h
    · have h1 := cnt_upto hf hk hx hne k h0
      have h2 := cnt_lt (upto_le hf (k + 1) x) (hk.upto (k + 2) x hx) (Ne.symm h)
      omega
/-- as many steps as the text is long are enough -/
theorem upto_full {f : Pos → Pos} {N : Nat} (hf : Adds f) (hk : Keeps (N + 1) f) {x : Pos} (hx : Sup (N + 1) x) : ∀ m, N ≤ m → upto f m x = upto f N x := by
  by_cases hne : x = zr
  · subst hne
    intro m _
    rw [(hf.upto m).none_, (hf.upto N).none_]
  · refine upto_stop (Classical.byContradiction fun h => ?_)
    have h1 := cnt_upto hf hk hx hne N h
    have h2 := cnt_le (N + 1) (upto f (N + 1) x)
    omega
/-- place by place -/
theorem sp_any {f : Pos → Pos} (hf : Adds f) {N : Nat} {x : Pos} (hx : Sup N x) (j : Nat) : f x j = (List.range N).any (fun i => x i && f (single i) j) := by
  have key : ∀ k, f (fun i => decide (i < k) && x i) j = (List.range k).any (fun i => x i && f (single i) j) := by
    intro k
    induction k with
    | zero => rw [show (fun i => decide (i < 0) && x i) = zr by funext i; simp [zr], hf.none_]; rfl
    | succ k ih =>
      rw [List.range_succ, List.any_append, ← ih]
      have e : (fun i => decide (i < k + 1) && x i) = orP (fun i => decide (i < k) && x i) (if x k then single k else zr) := by
        funext i
        simp only [orP]
        by_cases h1 : i = k
        · subst h1; cases hx : x i <;> simp [single, zr]
        · have h2 : decide (i < k + 1) = decide (i < k) := by rw [decide_eq_decide]; omega
          rw [h2]
          cases hx : x k <;> simp [single, zr, h1]
      rw [e, hf.or_]
      simp only [orP, List.any_cons, List.any_nil, Bool.or_false]
      cases x k
      · simp [hf.none_, zr]
      · simp
  rw [← key N]
  congr 1
  funext i
  by_cases h : i < N
  · simp [h]
  · simp [h, hx i (by omega)]
end Mx
end Go.Proofs.YthgcefppeaopkaaDoor
