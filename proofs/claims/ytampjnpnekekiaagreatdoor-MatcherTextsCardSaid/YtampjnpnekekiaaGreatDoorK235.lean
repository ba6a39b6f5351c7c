/- Names, plainly. -/
import Derived.WalkKit
import Derived.Test.YtampjnpnekekiaaGreatDoorK233
import Derived.Test.YtampjnpnekekiaaGreatDoorK234
import Derived.Test.YtampjnpnekekiaaGreatDoorK219
import Derived.Sort.Walk0
namespace Go.Proofs.YtampjnpnekekiaaGreatDoor
open Go Go.RowKit
set_option linter.unusedVariables false
set_option linter.unusedSimpArgs false
set_option maxRecDepth 10000
open Sh Gn
namespace Pl
theorem letter_p (c : Int) : name_letter_g c = some (Nm.letterB c) := by
  unfold name_letter_g Nm.letterB
  simp only [cm_eql, cm_leq, cond_dec, bind_self]
  by_cases h1 : c = 95
  · subst h1; rfl
  · by_cases h2 : 97 ≤ c <;> by_cases h3 : c ≤ 122 <;> by_cases h4 : 65 ≤ c <;> by_cases h5 : c ≤ 90 <;> simp [h1, h2, h3, h4, h5]
theorem digit_p (c : Int) : name_digit_g c = some (Nm.digitB c) := by
  unfold name_digit_g Nm.digitB
  simp only [cm_eql, cm_leq, cond_dec, bind_self]
  by_cases h2 : 48 ≤ c <;> by_cases h3 : c ≤ 57 <;> simp [h2, h3]
theorem rsign_p (c : Int) (f : Bool) : r09_sign_g c f = some (Nm.signB c f) := by
  unfold r09_sign_g Nm.signB Nm.letterB Nm.digitB
  simp only [cm_eql, cm_leq, cm_geq, cond_dec, cond_not, bind_self]
  by_cases h1 : c = 95
  · subst h1; rfl
  · by_cases h2 : 97 ≤ c <;> by_cases h3 : c ≤ 122 <;> by_cases h4 : 65 ≤ c <;> by_cases h5 : c ≤ 90 <;> by_cases h6 : 48 ≤ c <;> by_cases h7 : c ≤ 57 <;> cases f <;> simp [h1, h2, h3, h4, h5, h6, h7]
def runAt (s : ByteArray) (f : Bool) (k : Nat) : Nat := Nm.run Nm.signB f (s.data.toList.drop k)
section
variable {s : ByteArray}
theorem runAt_end {k : Nat} {f : Bool} (h : ¬ k < s.size) : runAt s f k = 0 := by
  unfold runAt; rw [List.drop_of_length_le (by rw [size_list]; omega)]; rfl
theorem runAt_in {k : Nat} {f : Bool} (h : k < s.size) : runAt s f k = if Nm.signB (s[k].toNat) f then runAt s false (k + 1) + 1 else 0 := by
  unfold runAt
  rw [List.drop_eq_getElem_cons (by rw [size_list]; exact h)]
  rfl
theorem dec_p (k : Nat) (h : k < s.size) (f : Bool) : Nm.signB (s[k].toNat) f = Nm.signB (Utf8.decode s k).1 f ∧ (Nm.signB (Utf8.decode s k).1 f = true → (Utf8.decode s k).2 = 1) := by
  by_cases ha : (s[k]'h).toNat < 128
  · rw [decode_ascii s k h ha]; exact ⟨rfl, fun _ => rfl⟩
  · have hd := decode_high s k h (by omega)
    have e1 : Nm.signB (Utf8.decode s k).1 f = false := by
      cases e : Nm.signB (Utf8.decode s k).1 f with
      | false => rfl
      | true => have := Nm.signB_lt e; omega
    have e2 : Nm.signB (s[k].toNat) f = false := by
      cases e : Nm.signB (s[k].toNat) f with
      | false => rfl
      | true => have := Nm.signB_lt e; omega
    exact ⟨by rw [e1, e2], fun e => by rw [e1] at e; cases e⟩
theorem ask_p (c : Int) (k : Nat) : ((name_letter_g c).bind fun a4 => cond (!a4) (cond (cm .eql (k : Int) 0) (some true) ((name_digit_g c).bind fun a5 => some !a5)) (some false)) = some (!Nm.signB c (k == 0)) := by
  rw [letter_p, digit_p]
  simp only [Option.bind_some, cond_not, cm_eql, cond_dec]
  unfold Nm.signB
  cases k with
  | zero => cases Nm.letterB c <;> rfl
  | succ k =>
    have : ¬ ((k + 1 : Nat) : Int) = 0 := by omega
    simp only [this, if_false]
    have e : (k + 1 == 0) = false := rfl
    rw [e]
    cases Nm.letterB c <;> rfl
theorem label_from : ∀ (m k : Nat), k ≤ s.size → s.size < k + m → name_Label_l1 s m k = some (decide (runAt s (k == 0) k = s.size - k)) := by
  intro m
  induction m with
  | zero => intro k h1 h2; omega
  | succ m ih =>
    intro k h1 h2
    unfold name_Label_l1 nx
    rw [Int.toNat_natCast]
    by_cases c : k < s.size
    · rw [if_pos c]; dsimp only; rw [ask_p, runAt_in c]
      obtain ⟨e1, e2⟩ := dec_p (s := s) k c (k == 0)
      rw [e1]
      cases g : Nm.signB (Utf8.decode s k).1 (k == 0) with
      | false =>
        simp only [Option.bind_some, Bool.not_false, _root_.cond_true, Bool.false_eq_true, if_false]
        have : ¬ 0 = s.size - k := by omega
        rw [decide_eq_false this]
      | true =>
        have h3 : (k : Int) + ((Utf8.decode s k).2 : Int) = ((k + 1 : Nat) : Int) := by rw [e2 g]; rfl
        simp only [Option.bind_some, Bool.not_true, cond_false, if_true]
        rw [h3, ih (k + 1) (by omega) (by omega)]
        have e : (k + 1 == 0) = false := rfl
        rw [e]
        congr 1
        exact decide_eq_decide.2 (by omega)
    · rw [if_neg c, runAt_end c, decide_eq_true (by omega)]
theorem cut_from {p0 : ByteArray} {p1 : Int} {r : Nat} (hs : ss p0 p1 (sl p0) = s) (hr : runAt s true 0 = r) : ∀ (m k : Nat), k ≤ s.size → s.size < k + m → k + runAt s (k == 0) k = r →
    name_Cut_l1 p0 p1 m k = some (if r = s.size then (s, sl p0) else (ss s 0 (r : Int), ar .add .i64 p1 (r : Int))) := by
  intro m
  induction m with
  | zero => intro k h1 h2; omega
  | succ m ih =>
    intro k h1 h2 h3
    unfold name_Cut_l1 nx
    rw [hs, Int.toNat_natCast]
    by_cases c : k < s.size
    · rw [if_pos c]; dsimp only; rw [ask_p]
      rw [runAt_in c] at h3
      obtain ⟨e1, e2⟩ := dec_p (s := s) k c (k == 0)
      rw [e1] at h3
      cases g : Nm.signB (Utf8.decode s k).1 (k == 0) with
      | false =>
        rw [g] at h3
        have h3 : k = r := by simpa using h3
        have hin : ssinB s 0 (k : Int) = true := by simp [ssinB]; omega
        simp only [Option.bind_some, Bool.not_false, _root_.cond_true, hin]
        rw [h3, if_neg (by omega)]
      | true =>
        rw [g] at h3
        have h4 : (k : Int) + ((Utf8.decode s k).2 : Int) = ((k + 1 : Nat) : Int) := by rw [e2 g]; rfl
        simp only [Option.bind_some, Bool.not_true, cond_false]
        rw [h4]
        have e : (k + 1 == 0) = false := rfl
        exact ih (k + 1) (by omega) (by omega) (by rw [e]; simp only [if_true] at h3; omega)
    · rw [if_neg c]
      rw [runAt_end c] at h3
      rw [if_pos (by omega)]
theorem rlabel_from (hs : s.size ≤ 100000) : ∀ (m k : Nat), k ≤ s.size → s.size < k + m → r09_Label_l1 s m k = some (decide (runAt s (k == 0) k = s.size - k)) := by
  intro m
  induction m with
  | zero => intro k h1 h2; omega
  | succ m ih =>
    intro k h1 h2
    unfold r09_Label_l1
    rw [cm_lss, sl_eq, cond_dec]
    by_cases c : k < s.size
    · have e0 : (cm .eql (k : Int) 0) = (k == 0) := by rw [cm_eql]; cases k <;> simp; omega
      have e1 := inc1 (show k ≤ 100000000 by omega)
      have ea : sa s (k : Int) = (s[k].toNat : Int) := by
        show ((s.data.getD _ 0).toNat : Int) = _
        rw [Int.toNat_natCast, Array.getD_eq_getD_getElem?, Array.getElem?_eq_getElem c]; rfl
      rw [if_pos (by omega), sin_in c, _root_.cond_true, rsign_p, e0, e1, ea, runAt_in c]
      cases g : Nm.signB (s[k].toNat) (k == 0) with
      | false =>
        simp only [Option.bind_some, Bool.not_false, _root_.cond_true, Bool.false_eq_true, if_false]
        have : ¬ 0 = s.size - k := by omega
        rw [decide_eq_false this]
      | true =>
        simp only [Option.bind_some, Bool.not_true, cond_false, if_true]
        rw [ih (k + 1) (by omega) (by omega)]
        have e : (k + 1 == 0) = false := rfl
        rw [e]
        congr 1
        exact decide_eq_decide.2 (by omega)
    · rw [if_neg (by omega), runAt_end c, decide_eq_true (by omega)]
def lab (s : ByteArray) : Bool := decide (1 ≤ s.size ∧ s.size ≤ 32 ∧ runAt s true 0 = s.size)
theorem label_p {N : Nat} (hN : 1000 ≤ N) : name_Label_g N s = some (lab s) := by
  unfold name_Label_g lab
  rw [sc_eql, cm_gtr, cond_dec, sl_eq]
  by_cases c : 1 ≤ s.size
  · have c' : ¬ s = ByteArray.empty := fun e => by subst e; exact absurd c (by decide)
    rw [if_neg c']
    by_cases c2 : s.size ≤ 32
    · have : ¬ (32 : Int) < (s.size : Int) := by omega
      rw [decide_eq_false this]
      simp only [Option.bind_some, cond_false]
      rw [show (0 : Int) = ((0 : Nat) : Int) from rfl, label_from N 0 (by omega) (by omega)]
      simp [c, c2]
    · have : (32 : Int) < (s.size : Int) := by omega
      rw [decide_eq_true this]
      simp [c2]
  · have c' : s = ByteArray.empty := by
      apply ByteArray.ext
      apply Array.eq_empty_of_size_eq_zero
      show s.size = 0
      omega
    rw [if_pos c']
    simp [c]
theorem rlabel_p {N : Nat} (hN : 1000 ≤ N) : r09_Label_g N s = some (lab s) := by
  unfold r09_Label_g lab
  rw [cm_gtr, cm_lss, cond_dec, sl_eq]
  by_cases c : 1 ≤ s.size
  · rw [if_neg (by omega)]
    by_cases c2 : s.size ≤ 32
    · have : ¬ (32 : Int) < (s.size : Int) := by omega
      rw [decide_eq_false this]
      simp only [Option.bind_some, cond_false]
      rw [show (0 : Int) = ((0 : Nat) : Int) from rfl, rlabel_from (by omega) N 0 (by omega) (by omega)]
      simp [c, c2]
    · have : (32 : Int) < (s.size : Int) := by omega
      rw [decide_eq_true this]
      simp [c2]
  · rw [if_pos (by omega)]
    simp [c]
end
end Pl
end Go.Proofs.YtampjnpnekekiaaGreatDoor
namespace Go.Proofs.YtampjnpnekekiaaGreatDoor
open Go
namespace Mx
abbrev Pos := Nat → Bool
def zr : Pos := fun _ => false
def orP (a b : Pos) : Pos := fun j => a j || b j
def single (i : Nat) : Pos := fun j => j == i
def one (S : CSet) (s : List UInt8) (x : Pos) : Pos := fun j => match j with
  | 0 => false
  | i + 1 => x i && (match s[i]? with | some c => S.has c.toNat | _ => false)
def iter (f : Pos → Pos) : Nat → Pos → Pos
  | 0, x => x
  | k + 1, x => iter f k (f x)
def upto (f : Pos → Pos) : Nat → Pos → Pos
  | 0, x => x
  | k + 1, x => orP x (f (upto f k x))
def more (long : Nat) (mn mx : Int) : Nat := if mx = -1 then long else (mx - mn).toNat
mutual
def sp (s : List UInt8) : Node → Pos → Pos
  | .mk k S kids mn mx => fun x => if k = 1 then one S s x else if k = 2 then spCat s kids x else if k = 3 then spAlt s kids x else spRep s kids mn mx x
def spCat (s : List UInt8) : List Node → Pos → Pos
  | [] => fun x => x
  | n :: r => fun x => spCat s r (sp s n x)
def spAlt (s : List UInt8) : List Node → Pos → Pos
  | [] => fun _ => zr
  | n :: r => fun x => orP (sp s n x) (spAlt s r x)
def spRep (s : List UInt8) (kids : List Node) (mn mx : Int) : Pos → Pos := match kids with
  | [] => fun _ => zr
  | n :: _ => fun x => upto (sp s n) (more s.length mn mx) (iter (sp s n) mn.toNat x)
end
structure Adds (f : Pos → Pos) : Prop where
  or_ : ∀ a b, f (orP a b) = orP (f a) (f b)
  none_ : f zr = zr
theorem or_none (a : Pos) : orP a zr = a := by funext j; simp [orP, zr]
theorem none_or (a : Pos) : orP zr a = a := by funext j; simp [orP, zr]
theorem or_self (a : Pos) : orP a a = a := by funext j; simp [orP]
theorem or_assoc (a b c : Pos) : orP (orP a b) c = orP a (orP b c) := by funext j; simp [orP, Bool.or_assoc]
theorem or_four (a b c d : Pos) : orP (orP a b) (orP c d) = orP (orP a c) (orP b d) := by
  funext j; simp only [orP]; cases a j <;> cases b j <;> cases c j <;> cases d j <;> rfl
theorem adds_one (S : CSet) (s : List UInt8) : Adds (one S s) where
  or_ a b := by
    funext j
    cases j with
    | zero => rfl
    | succ i => simp only [one, orP]; cases a i <;> cases b i <;> simp
  none_ := by funext j; cases j <;> simp [one, zr]
theorem Adds.comp {f g : Pos → Pos} (hf : Adds f) (hg : Adds g) : Adds (fun x => g (f x)) := ⟨fun a b => by rw [hf.or_, hg.or_], by rw [hf.none_, hg.none_]⟩
theorem Adds.id : Adds (fun x => x) := ⟨fun _ _ => rfl, rfl⟩
theorem Adds.zr : Adds (fun _ => zr) := ⟨fun _ _ => (or_self _).symm, rfl⟩
theorem Adds.orP {f g : Pos → Pos} (hf : Adds f) (hg : Adds g) : Adds (fun x => orP (f x) (g x)) := ⟨fun a b => by rw [hf.or_, hg.or_, or_four], by rw [hf.none_, hg.none_, or_self]⟩
theorem Adds.iter {f : Pos → Pos} (hf : Adds f) : ∀ k, Adds (iter f k)
  | 0 => Adds.id
  | k + 1 => hf.comp (Adds.iter hf k)
theorem Adds.upto {f : Pos → Pos} (hf : Adds f) : ∀ k, Adds (upto f k)
  | 0 => Adds.id
  | k + 1 => Adds.orP Adds.id ((Adds.upto hf k).comp hf)
mutual
theorem adds_sp (s : List UInt8) : ∀ n, Adds (sp s n)
  | .mk k S kids mn mx => by
    unfold sp
    by_cases h1 : k = 1
    · simp only [h1, if_true]; exact adds_one S s
    · by_cases h2 : k = 2
      · simp only [h2]; exact adds_cat s kids
      · by_cases h3 : k = 3
        · simp only [h3]; exact adds_alt s kids
        · simp only [h1, h2, h3, if_false]; exact adds_rep s kids mn mx
theorem adds_cat (s : List UInt8) : ∀ l, Adds (spCat s l)
  | [] => by unfold spCat; exact Adds.id
  | n :: r => by unfold spCat; exact (adds_sp s n).comp (adds_cat s r)
theorem adds_alt (s : List UInt8) : ∀ l, Adds (spAlt s l)
  | [] => by unfold spAlt; exact Adds.zr
  | n :: r => by unfold spAlt; exact Adds.orP (adds_sp s n) (adds_alt s r)
theorem adds_rep (s : List UInt8) : ∀ (kids : List Node) (mn mx : Int), Adds (spRep s kids mn mx)
  | [], _, _ => by unfold spRep; exact Adds.zr
  | n :: _, mn, mx => by unfold spRep; exact ((adds_sp s n).iter _).comp ((adds_sp s n).upto _)
end
def Sup (N : Nat) (x : Pos) : Prop := ∀ j, N ≤ j → x j = false
def Keeps (N : Nat) (f : Pos → Pos) : Prop := ∀ x, Sup N x → Sup N (f x)
theorem sup_none (N : Nat) : Sup N zr := fun _ _ => rfl
theorem Sup.orP {N : Nat} {a b : Pos} (ha : Sup N a) (hb : Sup N b) : Sup N (orP a b) := fun j hj => by simp [Mx.orP, ha j hj, hb j hj]
theorem sup_single {N i : Nat} (h : i < N) : Sup N (single i) := fun j hj => by simp [single]; omega
theorem keeps_one (S : CSet) (s : List UInt8) : Keeps (s.length + 1) (one S s) := fun x _ j hj => by
  cases j with
  | zero => omega
  | succ i => simp only [one]; rw [List.getElem?_eq_none (by omega)]; simp
theorem Keeps.iter {N : Nat} {f : Pos → Pos} (hf : Keeps N f) : ∀ k, Keeps N (iter f k)
  | 0 => fun _ h => h
  | k + 1 => fun x h => Keeps.iter hf k _ (hf x h)
theorem Keeps.upto {N : Nat} {f : Pos → Pos} (hf : Keeps N f) : ∀ k, Keeps N (upto f k)
  | 0 => fun _ h => h
  | k + 1 => fun x h => h.orP (hf _ (Keeps.upto hf k x h))
mutual
theorem keeps_sp (s : List UInt8) : ∀ n, Keeps (s.length + 1) (sp s n)
  | .mk k S kids mn mx => by
    unfold sp
    by_cases h1 : k = 1
    · simp only [h1, if_true]; exact keeps_one S s
    · by_cases h2 : k = 2
      · simp only [h2]; exact keeps_cat s kids
      · by_cases h3 : k = 3
        · simp only [h3]; exact keeps_alt s kids
        · simp only [h1, h2, h3, if_false]; exact keeps_rep s kids mn mx
theorem keeps_cat (s : List UInt8) : ∀ l, Keeps (s.length + 1) (spCat s l)
  | [] => by unfold spCat; exact fun _ h => h
  | n :: r => by unfold spCat; exact fun x h => keeps_cat s r _ (keeps_sp s n x h)
theorem keeps_alt (s : List UInt8) : ∀ l, Keeps (s.length + 1) (spAlt s l)
  | [] => by unfold spAlt; exact fun _ _ => sup_none _
  | n :: r => by unfold spAlt; exact fun x h => (keeps_sp s n x h).orP (keeps_alt s r x h)
theorem keeps_rep (s : List UInt8) : ∀ (kids : List Node) (mn mx : Int), Keeps (s.length + 1) (spRep s kids mn mx)
  | [], _, _ => by unfold spRep; exact fun _ _ => sup_none _
  | n :: _, mn, mx => by unfold spRep; exact fun x h => (keeps_sp s n).upto _ _ ((keeps_sp s n).iter _ _ h)
end
def Le (a b : Pos) : Prop := ∀ j, a j = true → b j = true
theorem le_or_left (a b : Pos) : Le a (orP a b) := fun j h => by simp [orP, h]
theorem le_or_right (a b : Pos) : Le b (orP a b) := fun j h => by simp [orP, h]
theorem or_of_le {a b : Pos} (h : Le b a) : orP a b = a := by
  funext j
  simp only [orP]
  cases hb : b j
  · simp
  · simp [h j hb]
theorem Adds.mono {f : Pos → Pos} (hf : Adds f) {a b : Pos} (h : Le a b) : Le (f a) (f b) := by
  have e : b = Mx.orP b a := (or_of_le h).symm
  rw [e, hf.or_]
  exact le_or_right _ _
theorem Le.antisymm {a b : Pos} (h : Le a b) (h' : Le b a) : a = b := by
  funext j
  cases ha : a j
  · cases hb : b j
    · rfl
    · rw [h' j hb] at ha; cases ha
  · rw [h j ha]
theorem iter_succ (f : Pos → Pos) : ∀ k x, iter f (k + 1) x = f (iter f k x)
  | 0, _ => rfl
  | k + 1, x => iter_succ f k (f x)
theorem upto_succ {f : Pos → Pos} (hf : Adds f) : ∀ k x, upto f (k + 1) x = orP (upto f k x) (iter f (k + 1) x)
  | 0, x => rfl
  | k + 1, x => by
    show orP x (f (upto f (k + 1) x)) = orP (orP x (f (upto f k x))) (iter f (k + 2) x)
    rw [upto_succ hf k x, hf.or_, ← or_assoc, ← iter_succ f (k + 1) x]
theorem upto_le {f : Pos → Pos} (hf : Adds f) (k : Nat) (x : Pos) : Le (upto f k x) (upto f (k + 1) x) := by rw [upto_succ hf]; exact le_or_left _ _
theorem upto_stop {f : Pos → Pos} {k : Nat} {x : Pos} (h : upto f (k + 1) x = upto f k x) : ∀ m, k ≤ m → upto f m x = upto f k x := by
  intro m hm
  induction m with
  | zero => obtain rfl : k = 0 := by omega
            rfl
  | succ m ih =>
    rcases Nat.lt_or_ge k (m + 1) with h1 | h1
    · have h2 := ih (by omega)
      show orP x (f (upto f m x)) = _
      rw [h2]
      exact h
    · obtain rfl : k = m + 1 := by omega
      rfl
def cnt (N : Nat) (x : Pos) : Nat := (List.range N).countP x
theorem cnt_le (N : Nat) (x : Pos) : cnt N x ≤ N := by unfold cnt; have := List.countP_le_length (p := x) (l := List.range N); simpa using this
theorem cnt_lt {N : Nat} {a b : Pos} (h : Le a b) (hb : Sup N b) (hne : a ≠ b) : cnt N a < cnt N b := by
  have hex : ∃ j, a j = false ∧ b j = true := Classical.byContradiction fun hno => hne (h.antisymm fun j hj => by
    cases ha : a j
    · exact absurd ⟨j, ha, hj⟩ hno
    · rfl)
  obtain ⟨j, h1, h2⟩ := hex
  have hj : j < N := Nat.lt_of_not_le fun h3 => by rw [hb j h3] at h2; cases h2
  unfold cnt
  have key : ∀ (l : List Nat), l.countP a ≤ l.countP b ∧ (j ∈ l → l.countP a < l.countP b) := by
    intro l
    induction l with
    | nil => exact ⟨Nat.le_refl _, fun h => by cases h⟩
    | cons i r ih =>
      rw [List.countP_cons, List.countP_cons]
      refine ⟨?_, fun hm => ?_⟩
      · cases hai : a i
        · have := ih.1; simp; omega
        · rw [h i hai]; have := ih.1; simp; omega
      · rcases List.mem_cons.1 hm with rfl | hm
        · rw [h1, h2]; have := ih.1; simp; omega
        · have := ih.2 hm
          cases hai : a i
          · simp; omega
          · rw [h i hai]; simp; omega
  exact (key _).2 (by simpa using hj)
theorem cnt_upto {f : Pos → Pos} {N : Nat} (hf : Adds f) (hk : Keeps N f) {x : Pos} (hx : Sup N x) (hne : x ≠ zr) : ∀ k, upto f (k + 1) x ≠ upto f k x → k + 2 ≤ cnt N (upto f (k + 1) x)
  | 0, h => by
    have h1 : 0 < cnt N x := by have := cnt_lt (a := zr) (b := x) (fun j h => by cases h) hx (Ne.symm hne); omega
    have h2 := cnt_lt (upto_le hf 0 x) (hk.upto 1 x hx) (Ne.symm h)
    have h3 : upto f 0 x = x := rfl
    rw [h3] at h2
    omega
  | k + 1, h => by
    by_cases h0 : upto f (k + 1) x = upto f k x
    · exact absurd ((upto_stop h0 (k + 2) (by omega)).trans (upto_stop h0 (k + 1) (by omega)).symm) h
    · have h1 := cnt_upto hf hk hx hne k h0
      have h2 := cnt_lt (upto_le hf (k + 1) x) (hk.upto (k + 2) x hx) (Ne.symm h)
      omega
theorem sp_any {f : Pos → Pos} (hf : Adds f) {N : Nat} {x : Pos} (hx : Sup N x) (j : Nat) : f x j = (List.range N).any (fun i => x i && f (single i) j) := by
  have key : ∀ k, f (fun i => decide (i < k) && x i) j = (List.range k).any (fun i => x i && f (single i) j) := by
    intro k
    induction k with
    | zero => rw [show (fun i => decide (i < 0) && x i) = zr by funext i; simp [zr], hf.none_]; rfl
    | succ k ih =>
      rw [List.range_succ, List.any_append, ← ih]
      have e : (fun i => decide (i < k + 1) && x i) = orP (fun i => decide (i < k) && x i) (if x k then single k else zr) := by
        funext i
        simp only [orP]
        by_cases h1 : i = k
        · subst h1; cases hx : x i <;> simp [single, zr]
        · have h2 : decide (i < k + 1) = decide (i < k) := by rw [decide_eq_decide]; omega
          rw [h2]
          cases hx : x k <;> simp [single, zr, h1]
      rw [e, hf.or_]
      simp only [orP, List.any_cons, List.any_nil, Bool.or_false]
      cases x k
      · simp [hf.none_, zr]
      · simp
  rw [← key N]
  congr 1
  funext i
  by_cases h : i < N
  · simp [h]
  · simp [h, hx i (by omega)]
end Mx
end Go.Proofs.YtampjnpnekekiaaGreatDoor
namespace Go.Proofs.YtampjnpnekekiaaGreatDoor
open Go
namespace Rx
structure Emb (l m : List UInt8) (k : Nat) (c : Int) : Prop where
  at_ : ∀ i, i < l.length → pk m (i + k) = pk l i
  end_ : pk m (l.length + k) = c
  len : l.length + k ≤ m.length
  term : c = -1 ∨ c = 41 ∨ c = 124
section
variable {l m : List UInt8} {k : Nat} {c : Int}
theorem Emb.get (E : Emb l m k c) {i : Nat} (h : pk l i ≠ -1) : pk m (i + k) = pk l i := E.at_ i (pk_in h)
theorem pk_out {i : Nat} (h : l.length ≤ i) : pk l i = -1 := by unfold pk; rw [List.getElem?_eq_none h]
theorem Emb.test (E : Emb l m k c) {i : Nat} (hi : i ≤ l.length) {b : Int} (h1 : b ≠ -1) (h2 : b ≠ 41) (h3 : b ≠ 124) : pk m (i + k) = b ↔ pk l i = b := by
  rcases Nat.lt_or_ge i l.length with h | h
  · rw [E.at_ i h]
  · obtain rfl : i = l.length := by omega
    rw [E.end_, pk_out (Nat.le_refl _)]
    have := E.term
    constructor <;> intro e <;> omega
def Sh {α : Type} (k : Nat) (r r' : Res α) : Prop := ∀ a p, r = .ok a p → r' = .ok a (p + k)
def Sim {α : Type} (k : Nat) (L : Prop) (r r' : Res α) : Prop := ∀ a p, r = .ok a p → r' = .ok a (p + k) ∨ (L ∧ ∃ q, r' = .bad 3 q)
variable {at1 at2 : Nat → Res Node} {L : Prop}
variable (hf : ∀ i, i ≤ l.length → Fine l i (at1 i)) (ha : ∀ i, i ≤ l.length → Sim k L (at1 i) (at2 (i + k)))
include hf ha
end
end Rx
namespace Rx
def Bads {α : Type} (l : List UInt8) (r : Res α) : Prop := ∀ e p, r = .bad e p → (e = 1 ∨ e = 2 ∨ e = 3) ∧ p ≤ l.length
variable {l : List UInt8}
theorem cats_end {at1 : Nat → Res Node} : ∀ (f : Nat) (ns : List Node) (i : Nat) {ms : List Node} {p : Nat}, cats l at1 f ns i = .ok ms p → pk l p ≠ 124
  | 0, ns, i, ms, p, h => by cases h
  | f + 1, ns, i, ms, p, h => by
    unfold cats at h
    by_cases h1 : pk l i = 124
    · rw [if_pos h1] at h
      cases hr : cat l at1 (i + 1) with
      | bad e q => rw [hr] at h; cases h
      | out => rw [hr] at h; cases h
      | ok n q => rw [hr] at h; exact cats_end f _ q h
    · rw [if_neg h1] at h; cases h; exact h1
end Rx
end Go.Proofs.YtampjnpnekekiaaGreatDoor
namespace Go.Proofs.YtampjnpnekekiaaGreatDoor
set_option linter.unusedSimpArgs false
open Go
namespace Rx
def timesB (lo hi : Int) : Bool := if lo < 0 || lo > 16 || hi > 16 || hi < -1 || hi == 0 then false else hi == -1 || hi ≥ lo
def topB (kind : Int) (S : CSet) (many : Nat) (mn mx : Int) : Bool :=
  (kind == 1 || kind == 2 || kind == 3 || kind == 4) && (kind == 1 || decide (S = CSet.empty)) && (kind == 4 || mn == 0 && mx == 0) &&
  (if kind == 1 then many == 0 else if kind == 2 then many != 1 else if kind == 3 then decide (many > 1) else many == 1 && timesB mn mx)
mutual
def right : Node → Bool
  | .mk kind S kids mn mx => topB kind S kids.length mn mx && rights kind kids
def rights (kind : Int) : List Node → Bool
  | [] => true
  | n :: r => (right n && !(n.kind == kind && kind != 4)) && rights kind r
end
theorem right_eq (n : Node) : right n = (topB n.kind n.set n.kids.length n.min n.max && rights n.kind n.kids) := by cases n; rw [right] <;> rfl
theorem rights_iff (kind : Int) (ns : List Node) : rights kind ns = true ↔ ∀ n ∈ ns, right n = true ∧ ¬ (n.kind = kind ∧ kind ≠ 4) := by
  induction ns with
  | nil => simp [rights]
  | cons a r ih => rw [rights, Bool.and_eq_true, ih]; simp; intro _; omega
variable {l : List UInt8}
end Rx
end Go.Proofs.YtampjnpnekekiaaGreatDoor
namespace Go.Proofs.YtampjnpnekekiaaGreatDoor
open Go
namespace Mt
def ofL (l : List UInt8) : ByteArray := ⟨l.toArray⟩
theorem ofL_list (l : List UInt8) : (ofL l).data.toList = l := by simp [ofL]
theorem ofL_self (s : ByteArray) : ofL s.data.toList = s := by cases s; simp [ofL]
structure M where
  name : ByteArray
  op : Int
  val : ByteArray
def hits (n : Node) (l : List UInt8) : Bool := Rx.right n && Mx.sp l n (Mx.single 0) l.length
def right (m : M) : Int :=
  if Nm.labelB m.name.data.toList = false then 4 else if m.op < 1 ∨ 4 < m.op then 7 else if m.op ≤ 2 then (if 1024 < m.val.size then 3 else 0) else (Rx.parse m.val.data.toList).2.1
def test (m : M) (v : ByteArray) : Bool :=
  if right m ≠ 0 then false else if m.op = 1 then decide (v.data.toList = m.val.data.toList) else if m.op = 2 then !decide (v.data.toList = m.val.data.toList)
  else if m.op = 3 then hits (Rx.parse m.val.data.toList).1 v.data.toList else !hits (Rx.parse m.val.data.toList).1 v.data.toList
structure L where
  name : ByteArray
  val : ByteArray
def get : List L → ByteArray → ByteArray
  | [], _ => ⟨#[]⟩
  | x :: r, n => if x.name.data.toList = n.data.toList then x.val else get r n
def holds (m : M) (l : List L) : Bool := test m (get l m.name)
def cmpL (a b : List UInt8) : Int := if Op.bytesLess a b = true then -1 else if a = b then 0 else 1
def cmpI (a b : Int) : Int := if a < b then -1 else if a = b then 0 else 1
def cmp (a b : M) : Int := if cmpL a.name.data.toList b.name.data.toList ≠ 0 then cmpL a.name.data.toList b.name.data.toList else if cmpI a.op b.op ≠ 0 then cmpI a.op b.op else cmpL a.val.data.toList b.val.data.toList
def sgn (o : Int) : List UInt8 := if o = 1 then [61] else if o = 2 then [33, 61] else if o = 3 then [61, 126] else if o = 4 then [33, 126] else [63]
def text (m : M) : List UInt8 := m.name.data.toList ++ sgn m.op ++ Qu.text m.val.data.toList
def opAt (l : List UInt8) (k : Nat) : Nat :=
  if Qu.bt l k = 61 then (if Qu.bt l (k + 1) = 126 then 3 else 1) else if Qu.bt l k = 33 then (if Qu.bt l (k + 1) = 61 then 2 else if Qu.bt l (k + 1) = 126 then 4 else 0) else 0
def opBad (l : List UInt8) (k : Nat) : Nat × Nat := if k = l.length then (1, k) else if Qu.bt l k = 33 ∧ k + 1 = l.length then (1, k + 1) else (2, k)
inductive Got where
  | ok (m : M) (p : Nat)
  | bad (e : Int) (p : Nat)
def take (l : List UInt8) (at_ : Int) : Got :=
  if at_ < 0 ∨ (l.length : Int) < at_ then .bad 7 0
  else if at_ = l.length then .bad 1 at_.toNat
  else if Nm.run Nm.signB true (l.drop at_.toNat) < 1 ∨ 32 < Nm.run Nm.signB true (l.drop at_.toNat) then .bad 4 at_.toNat
  else if opAt l (at_.toNat + Nm.run Nm.signB true (l.drop at_.toNat)) = 0 then .bad (opBad l (at_.toNat + Nm.run Nm.signB true (l.drop at_.toNat))).1 (opBad l (at_.toNat + Nm.run Nm.signB true (l.drop at_.toNat))).2
  else match Qu.read l (at_.toNat + Nm.run Nm.signB true (l.drop at_.toNat) + (sgn (opAt l (at_.toNat + Nm.run Nm.signB true (l.drop at_.toNat)))).length : Nat) with
    | .bad e p => .bad e p
    | .ok v p =>
      if right ⟨ofL ((l.drop at_.toNat).take (Nm.run Nm.signB true (l.drop at_.toNat))), opAt l (at_.toNat + Nm.run Nm.signB true (l.drop at_.toNat)), ofL v⟩ ≠ 0
      then .bad (right ⟨ofL ((l.drop at_.toNat).take (Nm.run Nm.signB true (l.drop at_.toNat))), opAt l (at_.toNat + Nm.run Nm.signB true (l.drop at_.toNat)), ofL v⟩) (at_.toNat + Nm.run Nm.signB true (l.drop at_.toNat) + (sgn (opAt l (at_.toNat + Nm.run Nm.signB true (l.drop at_.toNat)))).length)
      else .ok ⟨ofL ((l.drop at_.toNat).take (Nm.run Nm.signB true (l.drop at_.toNat))), opAt l (at_.toNat + Nm.run Nm.signB true (l.drop at_.toNat)), ofL v⟩ p
theorem right_ok {m : M} (h : right m = 0) : Nm.labelB m.name.data.toList = true ∧ 1 ≤ m.op ∧ m.op ≤ 4 := by
  unfold right at h
  by_cases c : Nm.labelB m.name.data.toList = false
  · rw [if_pos c] at h; omega
  · rw [if_neg c] at h
    by_cases d : m.op < 1 ∨ 4 < m.op
    · rw [if_pos d] at h; omega
    · exact ⟨by simpa using c, by omega, by omega⟩
end Mt
end Go.Proofs.YtampjnpnekekiaaGreatDoor
namespace Go.Proofs.YtampjnpnekekiaaGreatDoor
open Go
set_option linter.unusedVariables false
set_option linter.unusedSimpArgs false
set_option maxRecDepth 10000
open Sh Gn
namespace Pl
def toM (g : GMatcher) : Mt.M := ⟨g.Name, g.Op, g.Value⟩
theorem lab_eq {s : ByteArray} : lab s = Nm.labelB s.data.toList := by
  unfold lab Nm.labelB Nm.allB runAt
  rw [size_list, List.drop_zero, Bool.eq_iff_iff]
  simp [and_assoc]
theorem mright_p {N : Nat} (hN : 1000 ≤ N) (g : GMatcher) : matcher_Right_g N g = some (Mt.right (toM g)) := by
  unfold matcher_Right_g Mt.right toM
  rw [label_p hN, lab_eq]
  simp only [Option.bind_some, cond_not, cm_lss, cm_gtr, cm_eql, cm_neq, cond_dec, ite_or, sl_eq]
  cases Nm.labelB g.Name.data.toList with
  | false => rfl
  | true =>
    simp only [_root_.cond_true, Bool.true_eq_false, if_false]
    by_cases c1 : g.Op < 1 ∨ 4 < g.Op
    · simp only [c1, if_true]
    · simp only [c1, if_false]
      by_cases c2 : g.Op ≤ 2
      · have c2' : g.Op = 1 ∨ g.Op = 2 := by omega
        simp only [c2, c2', if_true]
        by_cases c3 : 1024 < g.Value.size
        · have c3' : (1024 : Int) < (g.Value.size : Int) := by omega
          simp only [c3, c3', if_true]
        · have c3' : ¬ (1024 : Int) < (g.Value.size : Int) := by omega
          simp only [c3, c3', if_false]
      · have c2' : ¬ (g.Op = 1 ∨ g.Op = 2) := by omega
        simp only [c2, c2', if_false]
        unfold regex_Parse_g
        simp only [Option.bind_some]
        by_cases c3 : (Rx.parse g.Value.data.toList).2.1 = 0
        · simp only [c3, if_true]
        · simp only [c3, if_false]
theorem rright_p {N : Nat} (hN : 1000 ≤ N) (g : GMatcher) : r22_Right_g N g = some (Mt.right (toM g)) := by
  unfold r22_Right_g Mt.right toM
  rw [rlabel_p hN, lab_eq]
  simp only [Option.bind_some, cond_not, cm_lss, cm_gtr, cm_eql, cm_neq, cond_dec, ite_or, ite_and, sl_eq]
  cases Nm.labelB g.Name.data.toList with
  | false => rfl
  | true =>
    simp only [_root_.cond_true, Bool.true_eq_false, if_false]
    by_cases c1 : g.Op < 1 ∨ 4 < g.Op
    · simp only [c1, if_true]
    · simp only [c1, if_false]
      by_cases c2 : g.Op ≤ 2
      · have c2' : ¬ 2 < g.Op := by omega
        have c2'' : g.Op < 3 := by omega
        simp only [c2, c2', c2'', if_true, if_false, true_and]
        by_cases c3 : 1024 < g.Value.size
        · have c3' : (1024 : Int) < (g.Value.size : Int) := by omega
          simp only [c3, c3', if_true]
        · have c3' : ¬ (1024 : Int) < (g.Value.size : Int) := by omega
          simp only [c3, c3', if_false]
      · have c2' : 2 < g.Op := by omega
        have c2'' : ¬ g.Op < 3 := by omega
        simp only [c2, c2', c2'', if_true, if_false, false_and, parse_p hN, Option.bind_some]
theorem msign_p (o : Int) : matcher_sign_g o = some (Mt.ofL (Mt.sgn o)) := by
  unfold matcher_sign_g Mt.sgn
  simp only [cm_eql, cond_dec]
  by_cases c1 : o = 1
  · simp only [c1, if_true]; rfl
  by_cases c2 : o = 2
  · simp only [c1, c2, if_true, if_false]; rfl
  by_cases c3 : o = 3
  · simp only [c1, c2, c3, if_true, if_false]; rfl
  by_cases c4 : o = 4
  · simp only [c1, c2, c3, c4, if_true, if_false]; rfl
  · simp only [c1, c2, c3, c4, if_false]; rfl
theorem rsgn_p (o : Int) : r22_Sign_g o = some (Mt.ofL (Mt.sgn o)) := msign_p o
theorem ba_eq {s t : ByteArray} : s = t ↔ s.data.toList = t.data.toList :=
  ⟨fun h => by rw [h], fun h => ByteArray.ext (Array.ext' h)⟩
theorem prefix_p (t : ByteArray) (p : List UInt8) : strings_HasPrefix_g t (Mt.ofL p) = some (decide (t.data.toList.take p.length = p)) := by
  have hz : (Mt.ofL p).size = p.length := by rw [← size_list, Mt.ofL_list]
  unfold strings_HasPrefix_g internal_stringslite_HasPrefix_g
  rw [cm_geq, cond_dec, sl_eq, sl_eq, sc_eql, hz]
  by_cases c : p.length ≤ t.size
  · have e := ss_list (s := t) (i := 0) (j := p.length) (by omega) c
    have e : (ss t 0 (p.length : Int)).data.toList = (t.data.toList.drop 0).take (p.length - 0) := e
    have hin : ssinB t 0 (p.length : Int) = true := ssin_nat (s := t) (i := 0) (j := p.length) (by omega) c
    rw [if_pos (by omega), hin, _root_.cond_true, Option.bind_some, Option.bind_some]
    congr 1
    refine decide_eq_decide.2 ?_
    rw [ba_eq, e, Mt.ofL_list]; rfl
  · rw [if_neg (by omega)]
    refine congrArg some (decide_eq_false fun h => ?_).symm
    have := congrArg List.length h
    rw [List.length_take, size_list] at this
    omega
theorem take1 (l : List UInt8) (a : UInt8) (ha : a.toNat ≠ 0) : l.take 1 = [a] ↔ Qu.bt l 0 = a.toNat := by
  cases l with
  | nil => simp [Qu.bt]; omega
  | cons x r => simp [Qu.bt, UInt8.toNat_inj]
theorem take2 (l : List UInt8) (a b : UInt8) (ha : a.toNat ≠ 0) (hb : b.toNat ≠ 0) : l.take 2 = [a, b] ↔ Qu.bt l 0 = a.toNat ∧ Qu.bt l 1 = b.toNat := by
  match l with
  | [] => simp [Qu.bt]; omega
  | [x] => simp [Qu.bt]; omega
  | x :: y :: r => simp [Qu.bt, UInt8.toNat_inj]
section
variable {s : ByteArray} {i : Nat}
theorem op_p {N : Nat} (hN : 20 ≤ N) (hs : s.size ≤ 100000) (hi : i ≤ s.size) : matcher_op_g N s i = some (if Mt.opAt s.data.toList i = 0 then (0, ⟨((Mt.opBad s.data.toList i).1 : Int), ((Mt.opBad s.data.toList i).2 : Int)⟩) else ((Mt.opAt s.data.toList i : Int), ⟨0, 0⟩)) := by
  obtain ⟨m, rfl⟩ : ∃ m, N = m + 5 := ⟨N - 5, by omega⟩
  obtain ⟨t, ht⟩ : ∃ t, t = ss s (i : Int) (sl s) := ⟨_, rfl⟩
  have hb : ∀ j, Qu.bt t.data.toList j = Qu.bt s.data.toList (i + j) := fun j => by rw [ht, ss_end hi, Qu.bt_drop]
  have hz : t.size = s.size - i := by rw [ht]; exact size_end hi
  have l0 : ∀ m, matcher_op_l1 s i (m + 1) 0 = (strings_HasPrefix_g t (Mt.ofL [61, 126])).bind fun a => cond a (some (3, ⟨0, 0⟩)) (matcher_op_l1 s i m 1) := fun m => by rw [ht]; rfl
  have l1 : ∀ m, matcher_op_l1 s i (m + 1) 1 = (strings_HasPrefix_g t (Mt.ofL [33, 126])).bind fun a => cond a (some (4, ⟨0, 0⟩)) (matcher_op_l1 s i m 2) := fun m => by rw [ht]; rfl
  have l2 : ∀ m, matcher_op_l1 s i (m + 1) 2 = (strings_HasPrefix_g t (Mt.ofL [33, 61])).bind fun a => cond a (some (2, ⟨0, 0⟩)) (matcher_op_l1 s i m 3) := fun m => by rw [ht]; rfl
  have l3 : ∀ m, matcher_op_l1 s i (m + 1) 3 = (strings_HasPrefix_g t (Mt.ofL [61])).bind fun a => cond a (some (1, ⟨0, 0⟩)) (matcher_op_l1 s i m 4) := fun m => by rw [ht]; rfl
  have l4 : ∀ m, matcher_op_l1 s i (m + 1) 4 = cond (sc .eql t ByteArray.empty) (some (0, ⟨1, (i : Int)⟩)) (cond (sc .eql t (ByteArray.mk #[33])) (some (0, ⟨1, ar .add .i64 i 1⟩)) (some (0, ⟨2, (i : Int)⟩))) := fun m => by rw [ht]; rfl
  have a2 : ∀ a b : UInt8, a.toNat ≠ 0 → b.toNat ≠ 0 → strings_HasPrefix_g t (Mt.ofL [a, b]) = some (decide (Qu.bt s.data.toList i = a.toNat ∧ Qu.bt s.data.toList (i + 1) = b.toNat)) := fun a b ha hb' => by
    rw [prefix_p]
    have := take2 t.data.toList a b ha hb'
    rw [hb, hb] at this
    exact congrArg some (decide_eq_decide.2 this)
  have a1 : ∀ a : UInt8, a.toNat ≠ 0 → strings_HasPrefix_g t (Mt.ofL [a]) = some (decide (Qu.bt s.data.toList i = a.toNat)) := fun a ha => by
    rw [prefix_p]
    have := take1 t.data.toList a ha
    rw [hb] at this
    exact congrArg some (decide_eq_decide.2 this)
  unfold matcher_op_g
  rw [ssin_end hi, _root_.cond_true, l0, l1, l2, l3, l4, a2 61 126 (by decide) (by decide), a2 33 126 (by decide) (by decide), a2 33 61 (by decide) (by decide), a1 61 (by decide), inc1 (by omega)]
  simp only [Option.bind_some, cond_dec, sc_eql, show (61 : UInt8).toNat = 61 from rfl, show (33 : UInt8).toNat = 33 from rfl, show (126 : UInt8).toNat = 126 from rfl]
  unfold Mt.opAt
  by_cases c1 : Qu.bt s.data.toList i = 61
  · by_cases c2 : Qu.bt s.data.toList (i + 1) = 126
    · simp [c1, c2]
    · simp [c1, c2]
  · by_cases c3 : Qu.bt s.data.toList i = 33
    · by_cases c4 : Qu.bt s.data.toList (i + 1) = 61
      · simp [c3, c4]
      · by_cases c5 : Qu.bt s.data.toList (i + 1) = 126
        · simp [c3, c5]
        · have hlt : i < s.size := Nat.lt_of_not_le fun g => by
            have : Qu.bt s.data.toList i = 0 := by unfold Qu.bt; rw [List.getElem?_eq_none (by rw [size_list]; omega)]
            omega
          have hne : ¬ t = ByteArray.empty := fun e => by rw [e] at hz; have : ByteArray.empty.size = 0 := rfl; omega
          have hone : t = ByteArray.mk #[33] ↔ i + 1 = s.size := by
            constructor
            · intro e
              have : (ByteArray.mk #[33]).size = 1 := rfl
              rw [e] at hz; omega
            · intro e
              rw [ba_eq]
              have hl : t.data.toList.length = 1 := by rw [size_list]; omega
              obtain ⟨x, hx⟩ := List.length_eq_one_iff.1 hl
              have h0 := hb 0
              rw [hx] at h0
              have h0 : x.toNat = 33 := by rw [Nat.add_zero, c3] at h0; exact h0
              rw [hx]
              show [x] = [33]
              congr 1
              exact UInt8.toNat_inj.1 h0
          have hlen : ¬ i = s.data.toList.length := by rw [size_list]; omega
          unfold Mt.opBad
          simp only [c3, c4, c5, hne, if_false, hlen, if_true, true_and, false_and, and_false]
          by_cases c6 : i + 1 = s.size
          · have c6' : i + 1 = s.data.toList.length := by rw [size_list]; exact c6
            simp [hone.2 c6, c6']
          · have c6' : ¬ i + 1 = s.data.toList.length := by rw [size_list]; exact c6
            have : ¬ t = ByteArray.mk #[33] := fun e => c6 (hone.1 e)
            simp [this, c6]
    · unfold Mt.opBad
      simp only [c1, c3, if_false, false_and, if_true]
      have hone : ¬ t = ByteArray.mk #[33] := fun e => by
        have := hb 0
        rw [e] at this
        exact c3 this.symm
      simp only [hone, if_false]
      by_cases c4 : i = s.size
      · have : t = ByteArray.empty := by
          rw [ba_eq]
          have hl : t.data.toList.length = 0 := by rw [size_list]; omega
          rw [List.length_eq_zero_iff.1 hl]; rfl
        rw [if_pos this, if_pos (by rw [size_list]; exact c4)]; rfl
      · have : ¬ t = ByteArray.empty := fun e => by rw [e] at hz; have : ByteArray.empty.size = 0 := rfl; omega
        rw [if_neg this, if_neg (by rw [size_list]; exact c4)]; rfl
end
end Pl
end Go.Proofs.YtampjnpnekekiaaGreatDoor
