/- Texts that the proof leans on. -/
import Derived.ChangeKeysEq
import Derived.WalkKit
import Derived.KernelRfl
import Derived.Lib.TrailingZeros
import Derived.Shelf.Unicode.DecodeSlow
import Derived.Laws.Tables
import Derived.Laws.MakeOwn
import Derived.Maps.AppendAt
import Derived.Laws.BytesString
import Derived.Laws.IdiomStrings
import Derived.Laws.StructEq
import Derived.Lib.OthersKept
import Derived.Lib.AppendStr
import Derived.Laws.CopyRow
import Derived.Still
import Derived.StillTail
import Derived.LoopN
import Derived.Test.YtpplemjjeefpdaaGreatDoorProg
import Derived.Laws.BitsAllLaws
import Derived.Below
import Derived.Calls
import Derived.Deep.Draws
import Derived.WalkSpells
import Derived.Deep.QuietTactic
import Derived.BigQuiet
import Derived.BigRegion
import Derived.RegionTactic
import Derived.WalkLawsBesides
import Derived.Shelf.Spec.TrailingZeros
import Derived.Defers
import Derived.Recover
import Derived.Laws.Pointers
import Derived.Lib.Builder
import Derived.Lib.UnsafeStr
import Derived.Shelf.RegionOpenPlain
import Derived.Laws.Externs
import Derived.Shelf.Small.Bits
import Derived.Shelf.Small.Strs
import Derived.Shelf.Strconv.Itoa0
import Derived.Shelf.Strings.Search1
import Derived.Shelf.Sort.Plain
import Derived.Shelf.Unicode.Decode
import Derived.Shelf.Unicode.DecodeAny
import Derived.Shelf.Slices.CompactS
import Derived.Ground.Names2Prog
import Derived.Shelf.Slices.SearchI
import Derived.Shelf.Slices.Cells
import Derived.Shelf.Slices.In.SortNone
import Derived.Lib.DecodeN
import Derived.Sort.Walk0
import Derived.Test.YtpplemjjeefpdaaGreatDoorK131
import Derived.Test.YtpplemjjeefpdaaGreatDoorK144
import Derived.Test.YtpplemjjeefpdaaGreatDoorK130
import Derived.Test.YtpplemjjeefpdaaGreatDoorK143
import Derived.Test.YtpplemjjeefpdaaGreatDoorK129
import Derived.Test.YtpplemjjeefpdaaGreatDoorK128
import Derived.Test.YtpplemjjeefpdaaGreatDoorK127
import Derived.Test.YtpplemjjeefpdaaGreatDoorK123
import Derived.Test.YtpplemjjeefpdaaGreatDoorK114
import Derived.Test.YtpplemjjeefpdaaGreatDoorK113
import Derived.Test.YtpplemjjeefpdaaGreatDoorK112
import Derived.Test.YtpplemjjeefpdaaGreatDoorK111
import Derived.Test.YtpplemjjeefpdaaGreatDoorK110
import Derived.Test.YtpplemjjeefpdaaGreatDoorK109
import Derived.Test.YtpplemjjeefpdaaGreatDoorK108
import Derived.Test.YtpplemjjeefpdaaGreatDoorK107
import Derived.Test.YtpplemjjeefpdaaGreatDoorK106
import Derived.Test.YtpplemjjeefpdaaGreatDoorK105
import Derived.Test.YtpplemjjeefpdaaGreatDoorK104
import Derived.Test.YtpplemjjeefpdaaGreatDoorK103
import Derived.Test.YtpplemjjeefpdaaGreatDoorK102
import Derived.Test.YtpplemjjeefpdaaGreatDoorK101
import Derived.Test.YtpplemjjeefpdaaGreatDoorK122
import Derived.Test.YtpplemjjeefpdaaGreatDoorK121
import Derived.Test.YtpplemjjeefpdaaGreatDoorK120
import Derived.Test.YtpplemjjeefpdaaGreatDoorK117
import Derived.Test.YtpplemjjeefpdaaGreatDoorK115
import Derived.Test.YtpplemjjeefpdaaGreatDoorK116
import Derived.Test.YtpplemjjeefpdaaGreatDoorK119
import Derived.Test.YtpplemjjeefpdaaGreatDoorK118
import Derived.Test.YtpplemjjeefpdaaGreatDoorK126
import Derived.Test.YtpplemjjeefpdaaGreatDoorK125
import Derived.Test.YtpplemjjeefpdaaGreatDoorK124
import Derived.Sort.EncStr
import Derived.Sort.Grow
import Derived.Test.YtpplemjjeefpdaaGreatDoorK133
import Derived.Test.YtpplemjjeefpdaaGreatDoorK132
import Derived.Test.YtpplemjjeefpdaaGreatDoorK135
import Derived.Test.YtpplemjjeefpdaaGreatDoorK134
import Derived.Test.YtpplemjjeefpdaaGreatDoorK136
import Derived.Test.YtpplemjjeefpdaaGreatDoorK137
namespace Go.Proofs.YtpplemjjeefpdaaGreatDoor
open Go
set_option linter.unusedVariables false
set_option linter.unusedSimpArgs false
set_option maxRecDepth 10000
open Sh Gn
namespace Pl
def takeV (g : Mt.Got) : GMatcher × Int × GFault := match g with | .ok m p => (⟨m.name, m.op, m.val⟩, (p : Int), ⟨0, 0⟩) | .bad e p => (⟨ByteArray.empty, 0, ByteArray.empty⟩, 0, ⟨e, (p : Int)⟩)
theorem run_take (g : Int → Bool → Bool) : ∀ (f : Bool) (l : List UInt8), Nm.run g f (l.take (Nm.run g f l)) = Nm.run g f l
  | f, [] => by simp [Nm.run]
  | f, c :: r => by
    by_cases h : g c.toNat f = true
    · have e : Nm.run g f (c :: r) = Nm.run g false r + 1 := by rw [Nm.run, if_pos h]
      rw [e, List.take_succ_cons, Nm.run, if_pos h, run_take g false r]
    · have e : Nm.run g f (c :: r) = 0 := by rw [Nm.run, if_neg h]
      rw [e]; rfl
section
variable {s : ByteArray}
theorem cut_p {N i : Nat} (hN : 200000 ≤ N) (hs : s.size ≤ 100000) (hi : i ≤ s.size) :
    name_Cut_g N s i = some (Mt.ofL ((s.data.toList.drop i).take (Nm.run Nm.signB true (s.data.toList.drop i))), ((i + Nm.run Nm.signB true (s.data.toList.drop i) : Nat) : Int)) := by
  have hz := size_end hi
  have hl := ss_end hi
  have hr := Nm.run_le Nm.signB true (s.data.toList.drop i)
  rw [List.length_drop, size_list] at hr
  unfold name_Cut_g
  rw [cm_lss, cm_gtr, cond_dec, sl_eq, if_neg (by omega), decide_eq_false (by omega)]
  simp only [Option.bind_some, cond_false]
  rw [← sl_eq, ssin_end hi, _root_.cond_true]
  have hr' : runAt (ss s (i : Int) (sl s)) true 0 = Nm.run Nm.signB true (s.data.toList.drop i) := by unfold runAt; rw [hl, List.drop_zero]
  have key := cut_from (p0 := s) (p1 := (i : Int)) rfl hr' N 0 (by omega) (by omega) (by rw [show ((0 : Nat) == 0) = true from rfl, hr']; omega)
  rw [show ((0 : Nat) : Int) = 0 from rfl] at key
  rw [key]
  generalize Nm.run Nm.signB true (s.data.toList.drop i) = R at *
  by_cases c : R = s.size - i
  · rw [if_pos (by omega)]
    congr 2
    · rw [← Mt.ofL_self (ss s (i : Int) (sl s)), hl, List.take_of_length_le (by rw [List.length_drop, size_list]; omega)]
    · rw [sl_eq]; omega
  · rw [if_neg (by omega), ar_add (by omega) (by omega)]
    congr 2
    rw [← Mt.ofL_self (ss (ss s (i : Int) (sl s)) 0 (R : Int))]
    have := ss_list (s := ss s (i : Int) (sl s)) (i := 0) (j := R) (by omega) (by omega)
    have this : (ss (ss s (i : Int) (sl s)) 0 (R : Int)).data.toList = (((ss s (i : Int) (sl s)).data.toList).drop 0).take (R - 0) := this
    rw [this, hl]; rfl
theorem lab_run (l : List UInt8) : Nm.labelB (l.take (Nm.run Nm.signB true l)) = decide (¬ (Nm.run Nm.signB true l < 1 ∨ 32 < Nm.run Nm.signB true l)) := by
  have h := run_take Nm.signB true l
  have hl := Nm.run_le Nm.signB true l
  unfold Nm.labelB Nm.allB
  rw [h, List.length_take, Nat.min_eq_left hl, Bool.eq_iff_iff]
  simp
  omega
theorem opAt_le (l : List UInt8) (i : Nat) : Mt.opAt l i ≤ 4 := by unfold Mt.opAt; (repeat' split) <;> omega
theorem sgn_size (o : Int) : (Mt.ofL (Mt.sgn o)).size = (Mt.sgn o).length ∧ (Mt.sgn o).length ≤ 2 := by
  refine ⟨by rw [← size_list, Mt.ofL_list], ?_⟩
  unfold Mt.sgn; (repeat' split) <;> decide
theorem opBad_ne (l : List UInt8) (i : Nat) : (Mt.opBad l i).1 ≠ 0 := by unfold Mt.opBad; (repeat' split) <;> (intro h; cases h)
theorem body_ne (l : List UInt8) : ∀ (f : Nat) (out : List UInt8) (i e p : Nat), Qu.body l f out i = .bad e p → e ≠ 0
  | 0, out, i, e, p, h => by unfold Qu.body at h; cases h; decide
  | f + 1, out, i, e, p, h => by
    unfold Qu.body at h
    split at h
    · split at h
      · cases h
      · cases hu : Qu.un l i with
        | ok t n => rw [hu] at h; exact body_ne l f _ _ e p h
        | bad e' p' =>
          rw [hu] at h
          cases h
          unfold Qu.un at hu
          split at hu
          · cases hE : Qu.esc l i with
            | ok b n => rw [hE] at hu; cases hu
            | bad e'' =>
              rw [hE] at hu
              cases hu
              rcases esc_bad hE with rfl | rfl <;> decide
          · split at hu
            · cases hu
            · cases hu; decide
    · cases h; decide
theorem read_ne {l : List UInt8} {a : Int} {e p : Nat} (h : Qu.read l a = .bad e p) : e ≠ 0 := by
  unfold Qu.read at h
  split at h
  · cases h; decide
  · split at h
    · cases h; decide
    · split at h
      · cases h; decide
      · exact body_ne _ _ _ _ _ _ h
theorem mtake_p {N : Nat} (hN : 200000 ≤ N) (hs : s.size ≤ 90000) (p : Int) : matcher_Take_g N s p = some (takeV (Mt.take s.data.toList p)) := by
  unfold matcher_Take_g Mt.take
  simp only [cm_lss, cm_gtr, cm_eql, cm_neq, cond_not, cond_dec, sl_eq, ite_or, Option.bind_some, size_list]
  by_cases c1 : p < 0 ∨ (s.size : Int) < p
  · simp only [c1, if_true]; rfl
  obtain ⟨i, rfl⟩ : ∃ i : Nat, p = i := ⟨p.toNat, by omega⟩
  simp only [c1, if_false, Int.toNat_natCast]
  by_cases c2 : (i : Int) = s.size
  · simp only [c2, if_true]
    have : i = s.size := by omega
    subst this; rfl
  simp only [c2, if_false]
  have hr := Nm.run_le Nm.signB true (s.data.toList.drop i)
  rw [List.length_drop, size_list] at hr
  rw [cut_p hN (by omega) (by omega), Option.bind_some, label_p (by omega), lab_eq, Mt.ofL_list, lab_run]
  simp only [Option.bind_some]
  obtain ⟨l, hl⟩ : ∃ l, l = s.data.toList.drop i := ⟨_, rfl⟩
  rw [← hl] at hr ⊢
  obtain ⟨R, hR⟩ : ∃ R, R = Nm.run Nm.signB true l := ⟨_, rfl⟩
  rw [← hR] at hr ⊢
  by_cases c3 : R < 1 ∨ 32 < R
  · simp only [c3, not_true_eq_false, decide_false, cond_false, if_true]; rfl
  simp only [c3, not_false_eq_true, decide_true, _root_.cond_true, if_false]
  rw [op_p (by omega) (by omega) (by omega), Option.bind_some]
  obtain ⟨o, ho⟩ : ∃ o, o = Mt.opAt s.data.toList (i + R) := ⟨_, rfl⟩
  rw [← ho]
  have ho4 : o ≤ 4 := by rw [ho]; exact opAt_le _ _
  by_cases c4 : o = 0
  · have hne := opBad_ne s.data.toList (i + R)
    have hne' : ¬ ((Mt.opBad s.data.toList (i + R)).1 : Int) = 0 := by omega
    simp only [c4, if_true, hne', if_false]; rfl
  simp only [c4, if_false, if_true, msign_p, Option.bind_some]
  have hz := sgn_size (o : Int)
  rw [hz.1, ar_add (by omega) (by omega), qread_p hN (by omega), Option.bind_some]
  have ea : ((i + R : Nat) : Int) + ((Mt.sgn (o : Int)).length : Int) = ((i + R + (Mt.sgn (o : Int)).length : Nat) : Int) := by omega
  rw [ea]
  cases hq : Qu.read s.data.toList ((i + R + (Mt.sgn (o : Int)).length : Nat) : Int) with
  | bad e q =>
    have he : ¬ (e : Int) = 0 := by
      have := read_ne hq
      omega
    simp only [gotV, he, if_false]; rfl
  | ok v q =>
    simp only [gotV, if_true, mright_p (N := N) (by omega), Option.bind_some, toM]
    by_cases c5 : Mt.right ⟨Mt.ofL (l.take R), (o : Int), ⟨v.toArray⟩⟩ = 0
    · have c5' : Mt.right ⟨Mt.ofL (l.take R), (o : Int), Mt.ofL v⟩ = 0 := c5
      simp only [c5, c5', if_true, ne_eq, not_true_eq_false, if_false]; rfl
    · have c5' : ¬ Mt.right ⟨Mt.ofL (l.take R), (o : Int), Mt.ofL v⟩ = 0 := c5
      simp only [c5, c5', ne_eq, not_false_eq_true, if_true, if_false]; rfl
theorem rsigns_from {i : Nat} (hs : s.size ≤ 100000) (hi : i ≤ s.size) : ∀ (m k : Nat), i + k ≤ s.size → s.size < i + k + m → r09_Signs_l1 s i m k = some ((k + runAt s (k == 0) (i + k) : Nat) : Int) := by
  intro m
  induction m with
  | zero => intro k h1 h2; omega
  | succ m ih =>
    intro k h1 h2
    unfold r09_Signs_l1
    have ea : ar .add .i64 (i : Int) (k : Int) = ((i + k : Nat) : Int) := by rw [ar_add (by omega) (by omega)]; omega
    rw [ea, cm_lss, sl_eq, cond_dec]
    by_cases c : i + k < s.size
    · have e0 : (cm .eql (k : Int) 0) = (k == 0) := by rw [cm_eql]; cases k <;> simp; omega
      have e1 := inc1 (show k ≤ 100000000 by omega)
      have eb : sa s ((i + k : Nat) : Int) = (s[i + k].toNat : Int) := by
        show ((s.data.getD _ 0).toNat : Int) = _
        rw [Int.toNat_natCast, Array.getD_eq_getD_getElem?, Array.getElem?_eq_getElem c]; rfl
      rw [if_pos (by omega), sin_in c, _root_.cond_true, rsign_p, e0, e1, eb, runAt_in c]
      cases g : Nm.signB (s[i + k].toNat) (k == 0) with
      | false => rfl
      | true =>
        simp only [Option.bind_some, _root_.cond_true, if_true]
        rw [ih (k + 1) (by omega) (by omega)]
        have e : (k + 1 == 0) = false := rfl
        rw [e, show i + (k + 1) = i + k + 1 by omega]
        congr 1; omega
    · rw [if_neg (by omega), runAt_end c]; rfl
theorem rsigns_p {N i : Nat} (hN : 200000 ≤ N) (hs : s.size ≤ 100000) (hi : i ≤ s.size) : r09_Signs_g N s i = some (Nm.run Nm.signB true (s.data.toList.drop i) : Int) := by
  unfold r09_Signs_g
  have := rsigns_from hs hi N 0 (by omega) (by omega)
  rw [show ((0 : Nat) : Int) = 0 from rfl] at this
  rw [this]
  show some ((0 + runAt s true (i + 0) : Nat) : Int) = _
  rw [Nat.zero_add]; rfl
theorem ris_p {i : Nat} {b : Nat} (hb : 0 < b) (hs : s.size ≤ 100000) : r22_is_g s i b = some (decide (Qu.bt s.data.toList i = b)) := by
  unfold r22_is_g
  rw [cm_lss, sl_eq, cond_dec, bind_self]
  by_cases c : i < s.size
  · rw [if_pos (by omega), sin_in c, _root_.cond_true, cm_eql, sa_bt]
    exact congrArg some (decide_eq_decide.2 (by omega))
  · rw [if_neg (by omega)]
    have : Qu.bt s.data.toList i = 0 := by unfold Qu.bt; rw [List.getElem?_eq_none (by rw [size_list]; omega)]
    rw [this, decide_eq_false (by omega)]
theorem rop_p {i : Nat} (hs : s.size ≤ 100000) (hi : i ≤ s.size) : r22_Op_g s i = some (Mt.opAt s.data.toList i : Int) := by
  have e : ∀ b : Nat, 0 < b → r22_is_g s ((i : Nat) : Int) (b : Int) = some (decide (Qu.bt s.data.toList i = b)) := fun b hb => ris_p hb hs
  have e' : ∀ b : Nat, 0 < b → r22_is_g s ((i + 1 : Nat) : Int) (b : Int) = some (decide (Qu.bt s.data.toList (i + 1) = b)) := fun b hb => ris_p hb hs
  unfold r22_Op_g Mt.opAt
  rw [inc1 (by omega), show r22_is_g s i 61 = _ from e 61 (by decide), show r22_is_g s i 33 = _ from e 33 (by decide), show r22_is_g s ((i + 1 : Nat) : Int) 61 = _ from e' 61 (by decide), show r22_is_g s ((i + 1 : Nat) : Int) 126 = _ from e' 126 (by decide)]
  simp only [Option.bind_some, cond_dec, ite_and]
  by_cases c1 : Qu.bt s.data.toList i = 61
  · by_cases c2 : Qu.bt s.data.toList (i + 1) = 126
    · simp [c1, c2]
    · simp [c1, c2]
  · by_cases c3 : Qu.bt s.data.toList i = 33
    · by_cases c4 : Qu.bt s.data.toList (i + 1) = 61
      · simp [c3, c4]
      · by_cases c5 : Qu.bt s.data.toList (i + 1) = 126
        · simp [c3, c5]
        · simp [c3, c4, c5]
    · simp [c1, c3]
theorem rtake_p {N : Nat} (hN : 200000 ≤ N) (hs : s.size ≤ 90000) (p : Int) : r22_Take_g N s p = some (takeV (Mt.take s.data.toList p)) := by
  unfold r22_Take_g Mt.take
  simp only [cm_lss, cm_gtr, cm_eql, cm_neq, cond_not, cond_dec, sl_eq, ite_or, ite_to, ite_and, Option.bind_some, size_list, r22_bad_g]
  by_cases c1 : p < 0 ∨ (s.size : Int) < p
  · simp only [c1, if_true]; rfl
  obtain ⟨i, rfl⟩ : ∃ i : Nat, p = i := ⟨p.toNat, by omega⟩
  simp only [c1, if_false, Int.toNat_natCast]
  by_cases c2 : (i : Int) = s.size
  · simp only [c2, if_true]
    have : i = s.size := by omega
    subst this; rfl
  simp only [c2, if_false]
  have hr := Nm.run_le Nm.signB true (s.data.toList.drop i)
  rw [List.length_drop, size_list] at hr
  rw [rsigns_p hN (by omega) (by omega), Option.bind_some]
  obtain ⟨l, hl⟩ : ∃ l, l = s.data.toList.drop i := ⟨_, rfl⟩
  have hname : ∀ R, R ≤ s.size - i → ss s (i : Int) ((i + R : Nat) : Int) = Mt.ofL (l.take R) := fun R hR => by
    rw [← Mt.ofL_self (ss s (i : Int) ((i + R : Nat) : Int)), ss_list (by omega) (by omega), Nat.add_sub_cancel_left, hl]
  rw [← hl] at hr ⊢
  obtain ⟨R, hR⟩ : ∃ R, R = Nm.run Nm.signB true l := ⟨_, rfl⟩
  rw [← hR] at hr ⊢
  by_cases c3 : R < 1 ∨ 32 < R
  · have c3' : (R : Int) < 1 ∨ (32 : Int) < (R : Int) := by omega
    simp only [c3, c3', if_true]; rfl
  have c3' : ¬ ((R : Int) < 1 ∨ (32 : Int) < (R : Int)) := by omega
  have ea : ar .add .i64 (i : Int) (R : Int) = ((i + R : Nat) : Int) := by rw [ar_add (by omega) (by omega)]; omega
  have ea1 := inc1 (show i + R ≤ 100000000 by omega)
  have his : r22_is_g s ((i + R : Nat) : Int) 33 = some (decide (Qu.bt s.data.toList (i + R) = 33)) := ris_p (b := 33) (by decide) (by omega)
  simp only [c3, c3', if_false, ea, ea1, rop_p (s := s) (i := i + R) (by omega) (by omega), Option.bind_some, his, cond_dec, ite_and]
  obtain ⟨o, ho⟩ : ∃ o, o = Mt.opAt s.data.toList (i + R) := ⟨_, rfl⟩
  rw [← ho]
  have ho4 : o ≤ 4 := by rw [ho]; exact opAt_le _ _
  by_cases c4 : o = 0
  · have c4' : (o : Int) = 0 := by omega
    simp only [c4, Int.natCast_zero, true_and, if_true, Mt.opBad, size_list, ea1]
    by_cases c5 : i + R = s.size
    · have c5' : ((i + R : Nat) : Int) = (s.size : Int) := by omega
      simp only [c5, c5', if_true]; rfl
    have c5' : ¬ ((i + R : Nat) : Int) = (s.size : Int) := by omega
    by_cases c6 : Qu.bt s.data.toList (i + R) = 33 ∧ i + R + 1 = s.size
    · have c6' : Qu.bt s.data.toList (i + R) = 33 ∧ ((i + R + 1 : Nat) : Int) = (s.size : Int) := ⟨c6.1, by omega⟩
      rw [if_neg c5', if_pos c6', if_neg c5, if_pos c6]; rfl
    · have c6' : ¬ (Qu.bt s.data.toList (i + R) = 33 ∧ ((i + R + 1 : Nat) : Int) = (s.size : Int)) := fun h => c6 ⟨h.1, by omega⟩
      rw [if_neg c5', if_neg c6', if_neg c5, if_neg c6]; rfl
  have c4' : ¬ (o : Int) = 0 := by omega
  have hz := sgn_size (o : Int)
  simp only [c4, c4', false_and, if_false, rsgn_p, Option.bind_some, hz.1]
  rw [ar_add (by omega) (by omega), rread_p hN (by omega), Option.bind_some, hname R hr, ssin_nat (by omega) (by omega), _root_.cond_true]
  have eb : ((i + R : Nat) : Int) + ((Mt.sgn (o : Int)).length : Int) = ((i + R + (Mt.sgn (o : Int)).length : Nat) : Int) := by omega
  rw [eb]
  cases hq : Qu.read s.data.toList ((i + R + (Mt.sgn (o : Int)).length : Nat) : Int) with
  | bad e q =>
    have he : ¬ (e : Int) = 0 := by
      have := read_ne hq
      omega
    simp only [gotV, he, if_false]; rfl
  | ok v q =>
    simp only [gotV, if_true, rright_p (N := N) (by omega), Option.bind_some, toM]
    by_cases c5 : Mt.right ⟨Mt.ofL (l.take R), (o : Int), ⟨v.toArray⟩⟩ = 0
    · have c5' : Mt.right ⟨Mt.ofL (l.take R), (o : Int), Mt.ofL v⟩ = 0 := c5
      simp only [c5, c5', if_true, ne_eq, not_true_eq_false, if_false]; rfl
    · have c5' : ¬ Mt.right ⟨Mt.ofL (l.take R), (o : Int), Mt.ofL v⟩ = 0 := c5
      simp only [c5, c5', ne_eq, not_false_eq_true, if_true, if_false]; rfl
end
end Pl
end Go.Proofs.YtpplemjjeefpdaaGreatDoor
namespace Go.Proofs.YtpplemjjeefpdaaGreatDoor
open Go
set_option linter.unusedVariables false
set_option linter.unusedSimpArgs false
set_option maxRecDepth 100000
open Sh Gn
namespace Pl
theorem conj3 {a b c : Bool} : conj [a, b, c] = (a && (b && c)) := by show (a && (b && (c && true))) = _; rw [Bool.and_true]
theorem seql_self (x : ByteArray) : sc .eql x x = true := by rw [sc_eql]; exact decide_eq_true rfl
end Pl
end Go.Proofs.YtpplemjjeefpdaaGreatDoor
namespace Go.Proofs.YtpplemjjeefpdaaGreatDoor
open Go
set_option linter.unusedVariables false
set_option linter.unusedSimpArgs false
namespace Sl
open Mt (M)
def body : List M → List UInt8
  | [] => []
  | m :: r => Mt.text m ++ tl r
def text (l : List M) : List UInt8 := 123 :: (body l ++ [125])
def parse (s : List UInt8) : List M × Int × Nat := match take s 0 with
  | .bad e p => ([], e, p)
  | .ok l p => if p < s.length then ([], 2, p) else (l, 0, 0)
theorem bt_in {s : List UInt8} {p : Nat} (h : Qu.bt s p ≠ 0) : p < s.length := Nat.lt_of_not_le fun g => h (by unfold Qu.bt; rw [List.getElem?_eq_none g])
theorem body_end (l : List UInt8) : ∀ (f : Nat) (out : List UInt8) (i p : Nat) (t : List UInt8), Qu.body l f out i = .ok t p → i < p ∧ p ≤ l.length
  | 0, out, i, p, t, h => by unfold Qu.body at h; cases h
  | f + 1, out, i, p, t, h => by
    unfold Qu.body at h
    split at h
    · rename_i c
      split at h
      · cases h; omega
      · cases hu : Qu.un l i with
        | ok t' n =>
          rw [hu] at h
          have := Qu.un_pos c hu
          have := body_end l f _ _ _ _ h
          omega
        | bad e' p' => rw [hu] at h; cases h
    · cases h
theorem read_end {l : List UInt8} {a : Int} {t : List UInt8} {p : Nat} (h : Qu.read l a = .ok t p) : a < p ∧ p ≤ l.length := by
  unfold Qu.read at h
  split at h
  · cases h
  · split at h
    · cases h
    · split at h
      · cases h
      · have := body_end _ _ _ _ _ _ h
        omega
theorem take_end {s : List UInt8} {i : Nat} {m : M} {p : Nat} (h : Mt.take s i = .ok m p) : i < p ∧ p ≤ s.length := by
  unfold Mt.take at h
  split at h
  · cases h
  · split at h
    · cases h
    · split at h
      · cases h
      · split at h
        · cases h
        · split at h
          · cases h
          · rename_i hr
            split at h
            · cases h
            · cases h
              have := read_end hr
              omega
theorem take_end_of {s : List UInt8} : Mt.take s (s.length : Nat) = .bad 1 s.length := by
  unfold Mt.take
  rw [if_neg (by omega), if_pos rfl, Int.toNat_natCast]
end Sl
end Go.Proofs.YtpplemjjeefpdaaGreatDoor
namespace Go.Proofs.YtpplemjjeefpdaaGreatDoor
open Go Go.RowKit
set_option linter.unusedVariables false
set_option linter.unusedSimpArgs false
set_option maxRecDepth 100000
set_option maxHeartbeats 4000000
open Ab Sh
namespace Gn
def r23_is_s (R : RF) (r : Bool) : V := fB r
def r23_is_g (p0 : ByteArray) (p1 : Int) (p2 : Int) : Option Bool :=
 (cond (cm .lss p1 (sl p0))
 (cond (sinB p0 p1) (some (cm .eql (sa p0 p1) p2)) none)
 (some false) : Option Bool).bind fun j1 =>
 some j1
def r23_other_s (R : RF) (r : GFault) : V := .agg [fI .i64 r.E, fI .i64 r.At]
def r23_other_g (p0 : ByteArray) (p1 : Int) : Option GFault :=
 cond (cm .geq p1 (sl p0))
 (some (⟨1, sl p0⟩ : GFault))
 (some (⟨2, p1⟩ : GFault))
def r23_Take_s (R : RF) (r : (List GMatcher) × Int × GFault) : V := .tup [.t (.slc (R _ cMatcher r.1)), fI .i64 r.2.1, .agg [fI .i64 r.2.2.E, fI .i64 r.2.2.At]]
def r23_Take_l1 (N : Nat) (p0 : ByteArray) : Nat → Int → List GMatcher → Option ((List GMatcher) × Int × GFault)
| 0, _, _ => none
| m + 1, v4, v5 =>
 cond (cm .lss v4 (sl p0))
 (cond (cm .eql (ll (rw _ cMatcher v5)) 64)
 (some ([], 0, (⟨3, v4⟩ : GFault)))
 ((r22_Take_g N p0 v4).bind fun a6 =>
 cond (cm .neq a6.2.2.E 0)
 (some ([], 0, a6.2.2))
 ((app cMatcher v5 [a6.1]).bind fun l7 =>
 (r23_is_g p0 a6.2.1 125).bind fun a8 =>
 cond (a8)
 (some (l7, ar .add .i64 a6.2.1 1, (⟨0, 0⟩ : GFault)))
 ((r23_is_g p0 a6.2.1 44).bind fun a9 =>
 cond (!a9)
 ((r23_other_g p0 a6.2.1).bind fun a10 =>
 some ([], 0, a10))
 ((r23_is_g p0 (ar .add .i64 a6.2.1 1) 32).bind fun a11 =>
 cond (!a11)
 ((r23_other_g p0 (ar .add .i64 a6.2.1 1)).bind fun a12 =>
 some ([], 0, a12))
 ((r23_Take_l1 N p0 m) (ar .add .i64 a6.2.1 2) l7))))))
 (some ([], 0, (⟨1, sl p0⟩ : GFault)))
def r23_Take_g (N : Nat) (p0 : ByteArray) (p1 : Int) : Option ((List GMatcher) × Int × GFault) :=
 (cond (cm .lss p1 0)
 (some true)
 (some (cm .gtr p1 (sl p0))) : Option Bool).bind fun j1 =>
 cond (j1)
 (some ([], 0, (⟨7, 0⟩ : GFault)))
 ((r23_is_g p0 p1 123).bind fun a1 =>
 cond (!a1)
 ((r23_other_g p0 p1).bind fun a2 =>
 some ([], 0, a2))
 ((r23_is_g p0 (ar .add .i64 p1 1) 125).bind fun a3 =>
 cond (a3)
 (some ([], ar .add .i64 p1 2, (⟨0, 0⟩ : GFault)))
 (r23_Take_l1 N p0 N (ar .add .i64 p1 1) [])))
def r23_Parse_s (R : RF) (r : (List GMatcher) × GFault) : V := .tup [.t (.slc (R _ cMatcher r.1)), .agg [fI .i64 r.2.E, fI .i64 r.2.At]]
def r23_Parse_g (N : Nat) (p0 : ByteArray) : Option ((List GMatcher) × GFault) :=
 (r23_Take_g N p0 0).bind fun a1 =>
 (cond (cm .eql a1.2.2.E 0)
 (some (cm .lss a1.2.1 (sl p0)))
 (some false) : Option Bool).bind fun j1 =>
 cond (j1)
 (some ([], (⟨2, a1.2.1⟩ : GFault)))
 (some (a1.1, a1.2.2))
def r23_Text_s (R : RF) (r : ByteArray) : V := fS r
def r23_Text_l1 (N : Nat) (p0 : List GMatcher) : Nat → ByteArray → Int → Option ByteArray
| 0, _, _ => none
| m + 1, v1, v2 =>
 cond (cm .lss v2 (ll (rw _ cMatcher p0)))
 ((cond (cm .gtr v2 0)
 (cond (ctB v1 (ByteArray.mk #[44, 32])) (some (ct v1 (ByteArray.mk #[44, 32]))) none)
 (some v1) : Option ByteArray).bind fun j1 =>
 (at_ p0 v2).bind fun r3 =>
 (r22_Text_g N r3).bind fun a4 =>
 cond (ctB j1 a4) ((r23_Text_l1 N p0 m) (ct j1 a4) (ar .add .i64 v2 1)) none)
 (cond (ctB v1 (ByteArray.mk #[125])) (some (ct v1 (ByteArray.mk #[125]))) none)
def r23_Text_g (N : Nat) (p0 : List GMatcher) : Option ByteArray :=
 r23_Text_l1 N p0 N (ByteArray.mk #[123]) 0
def l23_SelectorReads_s (R : RF) (r : Bool) : V := fB r
def l23_SelectorReads_g (N : Nat) (p0 : List GMatcher) (p1 : ByteArray) (p2 : Int) : Option Bool :=
 ((r23_Great_g N p0 []).bind fun a1 =>
 cond (a1)
 (some true)
 (some (cm .gtr (sl p1) 600)) : Option Bool).bind fun j1 =>
 cond (j1)
 ((l23_works_g N).bind fun a2 =>
 some a2)
 ((selector_Parse_g N p1).bind fun a3 =>
 (r23_Parse_g N p1).bind fun a4 =>
 (selector_Take_g N p1 p2).bind fun a5 =>
 (r23_Take_g N p1 p2).bind fun a6 =>
 ((selector_Text_g N p0).bind fun a7 =>
 (r23_Text_g N p0).bind fun a8 =>
 cond (sc .eql a7 a8)
 ((porterbase_SameSel_g N a3.1 a4.1).bind fun a9 =>
 cond (a9)
 (cond (conj [cm .eql a3.2.E a4.2.E, cm .eql a3.2.At a4.2.At])
 ((porterbase_SameSel_g N a5.1 a6.1).bind fun a10 =>
 cond (a10)
 (cond (cm .eql a5.2.1 a6.2.1)
 (cond (conj [cm .eql a5.2.2.E a6.2.2.E, cm .eql a5.2.2.At a6.2.2.At])
 ((l23_works_g N).bind fun a11 =>
 some a11)
 (some false))
 (some false))
 (some false))
 (some false))
 (some false))
 (some false) : Option Bool).bind fun j2 =>
 some j2)
end Gn
end Go.Proofs.YtpplemjjeefpdaaGreatDoor
namespace Go.Proofs.YtpplemjjeefpdaaGreatDoor
open Go Go.RowKit
set_option linter.unusedVariables false
set_option linter.unusedSimpArgs false
set_option maxRecDepth 100000
set_option maxHeartbeats 4000000
open Ab Sh
namespace Gn
theorem r23_is_w {p0 : ByteArray} {p1 : Int} {p2 : Int} {r : Bool} (h : r23_is_g p0 p1 p2 = some r) : FunS Tryz.prog 31 [fS p0, fI .i64 p1, fI .u8 p2] (r23_is_s rw) r := by
  refine fun_w lay_ok Tryz.call31 Tryz.func31 rfl ?_
  intro A W E Q R hE hR hf hQ; rcases W with ⟨ar, cm, conj, cv, sl, sc, ct, sa, ss, ll, _, _, _, _, mi, mx, _, _, _⟩
  unfold r23_is_g at h
  rw [q_cm hE, q_sl hE, q_sa hE] at h
  cbv
  refine L_rgJ hE lay_ok h 0 (fun j1 : Bool => [(6, fB j1)]) (fun j1 => []) (fun j1 h => ?_) (fun j1 h => ?_) <;> cbv
  · refine L_if hE h (fun h => ?_) (fun h => ?_) <;> cbv
    · refine L_sin hE h fun h => ?_
      cases h; (cbv; (try simp only [e_rnil hR]); repeat' (first | exact trivial | exact rfl | exact Or.inr trivial | apply And.intro))
    cases h; (cbv; (try simp only [e_rnil hR]); repeat' (first | exact trivial | exact rfl | exact Or.inr trivial | apply And.intro))
  exact And.left (hQ _ _ _ rfl rfl (by cases h; subst hR; rfl))
theorem r23_other_w {p0 : ByteArray} {p1 : Int} {r : GFault} (h : r23_other_g p0 p1 = some r) : FunS Tryz.prog 32 [fS p0, fI .i64 p1] (r23_other_s rw) r := by
  refine fun_w lay_ok Tryz.call32 Tryz.func32 rfl ?_
  intro A W E Q R hE hR hf hQ; rcases W with ⟨ar, cm, conj, cv, sl, sc, ct, sa, ss, ll, _, _, _, _, mi, mx, _, _, _⟩
  unfold r23_other_g at h
  rw [q_cm hE, q_sl hE] at h
  cbv
  refine L_if hE h (fun h => ?_) (fun h => ?_) <;> cbv
  · exact And.left (hQ _ _ _ rfl rfl (by cases h; subst hR; rfl))
  exact And.left (hQ _ _ _ rfl rfl (by cases h; subst hR; rfl))
theorem r22_bad_w {p0 : Int} {p1 : Int} {r : GMatcher × Int × GFault} (h : r22_bad_g p0 p1 = some r) : FunS Tryz.prog 61 [fI .i64 p0, fI .i64 p1] (r22_bad_s rw) r := by
  refine fun_w lay_ok Tryz.call61 Tryz.func61 rfl ?_
  intro A W E Q R hE hR hf hQ; rcases W with ⟨ar, cm, conj, cv, sl, sc, ct, sa, ss, ll, _, _, _, _, mi, mx, _, _, _⟩
  unfold r22_bad_g at h
  skip
  cbv
  exact And.left (hQ _ _ _ rfl rfl (by cases h; subst hR; rfl))
theorem r09_Signs_w {N : Nat} {p0 : ByteArray} {p1 : Int} {r : Int} (h : r09_Signs_g N p0 p1 = some r) : FunS Tryz.prog 62 [fS p0, fI .i64 p1] (r09_Signs_s rw) r := by
  refine fun_w lay_ok Tryz.call62 Tryz.func62 rfl ?_
  intro A W E Q R hE hR hf hQ; rcases W with ⟨ar, cm, conj, cv, sl, sc, ct, sa, ss, ll, _, _, _, _, mi, mx, _, _, _⟩
  unfold r09_Signs_g at h
  skip
  cbv
  refine L_for hE lay_ok 0 (fun g : Int × Nat => [(5, fI .i64 g.1)]) (fun g => []) (fun g => r09_Signs_l1 p0 p1 g.2 g.1 = some r) (fun g => g.2) (_, N) h ?_ ?_
  · (cbv; (try simp only [e_rnil hR]); repeat' (first | exact trivial | exact rfl | exact Or.inr trivial | apply And.intro))
  rintro ⟨v1, m1⟩ h Q1 hN1 hT1 hX1
  have h : r09_Signs_l1 p0 p1 m1 v1 = some r := h
  cases m1 with
  | zero => exact nomatch (show (none : Option _) = some _ from h)
  | succ m1 =>
  rw [r09_Signs_l1] at h
  rw [q_ar hE, q_cm hE, q_sl hE, q_sa hE] at h
  cbv
  refine L_rgJ hE lay_ok h 0 (fun j1 : Bool => [(21, fB j1)]) (fun j1 => []) (fun j1 h => ?_) (fun j1 h => ?_) <;> cbv
  · refine L_if hE h (fun h => ?_) (fun h => ?_) <;> cbv
    · refine L_sin hE h fun h => ?_
      refine L_call hE hR h (fun _ e => r09_sign_w e) rfl rfl fun a2 h => ?_; cbv
      cases h; (cbv; (try simp only [e_rnil hR]); repeat' (first | exact trivial | exact rfl | exact Or.inr trivial | apply And.intro))
    cases h; (cbv; (try simp only [e_rnil hR]); repeat' (first | exact trivial | exact rfl | exact Or.inr trivial | apply And.intro))
  refine L_if hE h (fun h => ?_) (fun h => ?_) <;> cbv
  · refine hN1 _ (_, m1) [] h (Nat.lt_succ_self _) trivial ?_; (cbv; (try simp only [e_rnil hR]); repeat' (first | exact trivial | exact rfl | exact Or.inr trivial | apply And.intro))
  refine hX1 _ _ ?_; cbv
  exact And.left (hQ _ _ _ rfl rfl (by cases h; subst hR; rfl))
end Gn
end Go.Proofs.YtpplemjjeefpdaaGreatDoor
namespace Go.Proofs.YtpplemjjeefpdaaGreatDoor
open Go
set_option linter.unusedVariables false
set_option linter.unusedSimpArgs false
set_option maxRecDepth 100000
open Sh Gn
namespace Pl
theorem ofL_ct (a b : List UInt8) : ct (Mt.ofL a) (Mt.ofL b) = Mt.ofL (a ++ b) := by
  apply ByteArray.ext
  show (Mt.ofL a ++ Mt.ofL b).data = _
  rw [ByteArray.data_append]
  simp [Mt.ofL]
theorem ofL_size (a : List UInt8) : (Mt.ofL a).size = a.length := by rw [← size_list, Mt.ofL_list]
theorem ofL_ctB {a b : List UInt8} (h : a.length + b.length ≤ 1000000000) : ctB (Mt.ofL a) (Mt.ofL b) = true := by
  unfold ctB; rw [ofL_size, ofL_size]; exact decide_eq_true h
theorem rhex_p : ∀ c : Fin 256, r02_Hex_g 200000 ⟨#[UInt8.ofNat c.val]⟩ = some ⟨#[Qu.hexd (c.val / 16), Qu.hexd (c.val % 16)]⟩ := by decide +kernel
def hexS : ByteArray := ByteArray.mk #[48, 49, 50, 51, 52, 53, 54, 55, 56, 57, 97, 98, 99, 100, 101, 102]
theorem qhex_p : ∀ c : Fin 256, sinB hexS (ar .shr .u8 (c.val : Int) 4) = true ∧ sa hexS (ar .shr .u8 (c.val : Int) 4) = ((Qu.hexd (c.val / 16)).toNat : Int) ∧ sinB hexS (ar .and .u8 (c.val : Int) 15) = true ∧ sa hexS (ar .and .u8 (c.val : Int) 15) = ((Qu.hexd (c.val % 16)).toNat : Int) := by decide +kernel
def bis (l : List UInt8) : List Int := l.map fun b => (b.toNat : Int)
theorem bis_app {l m : List UInt8} (h : l.length + m.length ≤ 1000000000) : app (cI .u8) (bis l) (bis m) = some (bis (l ++ m)) := by
  unfold app bis
  rw [List.length_map, List.length_map, if_pos h, List.map_append]
section
variable {s : ByteArray} {i : Nat}
theorem qunit_p (hi : i < s.size) : quote_Unit_g s i = some (Qu.unit s.data.toList i : Int) := by
  unfold quote_Unit_g
  rw [dec_cp hi, ssin_end (by omega)]
  simp only [cm_lss, cm_geq, cond_dec, sl_eq, ite_or, Option.bind_some, _root_.cond_true]
  rw [if_neg (by omega)]
theorem runit_p {N : Nat} (hN : 20 ≤ N) (hs : s.size ≤ 100000) (hi : i < s.size) : r10_Unit_g N s i = some (Qu.unit s.data.toList i : Int) := by
  unfold r10_Unit_g
  rw [rrune_p hN hs hi]
  simp only [cm_lss, cm_geq, cm_eql, cond_dec, sl_eq, ite_or, Option.bind_some]
  rw [if_neg (by omega)]
  unfold Qu.unit
  by_cases c : Qu.rune s.data.toList i = 0
  · rw [if_pos (by omega), if_pos c]; rfl
  · rw [if_neg (by omega), if_neg c]
theorem decode_p (hi : i < s.size) : Utf8.decode s i = (Qu.cp s.data.toList i, Qu.unit s.data.toList i) := by
  rw [Lib.decode_at, get_bt, get_bt, get_bt, get_bt, ← Qu.cp_unit, size_list]
theorem ss_of (h : i + (Qu.unit s.data.toList i) ≤ s.size) : ss s (i : Int) ((i + Qu.unit s.data.toList i : Nat) : Int) = Mt.ofL ((s.data.toList.drop i).take (Qu.unit s.data.toList i)) := by
  apply ByteArray.ext
  apply Array.ext'
  rw [ss_list (by omega) (by omega), Nat.add_sub_cancel_left, Mt.ofL_list]
theorem ss_one (h : i < s.size) : ss s (i : Int) ((i + 1 : Nat) : Int) = Mt.ofL [UInt8.ofNat (Qu.bt s.data.toList i)] := by
  apply ByteArray.ext
  apply Array.ext'
  rw [ss_list (by omega) (by omega), Nat.add_sub_cancel_left, Mt.ofL_list, Qu.take_byte (by rw [size_list]; exact h)]
theorem enc_len (l : List UInt8) (i : Nat) : (Qu.enc l i).length ≤ 4 := by
  have h : Qu.unit l i ≤ 4 := by
    unfold Qu.unit Qu.rune Qu.runeN
    (repeat' split) <;> omega
  unfold Qu.enc
  (repeat' split)
  · simp
  · rw [List.length_take]; omega
  · simp
theorem rtext_from (hs : s.size ≤ 10000) : ∀ (m i : Nat) (out : List UInt8), i ≤ s.size → s.size < i + m → out.length ≤ 4 * i + 1 → r10_Text_l1 200000 s m (Mt.ofL out) i = some (Mt.ofL (out ++ (Qu.rest s.data.toList i ++ [34]))) := by
  intro m
  induction m with
  | zero => intro i out h1 h2; omega
  | succ m ih =>
    intro i out h1 h2 h3
    unfold r10_Text_l1
    simp only [cm_lss, cond_dec, sl_eq]
    by_cases c : i < s.size
    case neg =>
      rw [if_neg (by omega), Qu.rest_end (by rw [size_list]; omega), List.nil_append]
      show cond (ctB (Mt.ofL out) (Mt.ofL [34])) (some (ct (Mt.ofL out) (Mt.ofL [34]))) none = _
      rw [ofL_ctB (by simp; omega), ofL_ct]; rfl
    rw [if_pos (by omega), Qu.rest_in (by rw [size_list]; exact c), runit_p (by omega) (by omega) c]
    have hb := Qu.bt_lt s.data.toList i
    have hu := Qu.unit_le (l := s.data.toList) (i := i) (by rw [size_list]; exact c)
    have hu1 := Qu.unit_pos s.data.toList i
    have he := enc_len s.data.toList i
    rw [size_list] at hu
    have ea : ar .add .i64 (i : Int) (Qu.unit s.data.toList i : Int) = ((i + Qu.unit s.data.toList i : Nat) : Int) := by rw [ar_add (by omega) (by omega)]; omega
    have next := ih (i + Qu.unit s.data.toList i) (out ++ Qu.enc s.data.toList i) hu (by omega) (by rw [List.length_append]; omega)
    rw [List.append_assoc, ← List.append_assoc (Qu.enc _ _)] at next
    have e1 := inc1 (show i ≤ 100000000 by omega)
    have hsi := rsafe_p (s := s) (i := i) (N := 200000) (by omega) (by omega) c
    simp only [sin_in c, _root_.cond_true, sa_bt, Option.bind_some, cm_eql, cond_dec, ite_or, hsi, e1, ea]
    rw [← next]
    by_cases d1 : Qu.bt s.data.toList i = 34 ∨ Qu.bt s.data.toList i = 92
    · have d1' : (Qu.bt s.data.toList i : Int) = 34 ∨ (Qu.bt s.data.toList i : Int) = 92 := by omega
      have e : Qu.enc s.data.toList i = [92, UInt8.ofNat (Qu.bt s.data.toList i)] := by unfold Qu.enc; rw [if_pos d1]
      rw [if_pos d1', e, ss_one c, show (ByteArray.mk #[92]) = Mt.ofL [92] from rfl, ofL_ctB (by simp; omega), ssin_nat (by omega) (by omega), ofL_ct, ofL_ctB (by simp; omega), ofL_ct]
      simp
    have d1' : ¬ ((Qu.bt s.data.toList i : Int) = 34 ∨ (Qu.bt s.data.toList i : Int) = 92) := by omega
    rw [if_neg d1']
    cases g : Qu.safe s.data.toList i with
    | true =>
      have e : Qu.enc s.data.toList i = (s.data.toList.drop i).take (Qu.unit s.data.toList i) := by unfold Qu.enc; rw [if_neg d1, if_pos g]
      simp only [_root_.cond_true]
      rw [e, ss_of hu, ssin_nat (by omega) hu, ofL_ctB (by rw [← e]; omega), ofL_ct]
      simp
    | false =>
      have e : Qu.enc s.data.toList i = [92, 120, Qu.hexd (Qu.bt s.data.toList i / 16), Qu.hexd (Qu.bt s.data.toList i % 16)] := by unfold Qu.enc; rw [if_neg d1, if_neg (by rw [g]; simp)]
      have hh : r02_Hex_g 200000 (Mt.ofL [UInt8.ofNat (Qu.bt s.data.toList i)]) = some (Mt.ofL [Qu.hexd (Qu.bt s.data.toList i / 16), Qu.hexd (Qu.bt s.data.toList i % 16)]) := rhex_p ⟨_, hb⟩
      simp only [_root_.cond_false]
      rw [e, ss_one c, show (ByteArray.mk #[92, 120]) = Mt.ofL [92, 120] from rfl, ofL_ctB (by simp; omega), ssin_nat (j := i + 1) (by omega) (by omega), hh, ofL_ct]
      simp only [Option.bind_some, _root_.cond_false, _root_.cond_true]
      rw [ofL_ctB (by simp; omega), ofL_ct]
      simp
theorem rtext_p (hs : s.size ≤ 10000) : r10_Text_g 200000 s = some (Mt.ofL (Qu.text s.data.toList)) := rtext_from hs 200000 0 [34] (by omega) (by omega) (by simp)
theorem qtext_from (hs : s.size ≤ 10000) : ∀ (m i : Nat) (out : List UInt8), i ≤ s.size → s.size < i + m → out.length ≤ 4 * i + 1 → quote_Text_l2 s m (bis out) i = some (Mt.ofL (out ++ (Qu.rest s.data.toList i ++ [34]))) := by
  intro m
  induction m with
  | zero => intro i out h1 h2; omega
  | succ m ih =>
    intro i out h1 h2 h3
    unfold quote_Text_l2 nx
    rw [Int.toNat_natCast]
    by_cases c : i < s.size
    case neg =>
      rw [if_neg c, Qu.rest_end (by rw [size_list]; omega), List.nil_append]
      show ((app (cI .u8) (bis out) (bis [34])).bind fun l => (strB l).bind fun s => some s) = _
      rw [bis_app (by simp; omega), Option.bind_some]
      show ((strB (bis (out ++ [34]))).bind fun s => some s) = _
      rw [show strB (bis (out ++ [34])) = _ from str_map _]; rfl
    rw [if_pos c, decode_p c, Qu.rest_in (by rw [size_list]; exact c), qunit_p c]
    have hb := Qu.bt_lt s.data.toList i
    have hu := Qu.unit_le (l := s.data.toList) (i := i) (by rw [size_list]; exact c)
    have hu1 := Qu.unit_pos s.data.toList i
    have he := enc_len s.data.toList i
    rw [size_list] at hu
    have ea : ar .add .i64 (i : Int) (Qu.unit s.data.toList i : Int) = ((i + Qu.unit s.data.toList i : Nat) : Int) := by rw [ar_add (by omega) (by omega)]; omega
    have next := ih (i + Qu.unit s.data.toList i) (out ++ Qu.enc s.data.toList i) hu (by omega) (by rw [List.length_append]; omega)
    rw [List.append_assoc, ← List.append_assoc (Qu.enc _ _)] at next
    have en : (i : Int) + (Qu.unit s.data.toList i : Int) = ((i + Qu.unit s.data.toList i : Nat) : Int) := by omega
    have k34 := Qu.cp_small s.data.toList i 34 (by decide)
    have k92 := Qu.cp_small s.data.toList i 92 (by decide)
    simp only [Option.bind_some, cm_eql, cm_leq, cond_dec, ite_or, plain_p, ea, en, sin_in c, sa_bt]
    rw [← next]
    by_cases d1 : Qu.bt s.data.toList i = 34 ∨ Qu.bt s.data.toList i = 92
    · have d2 : Qu.cp s.data.toList i = Qu.bt s.data.toList i := by
        rcases d1 with d | d
        · rw [d]; exact k34.2 d
        · rw [d]; exact k92.2 d
      have d1' : (Qu.cp s.data.toList i : Int) = 34 ∨ (Qu.cp s.data.toList i : Int) = 92 := by omega
      have e : Qu.enc s.data.toList i = [92, UInt8.ofNat (Qu.bt s.data.toList i)] := by unfold Qu.enc; rw [if_pos d1]
      have w1 : cv .u32 (Qu.cp s.data.toList i : Int) = (Qu.bt s.data.toList i : Int) := by
        show IntKind.u32.wrap _ = _
        rw [IntKind.wrap_u32]; omega
      have w2 : cv .u8 (Qu.cp s.data.toList i : Int) = ((UInt8.ofNat (Qu.bt s.data.toList i)).toNat : Int) := by
        show IntKind.u8.wrap _ = _
        rw [IntKind.wrap_u8, UInt8.toNat_ofNat']; omega
      rw [if_pos d1', e, w1, w2]
      have a1 : app (cI .u8) (bis out) [92] = some (bis (out ++ [92])) := bis_app (m := [92]) (by simp; omega)
      have a2 : app (cI .u8) (bis (out ++ [92])) [((UInt8.ofNat (Qu.bt s.data.toList i)).toNat : Int)] = some (bis ((out ++ [92]) ++ [UInt8.ofNat (Qu.bt s.data.toList i)])) := bis_app (m := [UInt8.ofNat (Qu.bt s.data.toList i)]) (by simp; omega)
      rw [a1, Option.bind_some, a2, if_pos (by omega)]
      simp
    have d1' : ¬ ((Qu.cp s.data.toList i : Int) = 34 ∨ (Qu.cp s.data.toList i : Int) = 92) := by
      intro h
      rcases h with h | h
      · exact d1 (.inl (k34.1 (by omega)))
      · exact d1 (.inr (k92.1 (by omega)))
    rw [if_neg d1']
    cases g : Qu.safe s.data.toList i with
    | true =>
      have e : Qu.enc s.data.toList i = (s.data.toList.drop i).take (Qu.unit s.data.toList i) := by unfold Qu.enc; rw [if_neg d1, if_pos g]
      have eb : Sh.bytes (Mt.ofL ((s.data.toList.drop i).take (Qu.unit s.data.toList i))) = bis ((s.data.toList.drop i).take (Qu.unit s.data.toList i)) := by unfold Sh.bytes bis; rw [Mt.ofL_list]
      rw [e, ss_of hu, ssin_nat (by omega) hu, eb, bis_app (by rw [← e]; omega)]
      simp
    | false =>
      have e : Qu.enc s.data.toList i = [92, 120, Qu.hexd (Qu.bt s.data.toList i / 16), Qu.hexd (Qu.bt s.data.toList i % 16)] := by unfold Qu.enc; rw [if_neg d1, if_neg (by rw [g]; simp)]
      obtain ⟨q1, q2, q3, q4⟩ := qhex_p ⟨_, hb⟩
      unfold hexS at q1 q2 q3 q4
      dsimp only at q1 q2 q3 q4
      have a1 : app (cI .u8) (bis out) (Sh.bytes (ByteArray.mk #[92, 120])) = some (bis (out ++ [92, 120])) := bis_app (m := [92, 120]) (by simp; omega)
      have a2 : app (cI .u8) (bis (out ++ [92, 120])) [((Qu.hexd (Qu.bt s.data.toList i / 16)).toNat : Int)] = some (bis ((out ++ [92, 120]) ++ [Qu.hexd (Qu.bt s.data.toList i / 16)])) := bis_app (m := [_]) (by simp; omega)
      have a3 : app (cI .u8) (bis ((out ++ [92, 120]) ++ [Qu.hexd (Qu.bt s.data.toList i / 16)])) [((Qu.hexd (Qu.bt s.data.toList i % 16)).toNat : Int)] = some (bis (((out ++ [92, 120]) ++ [Qu.hexd (Qu.bt s.data.toList i / 16)]) ++ [Qu.hexd (Qu.bt s.data.toList i % 16)])) := bis_app (m := [_]) (by simp; omega)
      rw [q1, q2, q3, q4, a1, Option.bind_some, a2, Option.bind_some, a3, e]
      simp [ge0B]
theorem qtext_p (hs : s.size ≤ 10000) : quote_Text_g 200000 s = some (Mt.ofL (Qu.text s.data.toList)) := by
  unfold quote_Text_g
  have a1 : app (cI .u8) [] [34] = some (bis [34]) := bis_app (l := []) (m := [34]) (by simp)
  rw [a1]
  exact qtext_from hs 200000 0 [34] (by omega) (by omega) (by simp)
end
theorem rest_len (l : List UInt8) : ∀ (n i : Nat), l.length ≤ i + n → (Qu.rest l i).length ≤ 4 * n := by
  intro n
  induction n with
  | zero => intro i h; rw [Qu.rest_end (by omega)]; simp
  | succ n ih =>
    intro i h
    by_cases c : i < l.length
    · rw [Qu.rest_in c, List.length_append]
      have := Qu.unit_pos l i
      have := enc_len l i
      have := ih (i + Qu.unit l i) (by omega)
      omega
    · rw [Qu.rest_end (by omega)]; simp
theorem text_len (l : List UInt8) : (Qu.text l).length ≤ 4 * l.length + 2 := by
  rw [Qu.text_eq]
  have := rest_len l l.length 0 (by omega)
  simp; omega
theorem mtext_p (g : GMatcher) (hv : g.Value.size ≤ 1200) (hn : g.Name.size ≤ 100) : matcher_Text_g 200000 g = some (Mt.ofL (Mt.text (toM g))) ∧ r22_Text_g 200000 g = some (Mt.ofL (Mt.text (toM g))) ∧ (Mt.text (toM g)).length ≤ 6000 := by
  have hz := (sgn_size g.Op).2
  have h1 := text_len g.Value.data.toList
  rw [size_list] at h1
  have h2 := size_list g.Name
  have e1 : ct g.Name (Mt.ofL (Mt.sgn g.Op)) = Mt.ofL (g.Name.data.toList ++ Mt.sgn g.Op) := by
    have := ofL_ct g.Name.data.toList (Mt.sgn g.Op)
    rwa [Mt.ofL_self] at this
  have e2 : ctB g.Name (Mt.ofL (Mt.sgn g.Op)) = true := by
    have := ofL_ctB (a := g.Name.data.toList) (b := Mt.sgn g.Op) (by omega)
    rwa [Mt.ofL_self] at this
  have e3 : (Mt.text (toM g)) = g.Name.data.toList ++ Mt.sgn g.Op ++ Qu.text g.Value.data.toList := rfl
  refine ⟨?_, ?_, by rw [e3, List.length_append, List.length_append]; omega⟩
  · unfold matcher_Text_g
    rw [msign_p, Option.bind_some, e2, e1, _root_.cond_true, qtext_p (by omega), Option.bind_some, ofL_ctB (by rw [List.length_append]; omega), ofL_ct, e3]; rfl
  · unfold r22_Text_g
    rw [rsgn_p, Option.bind_some, e2, e1, _root_.cond_true, rtext_p (by omega), Option.bind_some, ofL_ctB (by rw [List.length_append]; omega), ofL_ct, e3]; rfl
end Pl
end Go.Proofs.YtpplemjjeefpdaaGreatDoor
