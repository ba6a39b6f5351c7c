/- Texts that the proof leans on. -/
import Derived.ChangeKeysEq
import Derived.WalkKit
import Derived.KernelRfl
import Derived.Lib.TrailingZeros
import Derived.Shelf.Unicode.DecodeSlow
import Derived.Laws.Tables
import Derived.Laws.MakeOwn
import Derived.Maps.AppendAt
import Derived.Laws.BytesString
import Derived.Laws.IdiomStrings
import Derived.Laws.StructEq
import Derived.Lib.OthersKept
import Derived.Lib.AppendStr
import Derived.Laws.CopyRow
import Derived.Still
import Derived.StillTail
import Derived.LoopN
import Derived.Test.YtpplemjjeefpdaaGreatDoorProg
import Derived.Laws.BitsAllLaws
import Derived.Below
import Derived.Calls
import Derived.Deep.Draws
import Derived.WalkSpells
import Derived.Deep.QuietTactic
import Derived.BigQuiet
import Derived.BigRegion
import Derived.RegionTactic
import Derived.WalkLawsBesides
import Derived.Shelf.Spec.TrailingZeros
import Derived.Defers
import Derived.Recover
import Derived.Laws.Pointers
import Derived.Lib.Builder
import Derived.Lib.UnsafeStr
import Derived.Shelf.RegionOpenPlain
import Derived.Laws.Externs
import Derived.Shelf.Small.Bits
import Derived.Shelf.Small.Strs
import Derived.Shelf.Strconv.Itoa0
import Derived.Shelf.Strings.Search1
import Derived.Shelf.Sort.Plain
import Derived.Shelf.Unicode.Decode
import Derived.Shelf.Unicode.DecodeAny
import Derived.Shelf.Slices.CompactS
import Derived.Ground.Names2Prog
import Derived.Shelf.Slices.SearchI
import Derived.Shelf.Slices.Cells
import Derived.Shelf.Slices.In.SortNone
import Derived.Lib.DecodeN
import Derived.Sort.Walk0
import Derived.Sort.EncStr
import Derived.Sort.Grow
import Derived.Test.YtpplemjjeefpdaaGreatDoorK131
import Derived.Test.YtpplemjjeefpdaaGreatDoorK145
import Derived.Test.YtpplemjjeefpdaaGreatDoorK144
import Derived.Test.YtpplemjjeefpdaaGreatDoorK130
import Derived.Test.YtpplemjjeefpdaaGreatDoorK143
import Derived.Test.YtpplemjjeefpdaaGreatDoorK129
import Derived.Test.YtpplemjjeefpdaaGreatDoorK128
import Derived.Test.YtpplemjjeefpdaaGreatDoorK127
import Derived.Test.YtpplemjjeefpdaaGreatDoorK123
import Derived.Test.YtpplemjjeefpdaaGreatDoorK114
import Derived.Test.YtpplemjjeefpdaaGreatDoorK113
import Derived.Test.YtpplemjjeefpdaaGreatDoorK112
import Derived.Test.YtpplemjjeefpdaaGreatDoorK111
import Derived.Test.YtpplemjjeefpdaaGreatDoorK110
import Derived.Test.YtpplemjjeefpdaaGreatDoorK109
import Derived.Test.YtpplemjjeefpdaaGreatDoorK108
import Derived.Test.YtpplemjjeefpdaaGreatDoorK107
import Derived.Test.YtpplemjjeefpdaaGreatDoorK106
import Derived.Test.YtpplemjjeefpdaaGreatDoorK105
import Derived.Test.YtpplemjjeefpdaaGreatDoorK104
import Derived.Test.YtpplemjjeefpdaaGreatDoorK103
import Derived.Test.YtpplemjjeefpdaaGreatDoorK102
import Derived.Test.YtpplemjjeefpdaaGreatDoorK101
import Derived.Test.YtpplemjjeefpdaaGreatDoorK122
import Derived.Test.YtpplemjjeefpdaaGreatDoorK121
import Derived.Test.YtpplemjjeefpdaaGreatDoorK120
import Derived.Test.YtpplemjjeefpdaaGreatDoorK117
import Derived.Test.YtpplemjjeefpdaaGreatDoorK115
import Derived.Test.YtpplemjjeefpdaaGreatDoorK116
import Derived.Test.YtpplemjjeefpdaaGreatDoorK119
import Derived.Test.YtpplemjjeefpdaaGreatDoorK118
import Derived.Test.YtpplemjjeefpdaaGreatDoorK126
import Derived.Test.YtpplemjjeefpdaaGreatDoorK125
import Derived.Test.YtpplemjjeefpdaaGreatDoorK124
namespace Go.Proofs.YtpplemjjeefpdaaGreatDoor
open Go
set_option linter.unusedVariables false
set_option linter.unusedSimpArgs false
set_option maxRecDepth 100000
open Sh Gn
namespace Pl
def ofM (m : Mt.M) : GMatcher := ⟨m.name, m.op, m.val⟩
theorem toMs_app (l : List GMatcher) (m : Mt.M) : toMs (l ++ [ofM m]) = toMs l ++ [m] := by unfold toMs; rw [List.map_append]; rfl
theorem ofMs_toMs (l : List GMatcher) : (toMs l).map ofM = l := by
  unfold toMs
  rw [List.map_map]
  conv => rhs; rw [← List.map_id l]
  exact List.map_congr_left fun x _ => rfl
def takeVS (g : Sl.Got) : List GMatcher × Int × GFault := match g with | .ok l p => (l.map ofM, (p : Int), ⟨0, 0⟩) | .bad e p => ([], 0, ⟨e, (p : Int)⟩)
theorem mtake_ne {l : List UInt8} {a : Int} {e : Int} {p : Nat} (h : Mt.take l a = .bad e p) : e ≠ 0 := by
  unfold Mt.take at h
  split at h
  · cases h; decide
  · split at h
    · cases h; decide
    · split at h
      · cases h; decide
      · split at h
        · cases h
          have := opBad_ne l (a.toNat + Nm.run Nm.signB true (l.drop a.toNat))
          omega
        · split at h
          · rename_i hr
            cases h
            have := read_ne hr
            omega
          · split at h
            · rename_i hr
              cases h
              exact hr
            · cases h
section
variable {s : ByteArray} {i : Nat}
theorem pre1 (hi : i ≤ s.size) (a : UInt8) (ha : a.toNat ≠ 0) : strings_HasPrefix_g (ss s (i : Int) (sl s)) (ByteArray.mk #[a]) = some (decide (Qu.bt s.data.toList i = a.toNat)) := by
  have h := prefix_p (ss s (i : Int) (sl s)) [a]
  have := take1 (ss s (i : Int) (sl s)).data.toList a ha
  rw [ss_end hi, ← Qu.bt_drop, Nat.add_zero] at this
  rw [show (ByteArray.mk #[a]) = Mt.ofL [a] from rfl, h, ss_end hi]
  exact congrArg some (decide_eq_decide.2 this)
theorem pre2 (hi : i ≤ s.size) (a b : UInt8) (ha : a.toNat ≠ 0) (hb : b.toNat ≠ 0) : strings_HasPrefix_g (ss s (i : Int) (sl s)) (ByteArray.mk #[a, b]) = some (decide (Qu.bt s.data.toList i = a.toNat ∧ Qu.bt s.data.toList (i + 1) = b.toNat)) := by
  have h := prefix_p (ss s (i : Int) (sl s)) [a, b]
  have := take2 (ss s (i : Int) (sl s)).data.toList a b ha hb
  rw [ss_end hi, ← Qu.bt_drop, ← Qu.bt_drop, Nat.add_zero] at this
  rw [show (ByteArray.mk #[a, b]) = Mt.ofL [a, b] from rfl, h, ss_end hi]
  exact congrArg some (decide_eq_decide.2 this)
theorem swrong_p (hi : i ≤ s.size) : ((selector_wrong_g s i).bind fun a => some (([] : List GMatcher), (0 : Int), a)) = some (takeVS (Sl.other s.data.toList i)) := by
  unfold selector_wrong_g Sl.other
  rw [cm_geq, cond_dec, sl_eq, size_list]
  by_cases c : s.size ≤ i
  · rw [if_pos (by omega), if_pos c]; rfl
  · rw [if_neg (by omega), if_neg c]; rfl
theorem rsother_p : ((r23_other_g s i).bind fun a => some (([] : List GMatcher), (0 : Int), a)) = some (takeVS (Sl.other s.data.toList i)) := by
  unfold r23_other_g Sl.other
  rw [cm_geq, cond_dec, sl_eq, size_list]
  by_cases c : s.size ≤ i
  · rw [if_pos (by omega), if_pos c]; rfl
  · rw [if_neg (by omega), if_neg c]; rfl
theorem rsis_p {b : Nat} (hb : 0 < b) : r23_is_g s i (b : Int) = some (decide (Qu.bt s.data.toList i = b)) := by
  unfold r23_is_g
  rw [cm_lss, cond_dec, sl_eq]
  by_cases c : i < s.size
  · rw [if_pos (by omega), sin_in c, _root_.cond_true, cm_eql, sa_bt]
    simp only [Option.bind_some]
    exact congrArg some (decide_eq_decide.2 (by omega))
  · rw [if_neg (by omega)]
    have : Qu.bt s.data.toList i = 0 := by unfold Qu.bt; rw [List.getElem?_eq_none (by rw [size_list]; omega)]
    simp only [Option.bind_some]
    exact (congrArg some (decide_eq_false (by omega))).symm
theorem stake_from {N : Nat} (hN : 200000 ≤ N) (hs : s.size ≤ 90000) : ∀ (m f i : Nat) (out : List GMatcher), i ≤ s.size → s.size < i + m → s.size < i + f → out.length ≤ 64 →
    selector_Take_l1 N s m i out = some (takeVS (Sl.loop s.data.toList f (toMs out) i)) := by
  intro m
  induction m with
  | zero => intro f i out h1 h2; omega
  | succ m ih =>
    intro f i out h1 h2 h3 h4
    obtain ⟨f, rfl⟩ : ∃ k, f = k + 1 := ⟨f - 1, by omega⟩
    have hz : (toMs out).length = out.length := by unfold toMs; rw [List.length_map]
    have hl := size_list s
    rw [selector_Take_l1, Sl.loop, mtake_p hN hs]
    simp only [cm_eql, cm_lss, cm_neq, cond_not, cond_dec, ite_and, sl_eq, ll_eq, Option.bind_some, hz, hl]
    by_cases c : out.length = 64 ∧ i < s.size
    · have c' : (out.length : Int) = 64 ∧ (i : Int) < (s.size : Int) := by omega
      rw [if_pos c, if_pos c']; rfl
    have c' : ¬ ((out.length : Int) = 64 ∧ (i : Int) < (s.size : Int)) := by omega
    rw [if_neg c, if_neg c']
    cases hm : Mt.take s.data.toList (i : Int) with
    | bad e p =>
      have := mtake_ne hm
      simp only [takeV, this, if_false]
      rfl
    | ok x p =>
      have he := Sl.take_end hm
      rw [hl] at he
      have hout : out.length < 64 := by omega
      have ea : app cMatcher out [(⟨x.name, x.op, x.val⟩ : GMatcher)] = some (out ++ [ofM x]) := by unfold app; rw [if_pos (by simp; omega)]; rfl
      have q1 := pre1 (s := s) (i := p) (by omega) 125 (by decide)
      have q2 := pre1 (s := s) (i := p) (by omega) 44 (by decide)
      rw [sl_eq] at q1 q2
      have e1 := inc1 (show p ≤ 100000000 by omega)
      have e2 := inc2 (show p ≤ 100000000 by omega)
      simp only [takeV, if_true, ea, Option.bind_some, ssin_nat (s := s) (i := p) (j := s.size) (by omega) (Nat.le_refl _), _root_.cond_true, q1, q2, cond_not, cond_dec, e1, e2, show (125 : UInt8).toNat = 125 from rfl, show (44 : UInt8).toNat = 44 from rfl]
      by_cases d1 : Qu.bt s.data.toList p = 125
      · rw [if_pos d1, if_pos d1, ← toMs_app]
        show _ = some ((toMs (out ++ [ofM x])).map ofM, _, _)
        rw [ofMs_toMs]
      rw [if_neg d1, if_neg d1]
      by_cases d2 : Qu.bt s.data.toList p = 44
      · have hp : p < s.size := by rw [← hl]; exact Sl.bt_in (by omega)
        have q3 := pre1 (s := s) (i := p + 1) (by omega) 32 (by decide)
        rw [sl_eq] at q3
        rw [if_pos d2, if_neg (show ¬ Qu.bt s.data.toList p ≠ 44 by omega)]
        simp only [ssin_nat (s := s) (i := p + 1) (j := s.size) (by omega) (Nat.le_refl _), _root_.cond_true, q3, Option.bind_some, cond_not, cond_dec, show (32 : UInt8).toNat = 32 from rfl]
        by_cases d3 : Qu.bt s.data.toList (p + 1) = 32
        · have hp2 : p + 1 < s.size := by rw [← hl]; exact Sl.bt_in (by omega)
          rw [if_pos d3, if_neg (show ¬ Qu.bt s.data.toList (p + 1) ≠ 32 by omega), ← toMs_app]
          exact ih f (p + 2) (out ++ [ofM x]) (by omega) (by omega) (by omega) (by simp; omega)
        · rw [if_neg d3, if_pos d3]
          exact swrong_p (by omega)
      · rw [if_neg d2, if_pos d2]
        exact swrong_p (by omega)
theorem rstake_from {N : Nat} (hN : 200000 ≤ N) (hs : s.size ≤ 90000) : ∀ (m f i : Nat) (out : List GMatcher), i ≤ s.size → s.size < i + m → s.size < i + f → out.length ≤ 64 →
    r23_Take_l1 N s m i out = some (takeVS (Sl.loop s.data.toList f (toMs out) i)) := by
  intro m
  induction m with
  | zero => intro f i out h1 h2; omega
  | succ m ih =>
    intro f i out h1 h2 h3 h4
    obtain ⟨f, rfl⟩ : ∃ k, f = k + 1 := ⟨f - 1, by omega⟩
    have hz : (toMs out).length = out.length := by unfold toMs; rw [List.length_map]
    have hl := size_list s
    rw [r23_Take_l1, Sl.loop, rtake_p hN hs]
    simp only [cm_eql, cm_lss, cm_neq, cond_not, cond_dec, sl_eq, ll_eq, Option.bind_some, hz, hl]
    by_cases ci : i < s.size
    case neg =>
      obtain rfl : i = s.size := by omega
      rw [if_neg (by omega), if_neg (by omega)]
      have := Sl.take_end_of (s := s.data.toList)
      rw [hl] at this
      rw [this]; rfl
    rw [if_pos (by omega)]
    by_cases c : out.length = 64
    · rw [if_pos (by omega), if_pos ⟨c, ci⟩]; rfl
    have cn : ¬ (out.length = 64 ∧ i < s.size) := fun h => c h.1
    have cn' : ¬ ((out.length : Int) = 64) := by omega
    rw [if_neg cn', if_neg cn]
    cases hm : Mt.take s.data.toList (i : Int) with
    | bad e p =>
      have := mtake_ne hm
      simp only [takeV, this, if_false]
      rfl
    | ok x p =>
      have he := Sl.take_end hm
      rw [hl] at he
      have hout : out.length < 64 := by omega
      have ea : app cMatcher out [(⟨x.name, x.op, x.val⟩ : GMatcher)] = some (out ++ [ofM x]) := by unfold app; rw [if_pos (by simp; omega)]; rfl
      have q1 : r23_is_g s (p : Int) 125 = _ := rsis_p (s := s) (i := p) (b := 125) (by decide)
      have q2 : r23_is_g s (p : Int) 44 = _ := rsis_p (s := s) (i := p) (b := 44) (by decide)
      have q3 : r23_is_g s ((p + 1 : Nat) : Int) 32 = _ := rsis_p (s := s) (i := p + 1) (b := 32) (by decide)
      have e1 := inc1 (show p ≤ 100000000 by omega)
      have e2 := inc2 (show p ≤ 100000000 by omega)
      simp only [takeV, if_true, ea, Option.bind_some, q1, q2, q3, cond_not, cond_dec, e1, e2]
      by_cases d1 : Qu.bt s.data.toList p = 125
      · rw [if_pos d1, if_pos d1, ← toMs_app]
        show _ = some ((toMs (out ++ [ofM x])).map ofM, _, _)
        rw [ofMs_toMs]
      rw [if_neg d1, if_neg d1]
      by_cases d2 : Qu.bt s.data.toList p = 44
      · have hp : p < s.size := by rw [← hl]; exact Sl.bt_in (by omega)
        rw [if_pos d2, if_neg (show ¬ Qu.bt s.data.toList p ≠ 44 by omega)]
        by_cases d3 : Qu.bt s.data.toList (p + 1) = 32
        · have hp2 : p + 1 < s.size := by rw [← hl]; exact Sl.bt_in (by omega)
          rw [if_pos d3, if_neg (show ¬ Qu.bt s.data.toList (p + 1) ≠ 32 by omega), ← toMs_app]
          exact ih f (p + 2) (out ++ [ofM x]) (by omega) (by omega) (by omega) (by simp; omega)
        · rw [if_neg d3, if_pos d3]
          exact rsother_p
      · rw [if_neg d2, if_pos d2]
        exact rsother_p
theorem stake_p {N : Nat} (hN : 200000 ≤ N) (hs : s.size ≤ 90000) (p : Int) : selector_Take_g N s p = some (takeVS (Sl.take s.data.toList p)) := by
  unfold selector_Take_g Sl.take
  have hl := size_list s
  simp only [cm_lss, cm_gtr, cond_not, cond_dec, ite_or, sl_eq, Option.bind_some, hl]
  by_cases c : p < 0 ∨ (s.size : Int) < p
  · rw [if_pos c, if_pos c]; rfl
  obtain ⟨i, rfl⟩ : ∃ i : Nat, p = i := ⟨p.toNat, by omega⟩
  rw [if_neg c, if_neg c, Int.toNat_natCast]
  have q1 := pre1 (s := s) (i := i) (by omega) 123 (by decide)
  have q2 := pre2 (s := s) (i := i) (by omega) 123 125 (by decide) (by decide)
  rw [sl_eq] at q1 q2
  simp only [ssin_nat (s := s) (i := i) (j := s.size) (by omega) (Nat.le_refl _), _root_.cond_true, q1, q2, Option.bind_some, cond_not, cond_dec, inc1 (show i ≤ 100000000 by omega), inc2 (show i ≤ 100000000 by omega), show (123 : UInt8).toNat = 123 from rfl, show (125 : UInt8).toNat = 125 from rfl]
  by_cases d1 : Qu.bt s.data.toList i = 123
  · have hp : i < s.size := by rw [← hl]; exact Sl.bt_in (by omega)
    rw [if_pos d1, if_neg (show ¬ Qu.bt s.data.toList i ≠ 123 by omega)]
    by_cases d2 : Qu.bt s.data.toList (i + 1) = 125
    · rw [if_pos ⟨d1, d2⟩, if_pos d2]; rfl
    · rw [if_neg (show ¬ (Qu.bt s.data.toList i = 123 ∧ Qu.bt s.data.toList (i + 1) = 125) from fun h => d2 h.2), if_neg d2]
      exact stake_from hN hs N (s.size + 1) (i + 1) [] (by omega) (by omega) (by omega) (by simp)
  · rw [if_neg d1, if_pos d1]
    exact swrong_p (by omega)
theorem rstake_p {N : Nat} (hN : 200000 ≤ N) (hs : s.size ≤ 90000) (p : Int) : r23_Take_g N s p = some (takeVS (Sl.take s.data.toList p)) := by
  unfold r23_Take_g Sl.take
  have hl := size_list s
  simp only [cm_lss, cm_gtr, cond_not, cond_dec, ite_or, sl_eq, Option.bind_some, hl]
  by_cases c : p < 0 ∨ (s.size : Int) < p
  · rw [if_pos c, if_pos c]; rfl
  obtain ⟨i, rfl⟩ : ∃ i : Nat, p = i := ⟨p.toNat, by omega⟩
  rw [if_neg c, if_neg c, Int.toNat_natCast]
  have q1 : r23_is_g s (i : Int) 123 = _ := rsis_p (s := s) (i := i) (b := 123) (by decide)
  have q2 : r23_is_g s ((i + 1 : Nat) : Int) 125 = _ := rsis_p (s := s) (i := i + 1) (b := 125) (by decide)
  simp only [q1, q2, Option.bind_some, cond_not, cond_dec, inc1 (show i ≤ 100000000 by omega), inc2 (show i ≤ 100000000 by omega)]
  by_cases d1 : Qu.bt s.data.toList i = 123
  · have hp : i < s.size := by rw [← hl]; exact Sl.bt_in (by omega)
    rw [if_pos d1, if_neg (show ¬ Qu.bt s.data.toList i ≠ 123 by omega)]
    by_cases d2 : Qu.bt s.data.toList (i + 1) = 125
    · rw [if_pos d2, if_pos d2]; rfl
    · rw [if_neg d2, if_neg d2]
      exact rstake_from hN hs N (s.size + 1) (i + 1) [] (by omega) (by omega) (by omega) (by simp)
  · rw [if_neg d1, if_pos d1]
    exact rsother_p
def parseVS (g : List Mt.M × Int × Nat) : List GMatcher × GFault := (g.1.map ofM, ⟨g.2.1, (g.2.2 : Int)⟩)
theorem loop_ne (l : List UInt8) : ∀ (f : Nat) (out : List Mt.M) (i : Nat) (e : Int) (p : Nat), Sl.loop l f out i = .bad e p → e ≠ 0 := by
  have ho : ∀ q e p, Sl.other l q = .bad e p → e ≠ 0 := fun q e p h => by unfold Sl.other at h; split at h <;> (cases h; decide)
  intro f
  induction f with
  | zero => intro out i e p h; rw [Sl.loop] at h; cases h; decide
  | succ f ih =>
    intro out i e p h
    rw [Sl.loop] at h
    split at h
    · cases h; decide
    · cases hm : Mt.take l i with
      | bad e' p' => rw [hm] at h; cases h; exact mtake_ne hm
      | ok x q =>
        rw [hm] at h
        dsimp only at h
        split at h
        · cases h
        · split at h
          · exact ho _ _ _ h
          · split at h
            · exact ho _ _ _ h
            · exact ih _ _ _ _ h
theorem loop_len (l : List UInt8) : ∀ (f : Nat) (out : List Mt.M) (i : Nat) (r : List Mt.M) (p : Nat), Sl.loop l f out i = .ok r p → r.length ≤ out.length + f ∧ p ≤ l.length := by
  have ho : ∀ q r p, Sl.other l q = .ok r p → False := fun q e p h => by unfold Sl.other at h; split at h <;> cases h
  intro f
  induction f with
  | zero => intro out i r p h; rw [Sl.loop] at h; cases h
  | succ f ih =>
    intro out i r p h
    rw [Sl.loop] at h
    split at h
    · cases h
    · cases hm : Mt.take l i with
      | bad e' p' => rw [hm] at h; cases h
      | ok x q =>
        rw [hm] at h
        dsimp only at h
        split at h
        · rename_i d
          cases h
          have := Sl.bt_in (s := l) (p := q) (by omega)
          simp; omega
        · split at h
          · exact (ho _ _ _ h).elim
          · split at h
            · exact (ho _ _ _ h).elim
            · have := ih _ _ _ _ h
              simp at this; omega
theorem stake_ne {l : List UInt8} {a e : Int} {p : Nat} (h : Sl.take l a = .bad e p) : e ≠ 0 := by
  unfold Sl.take at h
  split at h
  · cases h; decide
  · split at h
    · unfold Sl.other at h; split at h <;> (cases h; decide)
    · split at h
      · cases h
      · exact loop_ne _ _ _ _ _ _ h
theorem stake_len {l : List UInt8} {a : Int} {r : List Mt.M} {p : Nat} (h : Sl.take l a = .ok r p) : r.length ≤ l.length + 1 ∧ p ≤ l.length := by
  unfold Sl.take at h
  split at h
  · cases h
  · split at h
    · unfold Sl.other at h; split at h <;> cases h
    · split at h
      · rename_i d
        cases h
        have := Sl.bt_in (s := l) (p := a.toNat + 1) (by omega)
        simp; omega
      · have := loop_len _ _ _ _ _ _ h
        simpa using this
theorem sparse_p {N : Nat} (hN : 200000 ≤ N) (hs : s.size ≤ 90000) : selector_Parse_g N s = some (parseVS (Sl.parse s.data.toList)) := by
  unfold selector_Parse_g Sl.parse
  rw [stake_p hN hs, Option.bind_some]
  cases h : Sl.take s.data.toList 0 with
  | bad e p =>
    have := stake_ne h
    simp only [takeVS, cm_neq, cond_not, cond_dec, this, if_false]; rfl
  | ok r p =>
    have hl := size_list s
    have hp := (stake_len h).2
    rw [hl] at hp
    simp only [takeVS, cm_neq, cm_lss, cond_not, cond_dec, if_true, sl_eq]
    rw [hl]
    by_cases c : p < s.size
    · rw [if_pos (by omega), if_pos c]
      unfold selector_wrong_g
      rw [cm_geq, cond_dec, sl_eq, if_neg (by omega)]; rfl
    · rw [if_neg (by omega), if_neg c]; rfl
theorem rsparse_p {N : Nat} (hN : 200000 ≤ N) (hs : s.size ≤ 90000) : r23_Parse_g N s = some (parseVS (Sl.parse s.data.toList)) := by
  unfold r23_Parse_g Sl.parse
  rw [rstake_p hN hs, Option.bind_some]
  cases h : Sl.take s.data.toList 0 with
  | bad e p =>
    have := stake_ne h
    simp only [takeVS, cm_eql, cond_dec, this, if_false, Option.bind_some, _root_.cond_false]; rfl
  | ok r p =>
    have hl := size_list s
    simp only [takeVS, cm_eql, cm_lss, cond_dec, if_true, sl_eq, Option.bind_some]
    rw [hl]
    by_cases c : p < s.size
    · rw [if_pos (by omega), if_pos c]; rfl
    · rw [if_neg (by omega), if_neg c]; rfl
end
theorem samesel_from (l : List GMatcher) (hl : l.length ≤ 100000) : ∀ (m k : Nat), k ≤ l.length → l.length < k + m → porterbase_SameSel_l1 l l m k = some true := by
  intro m
  induction m with
  | zero => intro k h1 h2; omega
  | succ m ih =>
    intro k h1 h2
    rw [porterbase_SameSel_l1, cm_lss, cond_dec, ll_eq]
    by_cases c : k < l.length
    · rw [if_pos (by omega), at_get c, inc1 (by omega)]
      simp only [Option.bind_some, conj3, seql_self, eql_self, Bool.and_self, Bool.not_true, _root_.cond_false]
      exact ih (k + 1) (by omega) (by omega)
    · rw [if_neg (by omega)]
theorem samesel_p {N : Nat} (l : List GMatcher) (hl : l.length ≤ 100000) (hN : 100000 < N) : porterbase_SameSel_g N l l = some true := by
  unfold porterbase_SameSel_g
  rw [cm_neq, cond_not, cond_dec, ll_eq, if_pos rfl]
  exact samesel_from l hl N 0 (by omega) (by omega)
theorem bis_bytes (l : List UInt8) : Sh.bytes (Mt.ofL l) = bis l := by unfold Sh.bytes bis; rw [Mt.ofL_list]
theorem stext_from {N : Nat} (l : List GMatcher) (hl : l.length ≤ 70) (hT : ∀ x ∈ l, matcher_Text_g N x = some (Mt.ofL (Mt.text (toM x))) ∧ (Mt.text (toM x)).length ≤ 6000) : ∀ (m k : Nat) (out : List UInt8), 1 ≤ k → k ≤ l.length → l.length < k + m → out.length ≤ k * 7000 →
    selector_Text_l1 N l m k (bis out) = some (Mt.ofL (123 :: (out ++ Sl.tl (toMs (l.drop k)) ++ [125]))) := by
  intro m
  induction m with
  | zero => intro k out h0 h1 h2; omega
  | succ m ih =>
    intro k out h0 h1 h2 h3
    rw [selector_Text_l1]
    simp only [cm_lss, cm_gtr, cond_dec, ll_eq]
    by_cases c : k < l.length
    · obtain ⟨t1, t2⟩ := hT _ (List.getElem_mem c)
      have a1 : app (cI .u8) (bis out) (Sh.bytes (ByteArray.mk #[44, 32])) = some (bis (out ++ [44, 32])) := bis_app (m := [44, 32]) (by simp; omega)
      have a2 : app (cI .u8) (bis (out ++ [44, 32])) (bis (Mt.text (toM l[k]))) = some (bis ((out ++ [44, 32]) ++ Mt.text (toM l[k]))) := bis_app (by simp; omega)
      have hk : (0 : Int) < (k : Int) := by omega
      rw [if_pos (by omega), at_get c, inc1 (by omega)]
      simp only [Option.bind_some, hk, if_true, a1, t1, bis_bytes, a2]
      rw [ih (k + 1) _ (by omega) (by omega) (by omega) (by simp; omega), List.drop_eq_getElem_cons c]
      unfold toMs
      rw [List.map_cons, Sl.tl]
      simp
    · rw [if_neg (by omega), List.drop_of_length_le (by omega)]
      rw [show strB (bis out) = _ from str_map _, Option.bind_some]
      show cond (ctB (Mt.ofL [123]) (Mt.ofL out)) (cond (ctB (ct (Mt.ofL [123]) (Mt.ofL out)) (Mt.ofL [125])) (some (ct (ct (Mt.ofL [123]) (Mt.ofL out)) (Mt.ofL [125]))) none) none = _
      rw [ofL_ctB (by simp; omega), ofL_ct, ofL_ctB (by simp; omega), ofL_ct]
      simp [toMs, Sl.tl]
theorem stext_p {N : Nat} (hN : 100 ≤ N) (l : List GMatcher) (hl : l.length ≤ 70) (hT : ∀ x ∈ l, matcher_Text_g N x = some (Mt.ofL (Mt.text (toM x))) ∧ (Mt.text (toM x)).length ≤ 6000) : selector_Text_g N l = some (Mt.ofL (Sl.text (toMs l))) := by
  unfold selector_Text_g
  simp only [cm_lss, cm_gtr, cond_dec, ll_eq]
  cases l with
  | nil =>
    rw [if_neg (by simp)]
    show cond (ctB (Mt.ofL [123]) (Mt.ofL [])) (cond (ctB (ct (Mt.ofL [123]) (Mt.ofL [])) (Mt.ofL [125])) (some (ct (ct (Mt.ofL [123]) (Mt.ofL [])) (Mt.ofL [125]))) none) none = _
    rw [ofL_ctB (by simp), ofL_ct, ofL_ctB (by simp), ofL_ct]; rfl
  | cons x r =>
    obtain ⟨t1, t2⟩ := hT x (by simp)
    have a1 : app (cI .u8) [] (bis (Mt.text (toM x))) = some (bis (Mt.text (toM x))) := bis_app (l := []) (by simp; omega)
    have h0 : at_ (x :: r) (0 : Int) = some x := rfl
    have i1 : ar .add .i64 (0 : Int) 1 = ((1 : Nat) : Int) := inc1 (i := 0) (by omega)
    rw [if_pos (by simp), h0, i1]
    simp only [Option.bind_some, show ¬ ((0 : Int) < 0) by decide, if_false, t1, bis_bytes, a1]
    rw [stext_from (x :: r) hl hT N 1 _ (by omega) (by simp) (by simp at hl ⊢; omega) (by omega)]
    show _ = some (Mt.ofL (Sl.text (toM x :: toMs r)))
    rw [Sl.text, Sl.body]; rfl
theorem rstext_from {N : Nat} (l : List GMatcher) (hl : l.length ≤ 70) (hT : ∀ x ∈ l, r22_Text_g N x = some (Mt.ofL (Mt.text (toM x))) ∧ (Mt.text (toM x)).length ≤ 6000) : ∀ (m k : Nat) (out : List UInt8), 1 ≤ k → k ≤ l.length → l.length < k + m → out.length ≤ k * 7000 →
    r23_Text_l1 N l m (Mt.ofL out) k = some (Mt.ofL (out ++ Sl.tl (toMs (l.drop k)) ++ [125])) := by
  intro m
  induction m with
  | zero => intro k out h0 h1 h2; omega
  | succ m ih =>
    intro k out h0 h1 h2 h3
    rw [r23_Text_l1]
    simp only [cm_lss, cm_gtr, cond_dec, ll_eq]
    by_cases c : k < l.length
    · obtain ⟨t1, t2⟩ := hT _ (List.getElem_mem c)
      have hk : (0 : Int) < (k : Int) := by omega
      rw [if_pos (by omega), at_get c, inc1 (by omega), show (ByteArray.mk #[44, 32]) = Mt.ofL [44, 32] from rfl, ofL_ctB (by simp; omega), ofL_ct]
      simp only [Option.bind_some, hk, if_true, _root_.cond_true, t1]
      rw [ofL_ctB (by simp; omega), ofL_ct, _root_.cond_true, ih (k + 1) _ (by omega) (by omega) (by omega) (by simp; omega), List.drop_eq_getElem_cons c]
      unfold toMs
      rw [List.map_cons, Sl.tl]
      simp
    · rw [if_neg (by omega), List.drop_of_length_le (by omega), show (ByteArray.mk #[125]) = Mt.ofL [125] from rfl, ofL_ctB (by simp; omega), ofL_ct]
      simp [toMs, Sl.tl]
theorem rstext_p {N : Nat} (hN : 100 ≤ N) (l : List GMatcher) (hl : l.length ≤ 70) (hT : ∀ x ∈ l, r22_Text_g N x = some (Mt.ofL (Mt.text (toM x))) ∧ (Mt.text (toM x)).length ≤ 6000) : r23_Text_g N l = some (Mt.ofL (Sl.text (toMs l))) := by
  unfold r23_Text_g
  obtain ⟨N', rfl⟩ : ∃ k, N = k + 1 := ⟨N - 1, by omega⟩
  rw [show (ByteArray.mk #[123]) = Mt.ofL [123] from rfl, r23_Text_l1]
  simp only [cm_lss, cm_gtr, cond_dec, ll_eq]
  cases l with
  | nil =>
    rw [if_neg (by simp), show (ByteArray.mk #[125]) = Mt.ofL [125] from rfl, ofL_ctB (by simp), ofL_ct]; rfl
  | cons x r =>
    obtain ⟨t1, t2⟩ := hT x (by simp)
    have h0 : at_ (x :: r) (0 : Int) = some x := rfl
    have i1 : ar .add .i64 (0 : Int) 1 = ((1 : Nat) : Int) := inc1 (i := 0) (by omega)
    rw [if_pos (by simp), h0, i1]
    simp only [Option.bind_some, show ¬ ((0 : Int) < 0) by decide, if_false, t1]
    rw [ofL_ctB (by simp; omega), ofL_ct, _root_.cond_true, rstext_from (x :: r) hl hT N' 1 _ (by omega) (by simp) (by simp at hl ⊢; omega) (by simp; omega)]
    show _ = some (Mt.ofL (Sl.text (toM x :: toMs r)))
    rw [Sl.text, Sl.body]
    simp [toMs]
theorem selreads_g {N : Nat} (hN : 200000 ≤ N) (hW : l23_works_g N = some true) (hT : ∀ g : GMatcher, g.Value.size ≤ 1200 → g.Name.size ≤ 100 → matcher_Text_g N g = some (Mt.ofL (Mt.text (toM g))) ∧ r22_Text_g N g = some (Mt.ofL (Mt.text (toM g))) ∧ (Mt.text (toM g)).length ≤ 6000) (l : List GMatcher) (s : ByteArray) (p : Int) : l23_SelectorReads_g N l s p = some true := by
  unfold l23_SelectorReads_g
  obtain ⟨b, h1, h2⟩ := sgreat_p (N := N) (by omega) l []
  rw [h1, hW, Option.bind_some]
  cases b with
  | true => rfl
  | false =>
    obtain ⟨z1, z2, z3⟩ := h2 rfl
    rw [_root_.cond_false, Option.bind_some, cm_gtr, cond_dec, sl_eq]
    by_cases c : (600 : Int) < s.size
    · rw [if_pos c]; rfl
    rw [if_neg c, sparse_p hN (by omega), rsparse_p hN (by omega), stake_p hN (by omega), rstake_p hN (by omega)]
    have hl := size_list s
    have k1 : (parseVS (Sl.parse s.data.toList)).1.length ≤ 100000 := by
      unfold parseVS Sl.parse
      cases h : Sl.take s.data.toList 0 with
      | bad e p => simp
      | ok r q =>
        have := (stake_len h).1
        dsimp only
        split
        · simp
        · simp; omega
    have k2 : (takeVS (Sl.take s.data.toList p)).1.length ≤ 100000 := by
      cases h : Sl.take s.data.toList p with
      | bad e p => simp [takeVS]
      | ok r q =>
        have := (stake_len h).1
        simp [takeVS]; omega
    rw [stext_p (by omega) l z1 (fun x hx => by have := hT x (z3 x hx).1 (z3 x hx).2.1; exact ⟨this.1, this.2.2⟩), rstext_p (by omega) l z1 (fun x hx => by have := hT x (z3 x hx).1 (z3 x hx).2.1; exact ⟨this.2.1, this.2.2⟩)]
    simp only [Option.bind_some, seql_self, eql_self, conj2, Bool.and_self, _root_.cond_true, samesel_p _ k1 (show 100000 < N by omega), samesel_p _ k2 (show 100000 < N by omega)]
theorem selreads_p (l : List GMatcher) (s : ByteArray) (p : Int) : l23_SelectorReads_g 200000 l s p = some true := selreads_g (Nat.le_refl _) sworks_p (fun g h1 h2 => mtext_p g h1 h2) l s p
end Pl
end Go.Proofs.YtpplemjjeefpdaaGreatDoor
namespace Go.Proofs.YtpplemjjeefpdaaGreatDoor
open Go Go.RowKit
set_option linter.unusedVariables false
set_option linter.unusedSimpArgs false
set_option maxRecDepth 100000
set_option maxHeartbeats 4000000
open Ab Sh
namespace Gn
theorem r22_is_w {p0 : ByteArray} {p1 : Int} {p2 : Int} {r : Bool} (h : r22_is_g p0 p1 p2 = some r) : FunS Tryz.prog 64 [fS p0, fI .i64 p1, fI .u8 p2] (r22_is_s rw) r := by
  refine fun_w lay_ok Tryz.call64 Tryz.func64 rfl ?_
  intro A W E Q R hE hR hf hQ; rcases W with ⟨ar, cm, conj, cv, sl, sc, ct, sa, ss, ll, _, _, _, _, mi, mx, _, _, _⟩
  unfold r22_is_g at h
  rw [q_cm hE, q_sl hE, q_sa hE] at h
  cbv
  refine L_rgJ hE lay_ok h 0 (fun j1 : Bool => [(6, fB j1)]) (fun j1 => []) (fun j1 h => ?_) (fun j1 h => ?_) <;> cbv
  · refine L_if hE h (fun h => ?_) (fun h => ?_) <;> cbv
    · refine L_sin hE h fun h => ?_
      cases h; (cbv; (try simp only [e_rnil hR]); repeat' (first | exact trivial | exact rfl | exact Or.inr trivial | apply And.intro))
    cases h; (cbv; (try simp only [e_rnil hR]); repeat' (first | exact trivial | exact rfl | exact Or.inr trivial | apply And.intro))
  exact And.left (hQ _ _ _ rfl rfl (by cases h; subst hR; rfl))
theorem r22_Op_w {p0 : ByteArray} {p1 : Int} {r : Int} (h : r22_Op_g p0 p1 = some r) : FunS Tryz.prog 63 [fS p0, fI .i64 p1] (r22_Op_s rw) r := by
  refine fun_w lay_ok Tryz.call63 Tryz.func63 rfl ?_
  intro A W E Q R hE hR hf hQ; rcases W with ⟨ar, cm, conj, cv, sl, sc, ct, sa, ss, ll, _, _, _, _, mi, mx, _, _, _⟩
  unfold r22_Op_g at h
  rw [q_ar hE] at h
  cbv
  refine L_rgJ hE lay_ok h 0 (fun j1 : Bool => [(13, fB j1)]) (fun j1 => []) (fun j1 h => ?_) (fun j1 h => ?_) <;> cbv
  · refine L_call hE hR h (fun _ e => r22_is_w e) rfl rfl fun a1 h => ?_; cbv
    refine L_if hE h (fun h => ?_) (fun h => ?_) <;> cbv
    · refine L_call hE hR h (fun _ e => r22_is_w e) rfl rfl fun a2 h => ?_; cbv
      cases h; (cbv; (try simp only [e_rnil hR]); repeat' (first | exact trivial | exact rfl | exact Or.inr trivial | apply And.intro))
    cases h; (cbv; (try simp only [e_rnil hR]); repeat' (first | exact trivial | exact rfl | exact Or.inr trivial | apply And.intro))
  refine L_if hE h (fun h => ?_) (fun h => ?_) <;> cbv
  · exact And.left (hQ _ _ _ rfl rfl (by cases h; subst hR; rfl))
  refine L_call hE hR h (fun _ e => r22_is_w e) rfl rfl fun a3 h => ?_; cbv
  refine L_if hE h (fun h => ?_) (fun h => ?_) <;> cbv
  · exact And.left (hQ _ _ _ rfl rfl (by cases h; subst hR; rfl))
  refine L_rgJ hE lay_ok h 0 (fun j2 : Bool => [(25, fB j2)]) (fun j2 => []) (fun j2 h => ?_) (fun j2 h => ?_) <;> cbv
  · refine L_call hE hR h (fun _ e => r22_is_w e) rfl rfl fun a4 h => ?_; cbv
    refine L_if hE h (fun h => ?_) (fun h => ?_) <;> cbv
    · refine L_call hE hR h (fun _ e => r22_is_w e) rfl rfl fun a5 h => ?_; cbv
      cases h; (cbv; (try simp only [e_rnil hR]); repeat' (first | exact trivial | exact rfl | exact Or.inr trivial | apply And.intro))
    cases h; (cbv; (try simp only [e_rnil hR]); repeat' (first | exact trivial | exact rfl | exact Or.inr trivial | apply And.intro))
  refine L_if hE h (fun h => ?_) (fun h => ?_) <;> cbv
  · exact And.left (hQ _ _ _ rfl rfl (by cases h; subst hR; rfl))
  refine L_rgJ hE lay_ok h 0 (fun j3 : Bool => [(34, fB j3)]) (fun j3 => []) (fun j3 h => ?_) (fun j3 h => ?_) <;> cbv
  · refine L_call hE hR h (fun _ e => r22_is_w e) rfl rfl fun a6 h => ?_; cbv
    refine L_if hE h (fun h => ?_) (fun h => ?_) <;> cbv
    · refine L_call hE hR h (fun _ e => r22_is_w e) rfl rfl fun a7 h => ?_; cbv
      cases h; (cbv; (try simp only [e_rnil hR]); repeat' (first | exact trivial | exact rfl | exact Or.inr trivial | apply And.intro))
    cases h; (cbv; (try simp only [e_rnil hR]); repeat' (first | exact trivial | exact rfl | exact Or.inr trivial | apply And.intro))
  refine L_if hE h (fun h => ?_) (fun h => ?_) <;> cbv
  · exact And.left (hQ _ _ _ rfl rfl (by cases h; subst hR; rfl))
  exact And.left (hQ _ _ _ rfl rfl (by cases h; subst hR; rfl))
theorem r22_Sign_w {p0 : Int} {r : ByteArray} (h : r22_Sign_g p0 = some r) : FunS Tryz.prog 65 [fI .i64 p0] (r22_Sign_s rw) r := by
  refine fun_w lay_ok Tryz.call65 Tryz.func65 rfl ?_
  intro A W E Q R hE hR hf hQ; rcases W with ⟨ar, cm, conj, cv, sl, sc, ct, sa, ss, ll, _, _, _, _, mi, mx, _, _, _⟩
  unfold r22_Sign_g at h
  rw [q_cm hE] at h
  cbv
  refine L_if hE h (fun h => ?_) (fun h => ?_) <;> cbv
  · exact And.left (hQ _ _ _ rfl rfl (by cases h; subst hR; rfl))
  refine L_if hE h (fun h => ?_) (fun h => ?_) <;> cbv
  · exact And.left (hQ _ _ _ rfl rfl (by cases h; subst hR; rfl))
  refine L_if hE h (fun h => ?_) (fun h => ?_) <;> cbv
  · exact And.left (hQ _ _ _ rfl rfl (by cases h; subst hR; rfl))
  refine L_if hE h (fun h => ?_) (fun h => ?_) <;> cbv
  · exact And.left (hQ _ _ _ rfl rfl (by cases h; subst hR; rfl))
  exact And.left (hQ _ _ _ rfl rfl (by cases h; subst hR; rfl))
theorem r10_digit_w {p0 : Int} {r : Int} (h : r10_digit_g p0 = some r) : FunS Tryz.prog 133 [fI .u8 p0] (r10_digit_s rw) r := by
  refine fun_w lay_ok Tryz.call133 Tryz.func133 rfl ?_
  intro A W E Q R hE hR hf hQ; rcases W with ⟨ar, cm, conj, cv, sl, sc, ct, sa, ss, ll, _, _, _, _, mi, mx, _, _, _⟩
  unfold r10_digit_g at h
  rw [q_ar hE, q_cm hE, q_cv hE] at h
  cbv
  refine L_rgJ hE lay_ok h 0 (fun j1 : Bool => [(8, fB j1)]) (fun j1 => []) (fun j1 h => ?_) (fun j1 h => ?_) <;> cbv
  · refine L_if hE h (fun h => ?_) (fun h => ?_) <;> cbv
    · cases h; (cbv; (try simp only [e_rnil hR]); repeat' (first | exact trivial | exact rfl | exact Or.inr trivial | apply And.intro))
    cases h; (cbv; (try simp only [e_rnil hR]); repeat' (first | exact trivial | exact rfl | exact Or.inr trivial | apply And.intro))
  refine L_if hE h (fun h => ?_) (fun h => ?_) <;> cbv
  · exact And.left (hQ _ _ _ rfl rfl (by cases h; subst hR; rfl))
  refine L_rgJ hE lay_ok h 0 (fun j2 : Bool => [(17, fB j2)]) (fun j2 => []) (fun j2 h => ?_) (fun j2 h => ?_) <;> cbv
  · refine L_if hE h (fun h => ?_) (fun h => ?_) <;> cbv
    · cases h; (cbv; (try simp only [e_rnil hR]); repeat' (first | exact trivial | exact rfl | exact Or.inr trivial | apply And.intro))
    cases h; (cbv; (try simp only [e_rnil hR]); repeat' (first | exact trivial | exact rfl | exact Or.inr trivial | apply And.intro))
  refine L_if hE h (fun h => ?_) (fun h => ?_) <;> cbv
  · exact And.left (hQ _ _ _ rfl rfl (by cases h; subst hR; rfl))
  exact And.left (hQ _ _ _ rfl rfl (by cases h; subst hR; rfl))
theorem r02_Byte_w {p0 : Int} {r : ByteArray} (h : r02_Byte_g p0 = some r) : FunS Tryz.prog 134 [fI .i64 p0] (r02_Byte_s rw) r := by
  refine fun_w lay_ok Tryz.call134 Tryz.func134 rfl ?_
  intro A W E Q R hE hR hf hQ; rcases W with ⟨ar, cm, conj, cv, sl, sc, ct, sa, ss, ll, _, _, _, _, mi, mx, _, _, _⟩
  unfold r02_Byte_g at h
  rw [q_cv hE] at h
  cbv
  refine L_lit hR (e := (cI .u8)) h rfl fun l1 e h => ?_; cbv at e; rw [e]; clear e
  refine L_bok hE hR h fun s2 e h => ?_; cbv at e; rw [e]; clear e
  exact And.left (hQ _ _ _ rfl rfl (by cases h; subst hR; rfl))
end Gn
end Go.Proofs.YtpplemjjeefpdaaGreatDoor
