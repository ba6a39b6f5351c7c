/- Texts that the proof leans on. -/
import Derived.ChangeKeysEq
import Derived.WalkKit
import Derived.KernelRfl
import Derived.Lib.TrailingZeros
import Derived.Shelf.Unicode.DecodeSlow
import Derived.Laws.Tables
import Derived.Laws.MakeOwn
import Derived.Maps.AppendAt
import Derived.Laws.BytesString
import Derived.Laws.IdiomStrings
import Derived.Laws.StructEq
import Derived.Lib.OthersKept
import Derived.Lib.AppendStr
import Derived.Laws.CopyRow
import Derived.Still
import Derived.StillTail
import Derived.LoopN
import Derived.Test.YtpplemjjeefpdaaGreatDoorProg
import Derived.Laws.BitsAllLaws
import Derived.Below
import Derived.Calls
import Derived.Deep.Draws
import Derived.WalkSpells
import Derived.Deep.QuietTactic
import Derived.BigQuiet
import Derived.BigRegion
import Derived.RegionTactic
import Derived.WalkLawsBesides
import Derived.Shelf.Spec.TrailingZeros
import Derived.Defers
import Derived.Recover
import Derived.Laws.Pointers
import Derived.Lib.Builder
import Derived.Lib.UnsafeStr
import Derived.Shelf.RegionOpenPlain
import Derived.Laws.Externs
import Derived.Shelf.Small.Bits
import Derived.Shelf.Small.Strs
import Derived.Shelf.Strconv.Itoa0
import Derived.Shelf.Strings.Search1
import Derived.Shelf.Sort.Plain
import Derived.Shelf.Unicode.Decode
import Derived.Shelf.Unicode.DecodeAny
import Derived.Shelf.Slices.CompactS
import Derived.Ground.Names2Prog
import Derived.Shelf.Slices.SearchI
import Derived.Shelf.Slices.Cells
import Derived.Shelf.Slices.In.SortNone
import Derived.Lib.DecodeN
import Derived.Test.YtpplemjjeefpdaaGreatDoorK130
import Derived.Test.YtpplemjjeefpdaaGreatDoorK143
import Derived.Test.YtpplemjjeefpdaaGreatDoorK129
import Derived.Test.YtpplemjjeefpdaaGreatDoorK128
import Derived.Test.YtpplemjjeefpdaaGreatDoorK127
import Derived.Test.YtpplemjjeefpdaaGreatDoorK123
import Derived.Test.YtpplemjjeefpdaaGreatDoorK114
import Derived.Test.YtpplemjjeefpdaaGreatDoorK113
import Derived.Test.YtpplemjjeefpdaaGreatDoorK112
import Derived.Test.YtpplemjjeefpdaaGreatDoorK111
import Derived.Test.YtpplemjjeefpdaaGreatDoorK110
import Derived.Test.YtpplemjjeefpdaaGreatDoorK109
import Derived.Test.YtpplemjjeefpdaaGreatDoorK108
import Derived.Test.YtpplemjjeefpdaaGreatDoorK107
import Derived.Test.YtpplemjjeefpdaaGreatDoorK106
import Derived.Test.YtpplemjjeefpdaaGreatDoorK105
import Derived.Test.YtpplemjjeefpdaaGreatDoorK104
import Derived.Test.YtpplemjjeefpdaaGreatDoorK103
import Derived.Test.YtpplemjjeefpdaaGreatDoorK102
import Derived.Test.YtpplemjjeefpdaaGreatDoorK101
import Derived.Test.YtpplemjjeefpdaaGreatDoorK122
import Derived.Test.YtpplemjjeefpdaaGreatDoorK121
import Derived.Test.YtpplemjjeefpdaaGreatDoorK120
import Derived.Test.YtpplemjjeefpdaaGreatDoorK117
import Derived.Test.YtpplemjjeefpdaaGreatDoorK115
import Derived.Test.YtpplemjjeefpdaaGreatDoorK116
import Derived.Test.YtpplemjjeefpdaaGreatDoorK119
import Derived.Test.YtpplemjjeefpdaaGreatDoorK118
import Derived.Test.YtpplemjjeefpdaaGreatDoorK126
import Derived.Test.YtpplemjjeefpdaaGreatDoorK125
import Derived.Test.YtpplemjjeefpdaaGreatDoorK124
import Derived.Sort.Walk0
import Derived.Test.YtpplemjjeefpdaaGreatDoorK131
namespace Go.Proofs.YtpplemjjeefpdaaGreatDoor
open Go
set_option linter.unusedVariables false
set_option linter.unusedSimpArgs false
set_option maxRecDepth 10000
open Sh Gn
namespace Pl
theorem ite_to {p : Prop} [Decidable p] : (if p then some true else some false) = some (decide p) := by by_cases p <;> simp_all
theorem rdig_p {c : Nat} (h : c < 256) : r10_digit_g (c : Int) = some (if Qu.dig c = 16 then -1 else (Qu.dig c : Int)) := by
  unfold r10_digit_g
  rw [cv_i64 (by omega) (by omega)]
  simp only [cm_geq, cm_leq, cond_dec, ite_and, Option.bind_some]
  by_cases a : 48 ≤ c ∧ c ≤ 57
  · have e : Qu.dig c = c - 48 := by unfold Qu.dig; rw [if_pos a]
    rw [if_pos (by omega), if_neg (by omega), ar_sub (by omega) (by omega), e]
    congr 1; omega
  · rw [if_neg (by omega)]
    by_cases b : 97 ≤ c ∧ c ≤ 102
    · have e : Qu.dig c = c - 87 := by unfold Qu.dig; rw [if_neg a, if_pos b]
      rw [if_pos (by omega), if_neg (by omega), ar_sub (by omega) (by omega), e]
      congr 1; omega
    · have e : Qu.dig c = 16 := by unfold Qu.dig; rw [if_neg a, if_neg b]
      rw [if_neg (by omega), if_pos e]
theorem str_map (l : List UInt8) : strB (l.map fun b => (b.toNat : Int)) = some ⟨l.toArray⟩ := by
  have h1 : bokB (l.map fun b => (b.toNat : Int)) = true := by
    unfold bokB
    rw [List.all_eq_true]
    intro x hx
    obtain ⟨b, _, rfl⟩ := List.mem_map.1 hx
    have := b.toNat_lt
    simp; omega
  unfold strB
  rw [if_pos h1]
  unfold ofBytes
  rw [List.map_map]
  congr 2
  conv => rhs; rw [← List.map_id l]
  congr 1
  apply List.map_congr_left
  intro b _
  show UInt8.ofNat ((b.toNat : Int)).toNat = b
  rw [Int.toNat_natCast, UInt8.ofNat_toNat]
theorem byte_p {n : Nat} (h : n < 256) : r02_Byte_g (n : Int) = some ⟨#[UInt8.ofNat n]⟩ := by
  unfold r02_Byte_g
  have e : cv .u8 (n : Int) = (((UInt8.ofNat n).toNat : Nat) : Int) := by
    show IntKind.u8.wrap _ = _
    rw [IntKind.wrap_u8, UInt8.toNat_ofNat']
    omega
  rw [e]
  have := str_map [UInt8.ofNat n]
  simp only [List.map_cons, List.map_nil] at this
  rw [Option.bind_some, this]; rfl
section
variable {s : ByteArray} {i : Nat}
theorem trail_from {p n : Int} (hs : s.size ≤ 100000) : ∀ (m q r : Nat), r < m → q + r ≤ s.size → ar .add .i64 p n = ((q + r : Nat) : Int) → r10_trail_l1 s p n m q = some (decide (trailB s.data.toList q r)) := by
  intro m
  induction m with
  | zero => intro q r h; omega
  | succ m ih =>
    intro q r h1 h2 h3
    unfold r10_trail_l1
    rw [h3, cm_lss, cond_dec]
    cases r with
    | zero => rw [if_neg (by omega)]; rfl
    | succ r =>
      rw [if_pos (by omega), sin_in (by omega), inc1 (by omega)]
      simp only [_root_.cond_true, cm_lss, cm_gtr, cond_dec, sa_bt, ite_or, Option.bind_some]
      rw [ih (q + 1) r (by omega) (by omega) (by rw [h3]; congr 1; omega)]
      by_cases g : 128 ≤ Qu.bt s.data.toList q ∧ Qu.bt s.data.toList q ≤ 191
      · rw [if_neg (by omega)]
        congr 1
        exact decide_eq_decide.2 ⟨fun h => ⟨g, h⟩, fun h => h.2⟩
      · rw [if_pos (by omega)]
        congr 1
        exact (decide_eq_false fun h => g h.1).symm
theorem trail_p {N p n : Nat} (hN : 20 ≤ N) (hn : n ≤ 3) (hs : s.size ≤ 100000) (hp : p ≤ s.size) : r10_trail_g N s p n = some (decide (n ≤ s.size - p ∧ trailB s.data.toList p n)) := by
  unfold r10_trail_g
  rw [cm_gtr, cond_dec, sl_eq, ar_sub (by omega) (by omega)]
  by_cases c : n ≤ s.size - p
  · rw [if_neg (by omega), trail_from hs N p n (by omega) (by omega) (by rw [ar_add (by omega) (by omega)]; omega)]
    congr 1
    exact decide_eq_decide.2 ⟨fun h => ⟨c, h⟩, fun h => h.2⟩
  · rw [if_pos (by omega)]
    congr 1
    exact (decide_eq_false fun h => c h.1).symm
theorem rrune_p {N : Nat} (hN : 20 ≤ N) (hs : s.size ≤ 100000) (hi : i < s.size) : r10_Rune_g N s i = some (Qu.rune s.data.toList i : Int) := by
  unfold r10_Rune_g Qu.rune
  have b0 := Qu.bt_lt s.data.toList i
  have b1 := Qu.bt_lt s.data.toList (i + 1)
  have t1 : r10_trail_g N s ((i + 1 : Nat) : Int) 1 = some (decide (1 ≤ s.size - (i + 1) ∧ trailB s.data.toList (i + 1) 1)) := trail_p (n := 1) hN (by omega) hs (by omega)
  have t2 : r10_trail_g N s ((i + 1 : Nat) : Int) 2 = some (decide (2 ≤ s.size - (i + 1) ∧ trailB s.data.toList (i + 1) 2)) := trail_p (n := 2) hN (by omega) hs (by omega)
  have t3 : r10_trail_g N s ((i + 1 : Nat) : Int) 3 = some (decide (3 ≤ s.size - (i + 1) ∧ trailB s.data.toList (i + 1) 3)) := trail_p (n := 3) hN (by omega) hs (by omega)
  have ej : (cond (cm .lss ((i + 1 : Nat) : Int) (sl s)) (cond (sinB s ((i + 1 : Nat) : Int)) (some (cv .i64 (sa s ((i + 1 : Nat) : Int)))) none) (some 0)) = some (Qu.bt s.data.toList (i + 1) : Int) := by
    rw [cm_lss, cond_dec, sl_eq]
    by_cases c : i + 1 < s.size
    · rw [if_pos (by omega), sin_in c, _root_.cond_true, sa_bt, cv_i64 (by omega) (by omega)]
    · rw [if_neg (by omega)]
      unfold Qu.bt
      rw [List.getElem?_eq_none (by rw [size_list]; omega)]; rfl
  have ec : cv .i64 (sa s (i : Int)) = (Qu.bt s.data.toList i : Int) := by rw [sa_bt, cv_i64 (by omega) (by omega)]
  rw [inc1 (show i ≤ 100000000 by omega), ej, ec, t1, t2, t3, sin_in hi, size_list]
  simp only [_root_.cond_true, cm_lss, cm_leq, cm_geq, cm_neq, cond_dec, Option.bind_some, not_dec, ite_and, ite_or, ite_gen, bind_self, trailB, and_true]
  generalize Qu.bt s.data.toList i = x0 at *
  generalize Qu.bt s.data.toList (i + 1) = x1 at *
  have e2 : i + 1 + 1 = i + 2 := rfl
  have e3 : i + 1 + 1 + 1 = i + 3 := rfl
  rw [e3, e2]
  generalize Qu.bt s.data.toList (i + 2) = x2
  generalize Qu.bt s.data.toList (i + 3) = x3
  unfold Qu.runeN
  by_cases c1 : x0 < 128
  · rw [if_pos (by omega), if_pos c1]; rfl
  rw [if_neg (by omega), if_neg c1]
  by_cases c2 : 194 ≤ x0 ∧ x0 ≤ 223 ∧ 1 < s.size - i ∧ 128 ≤ x1 ∧ x1 ≤ 191
  · rw [if_pos (by omega), if_pos c2]; rfl
  rw [if_neg (by omega), if_neg c2]
  by_cases c3 : 224 ≤ x0 ∧ x0 ≤ 239 ∧ (2 < s.size - i ∧ 128 ≤ x1 ∧ x1 ≤ 191 ∧ 128 ≤ x2 ∧ x2 ≤ 191) ∧ (x0 ≠ 224 ∨ 160 ≤ x1) ∧ (x0 ≠ 237 ∨ x1 < 160)
  · rw [if_pos (by omega), if_pos c3]; rfl
  rw [if_neg (by omega), if_neg c3]
  by_cases c4 : 240 ≤ x0 ∧ x0 ≤ 244 ∧ (3 < s.size - i ∧ 128 ≤ x1 ∧ x1 ≤ 191 ∧ 128 ≤ x2 ∧ x2 ≤ 191 ∧ 128 ≤ x3 ∧ x3 ≤ 191) ∧ (x0 ≠ 240 ∨ 144 ≤ x1) ∧ (x0 ≠ 244 ∨ x1 < 144)
  · rw [if_pos (by omega), if_pos c4]; rfl
  rw [if_neg (by omega), if_neg c4]; rfl
theorem rsafe_p {N : Nat} (hN : 20 ≤ N) (hs : s.size ≤ 100000) (hi : i < s.size) : r10_safe_g N s i = some (Qu.safe s.data.toList i) := by
  unfold r10_safe_g Qu.safe
  rw [rrune_p hN hs hi, sin_in hi, sa_bt]
  simp only [_root_.cond_true, cm_gtr, cm_geq, cm_neq, not_dec, cond_dec, Option.bind_some, ite_and, bind_self]
  congr 1
  rw [← Bool.decide_and, ← Bool.decide_and]
  exact decide_eq_decide.2 (by omega)
def escR (e : Qu.Esc) : ByteArray × Int := match e with | .ok b n => (⟨#[UInt8.ofNat b]⟩, (n : Int)) | .bad e => (ByteArray.empty, if e = 1 then -1 else 0)
theorem resc_p (hs : s.size ≤ 100000) (hi : i ≤ s.size) : r10_Escape_g s i = some (escR (Qu.esc s.data.toList i)) := by
  unfold r10_Escape_g Qu.esc
  have b1 := Qu.bt_lt s.data.toList (i + 1)
  have b2 := Qu.bt_lt s.data.toList (i + 2)
  have b3 := Qu.bt_lt s.data.toList (i + 3)
  have e1 := inc (show i ≤ 100000000 by omega) 1 (by omega)
  have e2 := inc (show i ≤ 100000000 by omega) 2 (by omega)
  have e3 := inc (show i ≤ 100000000 by omega) 3 (by omega)
  have e1 : ar .add .i64 (i : Int) 1 = ((i + 1 : Nat) : Int) := e1
  have e2 : ar .add .i64 (i : Int) 2 = ((i + 2 : Nat) : Int) := e2
  have e3 : ar .add .i64 (i : Int) 3 = ((i + 3 : Nat) : Int) := e3
  have es : ar .sub .i64 (s.size : Int) (i : Int) = (s.size : Int) - i := ar_sub (by omega) (by omega)
  simp only [sl_eq, es, e1, e2, e3, cm_lss, cm_eql, cm_neq, cond_not, cond_dec, sa_bt, size_list, rdig_p b2, rdig_p b3, Option.bind_some]
  by_cases c : s.size < i + 2
  · have c' : (s.size : Int) - i < 2 := by omega
    simp only [c, c', if_true]; rfl
  have c' : ¬ (s.size : Int) - i < 2 := by omega
  simp only [c, c', if_false, sin_in (show i + 1 < s.size by omega), _root_.cond_true, ite_or, Option.bind_some, cond_dec]
  by_cases d1 : Qu.bt s.data.toList (i + 1) = 34 ∨ Qu.bt s.data.toList (i + 1) = 92
  · have d1' : (Qu.bt s.data.toList (i + 1) : Int) = 34 ∨ (Qu.bt s.data.toList (i + 1) : Int) = 92 := by omega
    simp only [d1, d1', if_true, ssin_nat (s := s) (show i + 1 ≤ i + 2 by omega) (by omega), _root_.cond_true]
    show some (ss s ((i + 1 : Nat) : Int) ((i + 2 : Nat) : Int), (2 : Int)) = some ((⟨#[UInt8.ofNat _]⟩ : ByteArray), (2 : Int))
    congr 2
    apply ByteArray.ext
    apply Array.ext'
    rw [ss_list (by omega) (by omega), show i + 2 - (i + 1) = 1 by omega, Qu.take_byte (by rw [size_list]; omega)]
  have d1' : ¬ ((Qu.bt s.data.toList (i + 1) : Int) = 34 ∨ (Qu.bt s.data.toList (i + 1) : Int) = 92) := by omega
  simp only [d1, d1', if_false]
  by_cases d2 : Qu.bt s.data.toList (i + 1) = 120
  case neg =>
    have d2' : ¬ (Qu.bt s.data.toList (i + 1) : Int) = 120 := by omega
    simp only [d2, d2', if_false, ne_eq, not_false_eq_true, if_true]; rfl
  have d2' : (Qu.bt s.data.toList (i + 1) : Int) = 120 := by omega
  simp only [d2, d2', if_true, ne_eq, not_true_eq_false, if_false]
  by_cases c3 : s.size < i + 3
  · have c3' : (s.size : Int) - i < 3 := by omega
    simp only [c3, c3', if_true]; rfl
  have c3' : ¬ (s.size : Int) - i < 3 := by omega
  simp only [c3, c3', if_false, sin_in (show i + 2 < s.size by omega), _root_.cond_true]
  have g2 := dig_le (Qu.bt s.data.toList (i + 2))
  have g3 := dig_le (Qu.bt s.data.toList (i + 3))
  by_cases f2 : Qu.dig (Qu.bt s.data.toList (i + 2)) = 16
  · simp only [f2, if_true]; rfl
  have f2' : ¬ (Qu.dig (Qu.bt s.data.toList (i + 2)) : Int) < 0 := by omega
  simp only [f2, f2', if_false]
  by_cases c4 : s.size < i + 4
  · have c4' : (s.size : Int) - i < 4 := by omega
    simp only [c4, c4', if_true]; rfl
  have c4' : ¬ (s.size : Int) - i < 4 := by omega
  simp only [c4, c4', if_false, sin_in (show i + 3 < s.size by omega), _root_.cond_true]
  by_cases f3 : Qu.dig (Qu.bt s.data.toList (i + 3)) = 16
  · simp only [f3, if_true]; rfl
  have f3' : ¬ (Qu.dig (Qu.bt s.data.toList (i + 3)) : Int) < 0 := by omega
  simp only [f3, f3', if_false]
  have e4 : ar .add .i64 (ar .mul .i64 16 (Qu.dig (Qu.bt s.data.toList (i + 2)) : Int)) (Qu.dig (Qu.bt s.data.toList (i + 3)) : Int) = ((16 * Qu.dig (Qu.bt s.data.toList (i + 2)) + Qu.dig (Qu.bt s.data.toList (i + 3)) : Nat) : Int) := by
    rw [ar_mul (by omega) (by omega), ar_add (by omega) (by omega)]; omega
  rw [e4, byte_p (by omega)]
  rfl
end
end Pl
end Go.Proofs.YtpplemjjeefpdaaGreatDoor
namespace Go.Proofs.YtpplemjjeefpdaaGreatDoor
open Go
set_option linter.unusedVariables false
set_option linter.unusedSimpArgs false
set_option maxRecDepth 10000
open Sh Gn
namespace Pl
def gotV (g : Qu.Got) : ByteArray × Int × GFault := match g with | .ok t p => (⟨t.toArray⟩, (p : Int), ⟨0, 0⟩) | .bad e p => (ByteArray.empty, 0, ⟨(e : Int), (p : Int)⟩)
def ints (l : List UInt8) : List Int := l.map fun b => (b.toNat : Int)
theorem esc_bad {l : List UInt8} {i e : Nat} (h : Qu.esc l i = .bad e) : e = 1 ∨ e = 2 := by
  unfold Qu.esc at h
  repeat' split at h
  all_goals first | cases h | skip
  all_goals first | exact .inl rfl | exact .inr rfl
section
variable {s : ByteArray}
theorem qread_from {N : Nat} (hN : 20 ≤ N) (hs : s.size ≤ 100000) : ∀ (m i : Nat) (out : List UInt8), i ≤ s.size → s.size < i + m → out.length ≤ i → quote_Read_l1 N s m i (ints out) = some (gotV (Qu.go s.data.toList out i)) := by
  intro m
  induction m with
  | zero => intro i out h1 h2; omega
  | succ m ih =>
    intro i out h1 h2 h3
    unfold quote_Read_l1
    rw [cm_lss, cond_dec, sl_eq]
    by_cases c : i < s.size
    case neg =>
      rw [if_neg (by omega), Qu.go_end (by rw [size_list]; omega), size_list]; rfl
    rw [if_pos (by omega), Qu.go_in (by rw [size_list]; exact c)]
    have hd := dec_cp (s := s) (i := i) c
    rw [sl_eq] at hd
    have hin := ssin_end (s := s) (i := i) (by omega)
    rw [sl_eq] at hin
    have hb := Qu.bt_lt s.data.toList i
    have h34 := Qu.cp_small s.data.toList i 34 (by decide)
    have h92 := Qu.cp_small s.data.toList i 92 (by decide)
    have hu := Qu.unit_le (l := s.data.toList) (i := i) (by rw [size_list]; exact c)
    have hu1 := Qu.unit_pos s.data.toList i
    rw [size_list] at hu
    have e1 := inc1 (show i ≤ 100000000 by omega)
    have hstr : strB (ints out) = some ⟨out.toArray⟩ := str_map out
    have hesc := qesc_p (s := s) (i := i) hN hs h1
    rw [sl_eq] at hesc
    simp only [hin, _root_.cond_true, hd, Option.bind_some, cm_eql, cm_neq, cond_not, cond_dec, plain_p, hstr, hesc, e1]
    by_cases d1 : Qu.bt s.data.toList i = 34
    · have d1' : (Qu.cp s.data.toList i : Int) = 34 := by have := h34.2 d1; omega
      simp only [d1, d1', if_true]; rfl
    have d1' : ¬ (Qu.cp s.data.toList i : Int) = 34 := fun e => d1 (h34.1 (by omega))
    simp only [d1, d1', if_false]
    by_cases d2 : Qu.bt s.data.toList i = 92
    · have d2' : (Qu.cp s.data.toList i : Int) = 92 := by have := h92.2 d2; omega
      simp only [d2', if_true]
      unfold Qu.un
      rw [if_pos d2]
      cases hE : Qu.esc s.data.toList i with
      | ok b n =>
        have hb := Qu.esc_two hE
        rw [size_list] at hb
        have ea : ar .add .i64 (i : Int) (n : Int) = ((i + n : Nat) : Int) := by rw [ar_add (by omega) (by omega)]; omega
        have z1 : ¬ (0 : Int) = 1 := by decide
        have eb : ((UInt8.ofNat b).toNat : Int) = (b : Int) := by rw [UInt8.toNat_ofNat']; omega
        simp only [escI, z1, if_false, if_true, app_eq (show (ints out).length + [(b : Int)].length ≤ 1000000000 by simp [ints]; omega), Option.bind_some, ea]
        have := ih (i + n) (out ++ [UInt8.ofNat b]) hb.2.1 (by omega) (by rw [List.length_append, List.length_singleton]; omega)
        rw [← this]
        unfold ints
        rw [List.map_append, List.map_cons, List.map_nil, eb]
      | bad e =>
        have he := esc_bad hE
        simp only [escI]
        rcases he with rfl | rfl
        · show _ = some (gotV (.bad 1 s.data.toList.length))
          rw [size_list]; rfl
        · rfl
    · have d2' : ¬ (Qu.cp s.data.toList i : Int) = 92 := fun e => d2 (h92.1 (by omega))
      simp only [d2', if_false]
      unfold Qu.un
      rw [if_neg d2]
      cases g : Qu.safe s.data.toList i with
      | false =>
        simp only [cond_false, Bool.false_eq_true, if_false]; rfl
      | true =>
        have ea : ar .add .i64 (i : Int) (Qu.unit s.data.toList i : Int) = ((i + Qu.unit s.data.toList i : Nat) : Int) := by rw [ar_add (by omega) (by omega)]; omega
        have eb : Sh.bytes (ss s (i : Int) ((i + Qu.unit s.data.toList i : Nat) : Int)) = ints ((s.data.toList.drop i).take (Qu.unit s.data.toList i)) := by
          unfold Sh.bytes ints
          rw [ss_list (by omega) (by omega), Nat.add_sub_cancel_left]
        have hl : ((s.data.toList.drop i).take (Qu.unit s.data.toList i)).length = Qu.unit s.data.toList i := by
          rw [List.length_take, List.length_drop, size_list]; omega
        simp only [_root_.cond_true, if_true, ea, ssin_nat (s := s) (show i ≤ i + Qu.unit s.data.toList i by omega) hu, eb, app_eq (show (ints out).length + (ints ((s.data.toList.drop i).take (Qu.unit s.data.toList i))).length ≤ 1000000000 by simp only [ints, List.length_map, hl]; omega), Option.bind_some]
        have := ih (i + Qu.unit s.data.toList i) (out ++ (s.data.toList.drop i).take (Qu.unit s.data.toList i)) hu (by omega) (by rw [List.length_append, hl]; omega)
        rw [← this]
        unfold ints
        rw [List.map_append]
theorem rread_from {N : Nat} (hN : 20 ≤ N) (hs : s.size ≤ 100000) : ∀ (m i : Nat) (out : List UInt8), i ≤ s.size → s.size < i + m → out.length ≤ i → r10_Read_l1 N s m ⟨out.toArray⟩ i = some (gotV (Qu.go s.data.toList out i)) := by
  intro m
  induction m with
  | zero => intro i out h1 h2; omega
  | succ m ih =>
    intro i out h1 h2 h3
    unfold r10_Read_l1
    rw [cm_lss, cond_dec, sl_eq]
    by_cases c : i < s.size
    case neg =>
      rw [if_neg (by omega), Qu.go_end (by rw [size_list]; omega), size_list]; rfl
    rw [if_pos (by omega), Qu.go_in (by rw [size_list]; exact c)]
    have hb := Qu.bt_lt s.data.toList i
    have hu := Qu.unit_le (l := s.data.toList) (i := i) (by rw [size_list]; exact c)
    have hu1 := Qu.unit_pos s.data.toList i
    rw [size_list] at hu
    have e1 := inc1 (show i ≤ 100000000 by omega)
    have hcat : ∀ (t : List UInt8) (n : Nat), i + n ≤ s.size → t.length ≤ n → ctB ⟨out.toArray⟩ ⟨t.toArray⟩ = true := fun t n hn ht => by
      unfold ctB
      refine decide_eq_true ?_
      show out.toArray.size + t.toArray.size ≤ _
      rw [List.size_toArray, List.size_toArray]; omega
    have hct : ∀ t : List UInt8, ct (⟨out.toArray⟩ : ByteArray) ⟨t.toArray⟩ = ⟨(out ++ t).toArray⟩ := fun t => by
      apply ByteArray.ext
      show ((⟨out.toArray⟩ : ByteArray) ++ ⟨t.toArray⟩).data = _
      rw [ByteArray.data_append]
      simp
    simp only [sin_in c, ssin_nat (s := s) (Nat.le_refl i) h1, _root_.cond_true, sa_bt, Option.bind_some, cm_eql, cm_neq, cm_lss, cond_not, cond_dec, rsafe_p hN hs c, rrune_p hN hs c, resc_p hs h1, e1]
    by_cases d1 : Qu.bt s.data.toList i = 34
    · have d1' : (Qu.bt s.data.toList i : Int) = 34 := by omega
      simp only [d1, d1', if_true]; rfl
    have d1' : ¬ (Qu.bt s.data.toList i : Int) = 34 := by omega
    simp only [d1, d1', if_false]
    unfold Qu.un
    by_cases d2 : Qu.bt s.data.toList i = 92
    · have d2' : (Qu.bt s.data.toList i : Int) = 92 := by omega
      rw [if_pos d2]
      simp only [d2', if_true, Option.bind_some]
      cases hE : Qu.esc s.data.toList i with
      | ok b n =>
        have hb := Qu.esc_two hE
        rw [size_list] at hb
        have ea : ar .add .i64 (i : Int) (n : Int) = ((i + n : Nat) : Int) := by rw [ar_add (by omega) (by omega)]; omega
        have z1 : ¬ (n : Int) < 0 := by omega
        have z2 : ¬ (n : Int) = 0 := by omega
        have hc := hcat [UInt8.ofNat b] n hb.2.1 (by simp; omega)
        have hc2 := hct [UInt8.ofNat b]
        simp only [escR, z1, z2, if_false, ea]
        rw [show ctB (⟨out.toArray⟩ : ByteArray) ⟨#[UInt8.ofNat b]⟩ = true from hc, show ct (⟨out.toArray⟩ : ByteArray) ⟨#[UInt8.ofNat b]⟩ = _ from hc2, _root_.cond_true]
        exact ih (i + n) (out ++ [UInt8.ofNat b]) hb.2.1 (by omega) (by rw [List.length_append, List.length_singleton]; omega)
      | bad e =>
        have he := esc_bad hE
        simp only [escR]
        rcases he with rfl | rfl
        · show _ = some (gotV (.bad 1 s.data.toList.length))
          rw [size_list]; rfl
        · rfl
    · have d2' : ¬ (Qu.bt s.data.toList i : Int) = 92 := by omega
      simp only [d2, d2', if_false]
      cases g : Qu.safe s.data.toList i with
      | false =>
        have z : ¬ (0 : Int) < 0 := by decide
        simp only [cond_false, Bool.false_eq_true, if_false, Option.bind_some, z, if_true]; rfl
      | true =>
        have hr : 0 < Qu.rune s.data.toList i := by
          unfold Qu.safe at g
          simp only [Bool.and_eq_true, decide_eq_true_eq] at g
          exact g.1.1
        have hur : Qu.unit s.data.toList i = Qu.rune s.data.toList i := by unfold Qu.unit; rw [if_neg (by omega)]
        rw [hur] at hu ⊢
        have ea : ar .add .i64 (i : Int) (Qu.rune s.data.toList i : Int) = ((i + Qu.rune s.data.toList i : Nat) : Int) := by rw [ar_add (by omega) (by omega)]; omega
        have eb : ss s (i : Int) ((i + Qu.rune s.data.toList i : Nat) : Int) = ⟨((s.data.toList.drop i).take (Qu.rune s.data.toList i)).toArray⟩ := by
          apply ByteArray.ext
          apply Array.ext'
          rw [ss_list (by omega) (by omega), Nat.add_sub_cancel_left]
        have hl : ((s.data.toList.drop i).take (Qu.rune s.data.toList i)).length = Qu.rune s.data.toList i := by
          rw [List.length_take, List.length_drop, size_list]; omega
        have z1 : ¬ (Qu.rune s.data.toList i : Int) < 0 := by omega
        have z2 : ¬ (Qu.rune s.data.toList i : Int) = 0 := by omega
        simp only [_root_.cond_true, if_true, ea, ssin_nat (s := s) (show i ≤ i + Qu.rune s.data.toList i by omega) hu, eb, Option.bind_some, z1, z2, if_false, hct, hcat _ _ hu (Nat.le_of_eq hl)]
        exact ih (i + Qu.rune s.data.toList i) (out ++ (s.data.toList.drop i).take (Qu.rune s.data.toList i)) hu (by omega) (by rw [List.length_append, hl]; omega)
theorem qread_p {N : Nat} (hN : 200000 ≤ N) (hs : s.size ≤ 100000) (p : Int) : quote_Read_g N s p = some (gotV (Qu.read s.data.toList p)) := by
  unfold quote_Read_g Qu.read
  simp only [cm_lss, cm_gtr, cm_eql, cm_neq, cond_not, cond_dec, sl_eq, ite_or, Option.bind_some, size_list]
  by_cases c1 : p < 0 ∨ (s.size : Int) < p
  · rw [if_pos c1, if_pos c1]; rfl
  rw [if_neg c1, if_neg c1]
  obtain ⟨i, rfl⟩ : ∃ i : Nat, p = i := ⟨p.toNat, by omega⟩
  rw [Int.toNat_natCast]
  by_cases c2 : (i : Int) = s.size
  · rw [if_pos c2, if_pos c2]; rfl
  rw [if_neg c2, if_neg c2, sin_in (by omega), _root_.cond_true, sa_bt]
  by_cases c3 : Qu.bt s.data.toList i = 34
  · rw [if_pos (by omega), if_neg (by omega), inc1 (by omega), show s.size + 1 = s.data.toList.length + 1 by rw [size_list]]
    exact qread_from (by omega) hs N (i + 1) [] (by omega) (by omega) (by simp)
  · rw [if_neg (by omega), if_pos c3]; rfl
theorem rread_p {N : Nat} (hN : 200000 ≤ N) (hs : s.size ≤ 100000) (p : Int) : r10_Read_g N s p = some (gotV (Qu.read s.data.toList p)) := by
  unfold r10_Read_g Qu.read
  simp only [cm_lss, cm_gtr, cm_eql, cm_neq, cond_not, cond_dec, sl_eq, ite_or, Option.bind_some, size_list]
  by_cases c1 : p < 0 ∨ (s.size : Int) < p
  · rw [if_pos c1, if_pos c1]; rfl
  rw [if_neg c1, if_neg c1]
  obtain ⟨i, rfl⟩ : ∃ i : Nat, p = i := ⟨p.toNat, by omega⟩
  rw [Int.toNat_natCast]
  by_cases c2 : (i : Int) = s.size
  · rw [if_pos c2, if_pos c2]; rfl
  rw [if_neg c2, if_neg c2, sin_in (by omega), _root_.cond_true, sa_bt]
  by_cases c3 : Qu.bt s.data.toList i = 34
  · rw [if_pos (by omega), if_neg (by omega), inc1 (by omega), show s.size + 1 = s.data.toList.length + 1 by rw [size_list]]
    exact rread_from (by omega) hs N (i + 1) [] (by omega) (by omega) (by simp)
  · rw [if_neg (by omega), if_pos c3]; rfl
end
end Pl
end Go.Proofs.YtpplemjjeefpdaaGreatDoor
namespace Go.Proofs.YtpplemjjeefpdaaGreatDoor.Nm
theorem run_le (g : Int → Bool → Bool) : ∀ f l, run g f l ≤ l.length
  | _, [] => Nat.le_refl _
  | f, c :: r => by
    unfold run
    have := run_le g false r
    split <;> simp; omega
end Go.Proofs.YtpplemjjeefpdaaGreatDoor.Nm
namespace Go.Proofs.YtpplemjjeefpdaaGreatDoor
open Go Go.RowKit
set_option linter.unusedVariables false
set_option linter.unusedSimpArgs false
set_option maxRecDepth 10000
open Sh Gn
namespace Pl
section
variable {s : ByteArray}
theorem cut_from {p0 : ByteArray} {p1 : Int} {r : Nat} (hs : ss p0 p1 (sl p0) = s) (hr : runAt s true 0 = r) : ∀ (m k : Nat), k ≤ s.size → s.size < k + m → k + runAt s (k == 0) k = r →
    name_Cut_l1 p0 p1 m k = some (if r = s.size then (s, sl p0) else (ss s 0 (r : Int), ar .add .i64 p1 (r : Int))) := by
  intro m
  induction m with
  | zero => intro k h1 h2; omega
  | succ m ih =>
    intro k h1 h2 h3
    unfold name_Cut_l1 nx
    rw [hs, Int.toNat_natCast]
    by_cases c : k < s.size
    · rw [if_pos c]; dsimp only; rw [ask_p]
      rw [runAt_in c] at h3
      obtain ⟨e1, e2⟩ := dec_p (s := s) k c (k == 0)
      rw [e1] at h3
      cases g : Nm.signB (Utf8.decode s k).1 (k == 0) with
      | false =>
        rw [g] at h3
        have h3 : k = r := by simpa using h3
        have hin : ssinB s 0 (k : Int) = true := by simp [ssinB]; omega
        simp only [Option.bind_some, Bool.not_false, _root_.cond_true, hin]
        rw [h3, if_neg (by omega)]
      | true =>
        rw [g] at h3
        have h4 : (k : Int) + ((Utf8.decode s k).2 : Int) = ((k + 1 : Nat) : Int) := by rw [e2 g]; rfl
        simp only [Option.bind_some, Bool.not_true, cond_false]
        rw [h4]
        have e : (k + 1 == 0) = false := rfl
        exact ih (k + 1) (by omega) (by omega) (by rw [e]; simp only [if_true] at h3; omega)
    · rw [if_neg c]
      rw [runAt_end c] at h3
      rw [if_pos (by omega)]
end
end Pl
end Go.Proofs.YtpplemjjeefpdaaGreatDoor
namespace Go.Proofs.YtpplemjjeefpdaaGreatDoor
open Go
namespace Mt
theorem ofL_list (l : List UInt8) : (ofL l).data.toList = l := by simp [ofL]
theorem ofL_self (s : ByteArray) : ofL s.data.toList = s := by cases s; simp [ofL]
end Mt
end Go.Proofs.YtpplemjjeefpdaaGreatDoor
namespace Go.Proofs.YtpplemjjeefpdaaGreatDoor
open Go
set_option linter.unusedVariables false
set_option linter.unusedSimpArgs false
set_option maxRecDepth 10000
open Sh Gn
namespace Pl
theorem msign_p (o : Int) : matcher_sign_g o = some (Mt.ofL (Mt.sgn o)) := by
  unfold matcher_sign_g Mt.sgn
  simp only [cm_eql, cond_dec]
  by_cases c1 : o = 1
  · simp only [c1, if_true]; rfl
  by_cases c2 : o = 2
  · simp only [c1, c2, if_true, if_false]; rfl
  by_cases c3 : o = 3
  · simp only [c1, c2, c3, if_true, if_false]; rfl
  by_cases c4 : o = 4
  · simp only [c1, c2, c3, c4, if_true, if_false]; rfl
  · simp only [c1, c2, c3, c4, if_false]; rfl
theorem rsgn_p (o : Int) : r22_Sign_g o = some (Mt.ofL (Mt.sgn o)) := msign_p o
theorem prefix_p (t : ByteArray) (p : List UInt8) : strings_HasPrefix_g t (Mt.ofL p) = some (decide (t.data.toList.take p.length = p)) := by
  have hz : (Mt.ofL p).size = p.length := by rw [← size_list, Mt.ofL_list]
  unfold strings_HasPrefix_g internal_stringslite_HasPrefix_g
  rw [cm_geq, cond_dec, sl_eq, sl_eq, sc_eql, hz]
  by_cases c : p.length ≤ t.size
  · have e := ss_list (s := t) (i := 0) (j := p.length) (by omega) c
    have e : (ss t 0 (p.length : Int)).data.toList = (t.data.toList.drop 0).take (p.length - 0) := e
    have hin : ssinB t 0 (p.length : Int) = true := ssin_nat (s := t) (i := 0) (j := p.length) (by omega) c
    rw [if_pos (by omega), hin, _root_.cond_true, Option.bind_some, Option.bind_some]
    congr 1
    refine decide_eq_decide.2 ?_
    rw [ba_eq, e, Mt.ofL_list]; rfl
  · rw [if_neg (by omega)]
    refine congrArg some (decide_eq_false fun h => ?_).symm
    have := congrArg List.length h
    rw [List.length_take, size_list] at this
    omega
theorem take1 (l : List UInt8) (a : UInt8) (ha : a.toNat ≠ 0) : l.take 1 = [a] ↔ Qu.bt l 0 = a.toNat := by
  cases l with
  | nil => simp [Qu.bt]; omega
  | cons x r => simp [Qu.bt, UInt8.toNat_inj]
theorem take2 (l : List UInt8) (a b : UInt8) (ha : a.toNat ≠ 0) (hb : b.toNat ≠ 0) : l.take 2 = [a, b] ↔ Qu.bt l 0 = a.toNat ∧ Qu.bt l 1 = b.toNat := by
  match l with
  | [] => simp [Qu.bt]; omega
  | [x] => simp [Qu.bt]; omega
  | x :: y :: r => simp [Qu.bt, UInt8.toNat_inj]
section
variable {s : ByteArray} {i : Nat}
theorem op_p {N : Nat} (hN : 20 ≤ N) (hs : s.size ≤ 100000) (hi : i ≤ s.size) : matcher_op_g N s i = some (if Mt.opAt s.data.toList i = 0 then (0, ⟨((Mt.opBad s.data.toList i).1 : Int), ((Mt.opBad s.data.toList i).2 : Int)⟩) else ((Mt.opAt s.data.toList i : Int), ⟨0, 0⟩)) := by
  obtain ⟨m, rfl⟩ : ∃ m, N = m + 5 := ⟨N - 5, by omega⟩
  obtain ⟨t, ht⟩ : ∃ t, t = ss s (i : Int) (sl s) := ⟨_, rfl⟩
  have hb : ∀ j, Qu.bt t.data.toList j = Qu.bt s.data.toList (i + j) := fun j => by rw [ht, ss_end hi, Qu.bt_drop]
  have hz : t.size = s.size - i := by rw [ht]; exact size_end hi
  have l0 : ∀ m, matcher_op_l1 s i (m + 1) 0 = (strings_HasPrefix_g t (Mt.ofL [61, 126])).bind fun a => cond a (some (3, ⟨0, 0⟩)) (matcher_op_l1 s i m 1) := fun m => by rw [ht]; rfl
  have l1 : ∀ m, matcher_op_l1 s i (m + 1) 1 = (strings_HasPrefix_g t (Mt.ofL [33, 126])).bind fun a => cond a (some (4, ⟨0, 0⟩)) (matcher_op_l1 s i m 2) := fun m => by rw [ht]; rfl
  have l2 : ∀ m, matcher_op_l1 s i (m + 1) 2 = (strings_HasPrefix_g t (Mt.ofL [33, 61])).bind fun a => cond a (some (2, ⟨0, 0⟩)) (matcher_op_l1 s i m 3) := fun m => by rw [ht]; rfl
  have l3 : ∀ m, matcher_op_l1 s i (m + 1) 3 = (strings_HasPrefix_g t (Mt.ofL [61])).bind fun a => cond a (some (1, ⟨0, 0⟩)) (matcher_op_l1 s i m 4) := fun m => by rw [ht]; rfl
  have l4 : ∀ m, matcher_op_l1 s i (m + 1) 4 = cond (sc .eql t ByteArray.empty) (some (0, ⟨1, (i : Int)⟩)) (cond (sc .eql t (ByteArray.mk #[33])) (some (0, ⟨1, ar .add .i64 i 1⟩)) (some (0, ⟨2, (i : Int)⟩))) := fun m => by rw [ht]; rfl
  have a2 : ∀ a b : UInt8, a.toNat ≠ 0 → b.toNat ≠ 0 → strings_HasPrefix_g t (Mt.ofL [a, b]) = some (decide (Qu.bt s.data.toList i = a.toNat ∧ Qu.bt s.data.toList (i + 1) = b.toNat)) := fun a b ha hb' => by
    rw [prefix_p]
    have := take2 t.data.toList a b ha hb'
    rw [hb, hb] at this
    exact congrArg some (decide_eq_decide.2 this)
  have a1 : ∀ a : UInt8, a.toNat ≠ 0 → strings_HasPrefix_g t (Mt.ofL [a]) = some (decide (Qu.bt s.data.toList i = a.toNat)) := fun a ha => by
    rw [prefix_p]
    have := take1 t.data.toList a ha
    rw [hb] at this
    exact congrArg some (decide_eq_decide.2 this)
  unfold matcher_op_g
  rw [ssin_end hi, _root_.cond_true, l0, l1, l2, l3, l4, a2 61 126 (by decide) (by decide), a2 33 126 (by decide) (by decide), a2 33 61 (by decide) (by decide), a1 61 (by decide), inc1 (by omega)]
  simp only [Option.bind_some, cond_dec, sc_eql, show (61 : UInt8).toNat = 61 from rfl, show (33 : UInt8).toNat = 33 from rfl, show (126 : UInt8).toNat = 126 from rfl]
  unfold Mt.opAt
  by_cases c1 : Qu.bt s.data.toList i = 61
  · by_cases c2 : Qu.bt s.data.toList (i + 1) = 126
    · simp [c1, c2]
    · simp [c1, c2]
  · by_cases c3 : Qu.bt s.data.toList i = 33
    · by_cases c4 : Qu.bt s.data.toList (i + 1) = 61
      · simp [c3, c4]
      · by_cases c5 : Qu.bt s.data.toList (i + 1) = 126
        · simp [c3, c5]
        · have hlt : i < s.size := Nat.lt_of_not_le fun g => by
            have : Qu.bt s.data.toList i = 0 := by unfold Qu.bt; rw [List.getElem?_eq_none (by rw [size_list]; omega)]
            omega
          have hne : ¬ t = ByteArray.empty := fun e => by rw [e] at hz; have : ByteArray.empty.size = 0 := rfl; omega
          have hone : t = ByteArray.mk #[33] ↔ i + 1 = s.size := by
            constructor
            · intro e
              have : (ByteArray.mk #[33]).size = 1 := rfl
              rw [e] at hz; omega
            · intro e
              rw [ba_eq]
              have hl : t.data.toList.length = 1 := by rw [size_list]; omega
              obtain ⟨x, hx⟩ := List.length_eq_one_iff.1 hl
              have h0 := hb 0
              rw [hx] at h0
              have h0 : x.toNat = 33 := by rw [Nat.add_zero, c3] at h0; exact h0
              rw [hx]
              show [x] = [33]
              congr 1
              exact UInt8.toNat_inj.1 h0
          have hlen : ¬ i = s.data.toList.length := by rw [size_list]; omega
          unfold Mt.opBad
          simp only [c3, c4, c5, hne, if_false, hlen, if_true, true_and, false_and, and_false]
          by_cases c6 : i + 1 = s.size
          · have c6' : i + 1 = s.data.toList.length := by rw [size_list]; exact c6
            simp [hone.2 c6, c6']
          · have c6' : ¬ i + 1 = s.data.toList.length := by rw [size_list]; exact c6
            have : ¬ t = ByteArray.mk #[33] := fun e => c6 (hone.1 e)
            simp [this, c6]
    · unfold Mt.opBad
      simp only [c1, c3, if_false, false_and, if_true]
      have hone : ¬ t = ByteArray.mk #[33] := fun e => by
        have := hb 0
        rw [e] at this
        exact c3 this.symm
      simp only [hone, if_false]
      by_cases c4 : i = s.size
      · have : t = ByteArray.empty := by
          rw [ba_eq]
          have hl : t.data.toList.length = 0 := by rw [size_list]; omega
          rw [List.length_eq_zero_iff.1 hl]; rfl
        rw [if_pos this, if_pos (by rw [size_list]; exact c4)]; rfl
      · have : ¬ t = ByteArray.empty := fun e => by rw [e] at hz; have : ByteArray.empty.size = 0 := rfl; omega
        rw [if_neg this, if_neg (by rw [size_list]; exact c4)]; rfl
end
end Pl
end Go.Proofs.YtpplemjjeefpdaaGreatDoor
