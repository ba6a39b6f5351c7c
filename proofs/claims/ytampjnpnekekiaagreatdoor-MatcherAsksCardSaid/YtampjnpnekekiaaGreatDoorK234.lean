/- Quoting, plainly: units, escapes. -/
import Derived.Test.YtampjnpnekekiaaGreatDoorK233
namespace Go.Proofs.YtampjnpnekekiaaGreatDoor
open Go
set_option linter.unusedVariables false
set_option linter.unusedSimpArgs false
set_option maxRecDepth 10000
open Sh Gn
namespace Pl
section
variable {s : ByteArray} {i : Nat}
theorem sa_bt : sa s (i : Int) = (Qu.bt s.data.toList i : Int) := by
  show ((s.data.getD _ 0).toNat : Int) = _
  unfold Qu.bt
  rw [Int.toNat_natCast, Array.getD_eq_getD_getElem?, Array.getElem?_toList]
  cases s.data[i]? <;> rfl
theorem get_bt : (s.get! i).toNat = Qu.bt s.data.toList i := by
  unfold Qu.bt
  rw [Array.getElem?_toList]
  show (s.data[i]!).toNat = _
  rw [getElem!_def]
  cases s.data[i]? <;> rfl
theorem ss_list {j : Nat} (h : i ≤ j) (hj : j ≤ s.size) : (ss s i j).data.toList = (s.data.toList.drop i).take (j - i) := by
  show (s.extract _ _).data.toList = _
  rw [Int.toNat_natCast, Int.toNat_natCast, ByteArray.data_extract, Array.toList_extract, List.extract]
theorem ss_end (hj : i ≤ s.size) : (ss s i (sl s)).data.toList = s.data.toList.drop i := by
  rw [sl_eq, ss_list hj (Nat.le_refl _), List.take_of_length_le (by rw [List.length_drop, size_list]; exact Nat.le_refl _)]
theorem size_end (hj : i ≤ s.size) : (ss s i (sl s)).size = s.size - i := by
  rw [← size_list, ss_end hj, List.length_drop, size_list]
theorem ssin_end (hj : i ≤ s.size) : ssinB s i (sl s) = true := by simp [ssinB, sl_eq]; omega
theorem ssin_nat {j : Nat} (h : i ≤ j) (hj : j ≤ s.size) : ssinB s i j = true := by simp [ssinB]; omega
theorem dec_cp (h : i < s.size) : utf8_Decode_g (ss s i (sl s)) = some ((Qu.cp s.data.toList i : Int), (Qu.unit s.data.toList i : Int)) := by
  have hz := size_end (s := s) (i := i) (by omega)
  have hb : ∀ j, (((ss s i (sl s))).get! j).toNat = Qu.bt s.data.toList (i + j) := fun j => by rw [get_bt, ss_end (by omega), Qu.bt_drop]
  have e : Lib.decodeGo (ss s i (sl s)) = (Qu.cp s.data.toList i, Qu.unit s.data.toList i) := by
    unfold Lib.decodeGo
    rw [if_neg (by omega), Lib.decode_at, hb, hb, hb, hb, hz, Nat.sub_zero, ← Qu.cp_unit, size_list]
    rfl
  unfold utf8_Decode_g
  rw [e]
theorem index_dig : ∀ c : Fin 256, Lib.indexByte [48, 49, 50, 51, 52, 53, 54, 55, 56, 57, 97, 98, 99, 100, 101, 102] (UInt8.ofNat c.val) = if Qu.dig c.val = 16 then -1 else (Qu.dig c.val : Int) := by decide +kernel
theorem index_p {c : Nat} (h : c < 256) : strings_IndexByte_g (ByteArray.mk #[48, 49, 50, 51, 52, 53, 54, 55, 56, 57, 97, 98, 99, 100, 101, 102]) (c : Int) = some (if Qu.dig c = 16 then -1 else (Qu.dig c : Int)) := by
  unfold strings_IndexByte_g
  rw [← index_dig ⟨c, h⟩]
  rfl
theorem dig_le (c : Nat) : Qu.dig c ≤ 16 := by unfold Qu.dig; (repeat' split) <;> omega
def escI (e : Qu.Esc) : Int × Int × Int := match e with | .ok b n => ((b : Int), (n : Int), 0) | .bad e => (0, 0, (e : Int))
theorem qesc_p {N : Nat} (hN : 20 ≤ N) (hs : s.size ≤ 100000) (hi : i ≤ s.size) : quote_escape_g N (ss s i (sl s)) = some (escI (Qu.esc s.data.toList i)) := by
  obtain ⟨N, rfl⟩ : ∃ M, N = M + 3 := ⟨N - 3, by omega⟩
  have hz := size_end (s := s) (i := i) hi
  have hb : ∀ j : Nat, sa (ss s i (sl s)) (j : Int) = (Qu.bt s.data.toList (i + j) : Int) := fun j => by rw [sa_bt, ss_end hi, Qu.bt_drop]
  have h1 := hb 1
  have h2 := hb 2
  have h3 := hb 3
  have hin : ∀ j : Nat, i + j < s.size → sinB (ss s i (sl s)) (j : Int) = true := fun j hj => sin_in (by omega)
  unfold quote_escape_g Qu.esc
  simp only [cm_lss, cm_eql, cm_neq, cond_not, cond_dec, sl_eq]
  rw [show ((ss s i s.size).size) = s.size - i from hz, size_list]
  by_cases c : s.size < i + 2
  · have c' : ((s.size - i : Nat) : Int) < 2 := by omega
    simp only [c, c', if_true]; rfl
  have c' : ¬ ((s.size - i : Nat) : Int) < 2 := by omega
  simp only [c, c', if_false]
  have i1 : sinB (ss s i (s.size : Int)) 1 = true := hin 1 (by omega)
  have h1 : sa (ss s i (s.size : Int)) 1 = (Qu.bt s.data.toList (i + 1) : Int) := h1
  simp only [i1, h1, _root_.cond_true]
  have b1 := Qu.bt_lt s.data.toList (i + 1)
  have b2 := Qu.bt_lt s.data.toList (i + 2)
  have b3 := Qu.bt_lt s.data.toList (i + 3)
  by_cases c1 : Qu.bt s.data.toList (i + 1) = 34
  · simp only [c1, true_or, if_true, Option.bind_some, _root_.cond_true]; simp; rfl
  by_cases c2 : Qu.bt s.data.toList (i + 1) = 92
  · simp only [c2, or_true, if_true]; simp; rfl
  have c1' : ¬ (Qu.bt s.data.toList (i + 1) : Int) = 34 := by omega
  have c2' : ¬ (Qu.bt s.data.toList (i + 1) : Int) = 92 := by omega
  simp only [c1, c2, c1', c2', or_false, if_false, Option.bind_some, decide_false, cond_false]
  by_cases c3 : Qu.bt s.data.toList (i + 1) = 120
  · have c3' : (Qu.bt s.data.toList (i + 1) : Int) = 120 := by omega
    simp only [c3', if_true, c3, ne_eq, not_true_eq_false, if_false]
    unfold quote_escape_l1
    simp only [cm_lss, cm_geq, cond_dec, sl_eq]
    simp only [show ((2 : Int) < 4) from by decide, if_true, show ((ss s i s.size).size) = s.size - i from hz]
    by_cases d : s.size < i + 3
    · have d' : ((s.size - i : Nat) : Int) ≤ 2 := by omega
      simp only [d, d', if_true]; rfl
    have d' : ¬ ((s.size - i : Nat) : Int) ≤ 2 := by omega
    simp only [d, d', if_false]
    have i2 : sinB (ss s i (s.size : Int)) 2 = true := hin 2 (by omega)
    have h2 : sa (ss s i (s.size : Int)) 2 = (Qu.bt s.data.toList (i + 2) : Int) := h2
    simp only [i2, h2, _root_.cond_true, index_p b2, Option.bind_some]
    have g2 := dig_le (Qu.bt s.data.toList (i + 2))
    by_cases d2 : Qu.dig (Qu.bt s.data.toList (i + 2)) = 16
    · simp only [d2, if_true]; rfl
    have d2' : ¬ (Qu.dig (Qu.bt s.data.toList (i + 2)) : Int) < 0 := by omega
    simp only [d2, d2', if_false]
    have e1 : ar .add .i64 (ar .mul .i64 16 0) (Qu.dig (Qu.bt s.data.toList (i + 2)) : Int) = (Qu.dig (Qu.bt s.data.toList (i + 2)) : Int) := by
      rw [ar_mul (by decide) (by decide), ar_add (by omega) (by omega)]; omega
    have e2 : ar .add .i64 (2 : Int) 1 = 3 := by rw [ar_add (by decide) (by decide)]; rfl
    rw [e1, e2]
    unfold quote_escape_l1
    simp only [cm_lss, cm_geq, cond_dec, sl_eq]
    simp only [show ((3 : Int) < 4) from by decide, if_true, show ((ss s i s.size).size) = s.size - i from hz]
    by_cases d : s.size < i + 4
    · have d' : ((s.size - i : Nat) : Int) ≤ 3 := by omega
      simp only [d, d', if_true]; rfl
    have d' : ¬ ((s.size - i : Nat) : Int) ≤ 3 := by omega
    simp only [d, d', if_false]
    have i3 : sinB (ss s i (s.size : Int)) 3 = true := hin 3 (by omega)
    have h3 : sa (ss s i (s.size : Int)) 3 = (Qu.bt s.data.toList (i + 3) : Int) := h3
    simp only [i3, h3, _root_.cond_true, index_p b3, Option.bind_some]
    have g3 := dig_le (Qu.bt s.data.toList (i + 3))
    by_cases d3 : Qu.dig (Qu.bt s.data.toList (i + 3)) = 16
    · simp only [d3, if_true]; rfl
    have d3' : ¬ (Qu.dig (Qu.bt s.data.toList (i + 3)) : Int) < 0 := by omega
    simp only [d3, d3', if_false]
    have e3 : ar .add .i64 (ar .mul .i64 16 (Qu.dig (Qu.bt s.data.toList (i + 2)) : Int)) (Qu.dig (Qu.bt s.data.toList (i + 3)) : Int) = ((16 * Qu.dig (Qu.bt s.data.toList (i + 2)) + Qu.dig (Qu.bt s.data.toList (i + 3)) : Nat) : Int) := by
      rw [ar_mul (by omega) (by omega), ar_add (by omega) (by omega)]; omega
    have e4 : ar .add .i64 (3 : Int) 1 = 4 := by rw [ar_add (by decide) (by decide)]; rfl
    rw [e3, e4]
    unfold quote_escape_l1
    simp only [cm_lss, cond_dec]
    simp only [show ¬ ((4 : Int) < 4) from by decide, if_false]
    show some (cv .u8 _, (4 : Int), (0 : Int)) = some (((16 * _ + _ : Nat) : Int), (4 : Int), (0 : Int))
    congr 2
    show IntKind.u8.wrap _ = _
    rw [IntKind.wrap_u8]; omega
  · have c3' : ¬ (Qu.bt s.data.toList (i + 1) : Int) = 120 := by omega
    simp only [c3', if_false, ne_eq, c3, not_false_eq_true, if_true]
    rfl
theorem plain_p : quote_plain_g (Qu.cp s.data.toList i : Int) (Qu.unit s.data.toList i : Int) = some (Qu.safe s.data.toList i) := by
  have h := Qu.plain_safe s.data.toList i
  unfold quote_plain_g
  simp only [cm_geq, cm_neq, cm_gtr, cond_not, cond_dec, bind_self]
  cases g : Qu.safe s.data.toList i with
  | true =>
    obtain ⟨h1, h2, h3⟩ := h.2 g
    rw [if_pos (by omega), if_neg (by omega)]
    by_cases c : Qu.cp s.data.toList i = 65533
    · rw [if_pos (by omega), decide_eq_true (by omega)]
    · rw [if_neg (by omega)]
  | false =>
    have hn : ¬ (32 ≤ Qu.cp s.data.toList i ∧ Qu.cp s.data.toList i ≠ 127 ∧ (Qu.cp s.data.toList i ≠ 65533 ∨ 1 < Qu.unit s.data.toList i)) := fun e => by rw [h.1 e] at g; cases g
    by_cases c1 : 32 ≤ Qu.cp s.data.toList i
    · rw [if_pos (by omega)]
      by_cases c2 : Qu.cp s.data.toList i = 127
      · rw [if_pos (by omega)]
      · rw [if_neg (by omega), if_pos (by omega), decide_eq_false (by omega)]
    · rw [if_neg (by omega)]
end
end Pl
end Go.Proofs.YtampjnpnekekiaaGreatDoor
namespace Go.Proofs.YtampjnpnekekiaaGreatDoor
open Go
set_option linter.unusedVariables false
set_option linter.unusedSimpArgs false
set_option maxRecDepth 10000
open Sh Gn
namespace Pl
theorem ite_and {p q : Prop} [Decidable p] [Decidable q] : (if p then some (decide q) else some false) = some (decide (p ∧ q)) := by by_cases p <;> by_cases q <;> simp_all
theorem ite_or {p q : Prop} [Decidable p] [Decidable q] : (if p then some true else some (decide q)) = some (decide (p ∨ q)) := by by_cases p <;> by_cases q <;> simp_all
theorem ite_gen {p q r : Prop} [Decidable p] [Decidable q] [Decidable r] : (if p then some (decide q) else some (decide r)) = some (decide ((p ∧ q) ∨ (¬ p ∧ r))) := by by_cases p <;> by_cases q <;> by_cases r <;> simp_all
theorem ite_to {p : Prop} [Decidable p] : (if p then some true else some false) = some (decide p) := by by_cases p <;> simp_all
theorem not_dec {p : Prop} [Decidable p] : (!decide p) = decide (¬ p) := by by_cases p <;> simp_all
theorem rdig_p {c : Nat} (h : c < 256) : r10_digit_g (c : Int) = some (if Qu.dig c = 16 then -1 else (Qu.dig c : Int)) := by
  unfold r10_digit_g
  rw [cv_i64 (by omega) (by omega)]
  simp only [cm_geq, cm_leq, cond_dec, ite_and, Option.bind_some]
  by_cases a : 48 ≤ c ∧ c ≤ 57
  · have e : Qu.dig c = c - 48 := by unfold Qu.dig; rw [if_pos a]
    rw [if_pos (by omega), if_neg (by omega), ar_sub (by omega) (by omega), e]
    congr 1; omega
  · rw [if_neg (by omega)]
    by_cases b : 97 ≤ c ∧ c ≤ 102
    · have e : Qu.dig c = c - 87 := by unfold Qu.dig; rw [if_neg a, if_pos b]
      rw [if_pos (by omega), if_neg (by omega), ar_sub (by omega) (by omega), e]
      congr 1; omega
    · have e : Qu.dig c = 16 := by unfold Qu.dig; rw [if_neg a, if_neg b]
      rw [if_neg (by omega), if_pos e]
theorem str_map (l : List UInt8) : strB (l.map fun b => (b.toNat : Int)) = some ⟨l.toArray⟩ := by
  have h1 : bokB (l.map fun b => (b.toNat : Int)) = true := by
    unfold bokB
    rw [List.all_eq_true]
    intro x hx
    obtain ⟨b, _, rfl⟩ := List.mem_map.1 hx
    have := b.toNat_lt
    simp; omega
  unfold strB
  rw [if_pos h1]
  unfold ofBytes
  rw [List.map_map]
  congr 2
  conv => rhs; rw [← List.map_id l]
  congr 1
  apply List.map_congr_left
  intro b _
  show UInt8.ofNat ((b.toNat : Int)).toNat = b
  rw [Int.toNat_natCast, UInt8.ofNat_toNat]
theorem byte_p {n : Nat} (h : n < 256) : r02_Byte_g (n : Int) = some ⟨#[UInt8.ofNat n]⟩ := by
  unfold r02_Byte_g
  have e : cv .u8 (n : Int) = (((UInt8.ofNat n).toNat : Nat) : Int) := by
    show IntKind.u8.wrap _ = _
    rw [IntKind.wrap_u8, UInt8.toNat_ofNat']
    omega
  rw [e]
  have := str_map [UInt8.ofNat n]
  simp only [List.map_cons, List.map_nil] at this
  rw [Option.bind_some, this]; rfl
section
variable {s : ByteArray} {i : Nat}
def trailB (l : List UInt8) : Nat → Nat → Prop
  | _, 0 => True
  | q, k + 1 => (128 ≤ Qu.bt l q ∧ Qu.bt l q ≤ 191) ∧ trailB l (q + 1) k
instance trailD (l : List UInt8) : ∀ q k, Decidable (trailB l q k)
  | _, 0 => isTrue trivial
  | q, k + 1 => @instDecidableAnd _ _ _ (trailD l (q + 1) k)
theorem trail_from {p n : Int} (hs : s.size ≤ 100000) : ∀ (m q r : Nat), r < m → q + r ≤ s.size → ar .add .i64 p n = ((q + r : Nat) : Int) → r10_trail_l1 s p n m q = some (decide (trailB s.data.toList q r)) := by
  intro m
  induction m with
  | zero => intro q r h; omega
  | succ m ih =>
    intro q r h1 h2 h3
    unfold r10_trail_l1
    rw [h3, cm_lss, cond_dec]
    cases r with
    | zero => rw [if_neg (by omega)]; rfl
    | succ r =>
      rw [if_pos (by omega), sin_in (by omega), inc1 (by omega)]
      simp only [_root_.cond_true, cm_lss, cm_gtr, cond_dec, sa_bt, ite_or, Option.bind_some]
      rw [ih (q + 1) r (by omega) (by omega) (by rw [h3]; congr 1; omega)]
      by_cases g : 128 ≤ Qu.bt s.data.toList q ∧ Qu.bt s.data.toList q ≤ 191
      · rw [if_neg (by omega)]
        congr 1
        exact decide_eq_decide.2 ⟨fun h => ⟨g, h⟩, fun h => h.2⟩
      · rw [if_pos (by omega)]
        congr 1
        exact (decide_eq_false fun h => g h.1).symm
theorem trail_p {N p n : Nat} (hN : 20 ≤ N) (hn : n ≤ 3) (hs : s.size ≤ 100000) (hp : p ≤ s.size) : r10_trail_g N s p n = some (decide (n ≤ s.size - p ∧ trailB s.data.toList p n)) := by
  unfold r10_trail_g
  rw [cm_gtr, cond_dec, sl_eq, ar_sub (by omega) (by omega)]
  by_cases c : n ≤ s.size - p
  · rw [if_neg (by omega), trail_from hs N p n (by omega) (by omega) (by rw [ar_add (by omega) (by omega)]; omega)]
    congr 1
    exact decide_eq_decide.2 ⟨fun h => ⟨c, h⟩, fun h => h.2⟩
  · rw [if_pos (by omega)]
    congr 1
    exact (decide_eq_false fun h => c h.1).symm
theorem rrune_p {N : Nat} (hN : 20 ≤ N) (hs : s.size ≤ 100000) (hi : i < s.size) : r10_Rune_g N s i = some (Qu.rune s.data.toList i : Int) := by
  unfold r10_Rune_g Qu.rune
  have b0 := Qu.bt_lt s.data.toList i
  have b1 := Qu.bt_lt s.data.toList (i + 1)
  have t1 : r10_trail_g N s ((i + 1 : Nat) : Int) 1 = some (decide (1 ≤ s.size - (i + 1) ∧ trailB s.data.toList (i + 1) 1)) := trail_p (n := 1) hN (by omega) hs (by omega)
  have t2 : r10_trail_g N s ((i + 1 : Nat) : Int) 2 = some (decide (2 ≤ s.size - (i + 1) ∧ trailB s.data.toList (i + 1) 2)) := trail_p (n := 2) hN (by omega) hs (by omega)
  have t3 : r10_trail_g N s ((i + 1 : Nat) : Int) 3 = some (decide (3 ≤ s.size - (i + 1) ∧ trailB s.data.toList (i + 1) 3)) := trail_p (n := 3) hN (by omega) hs (by omega)
  have ej : (cond (cm .lss ((i + 1 : Nat) : Int) (sl s)) (cond (sinB s ((i + 1 : Nat) : Int)) (some (cv .i64 (sa s ((i + 1 : Nat) : Int)))) none) (some 0)) = some (Qu.bt s.data.toList (i + 1) : Int) := by
    rw [cm_lss, cond_dec, sl_eq]
    by_cases c : i + 1 < s.size
    · rw [if_pos (by omega), sin_in c, _root_.cond_true, sa_bt, cv_i64 (by omega) (by omega)]
    · rw [if_neg (by omega)]
      unfold Qu.bt
      rw [List.getElem?_eq_none (by rw [size_list]; omega)]; rfl
  have ec : cv .i64 (sa s (i : Int)) = (Qu.bt s.data.toList i : Int) := by rw [sa_bt, cv_i64 (by omega) (by omega)]
  rw [inc1 (show i ≤ 100000000 by omega), ej, ec, t1, t2, t3, sin_in hi, size_list]
  simp only [_root_.cond_true, cm_lss, cm_leq, cm_geq, cm_neq, cond_dec, Option.bind_some, not_dec, ite_and, ite_or, ite_gen, bind_self, trailB, and_true]
  generalize Qu.bt s.data.toList i = x0 at *
  generalize Qu.bt s.data.toList (i + 1) = x1 at *
  have e2 : i + 1 + 1 = i + 2 := rfl
  have e3 : i + 1 + 1 + 1 = i + 3 := rfl
  rw [e3, e2]
  generalize Qu.bt s.data.toList (i + 2) = x2
  generalize Qu.bt s.data.toList (i + 3) = x3
  unfold Qu.runeN
  by_cases c1 : x0 < 128
  · rw [if_pos (by omega), if_pos c1]; rfl
  rw [if_neg (by omega), if_neg c1]
  by_cases c2 : 194 ≤ x0 ∧ x0 ≤ 223 ∧ 1 < s.size - i ∧ 128 ≤ x1 ∧ x1 ≤ 191
  · rw [if_pos (by omega), if_pos c2]; rfl
  rw [if_neg (by omega), if_neg c2]
  by_cases c3 : 224 ≤ x0 ∧ x0 ≤ 239 ∧ (2 < s.size - i ∧ 128 ≤ x1 ∧ x1 ≤ 191 ∧ 128 ≤ x2 ∧ x2 ≤ 191) ∧ (x0 ≠ 224 ∨ 160 ≤ x1) ∧ (x0 ≠ 237 ∨ x1 < 160)
  · rw [if_pos (by omega), if_pos c3]; rfl
  rw [if_neg (by omega), if_neg c3]
  by_cases c4 : 240 ≤ x0 ∧ x0 ≤ 244 ∧ (3 < s.size - i ∧ 128 ≤ x1 ∧ x1 ≤ 191 ∧ 128 ≤ x2 ∧ x2 ≤ 191 ∧ 128 ≤ x3 ∧ x3 ≤ 191) ∧ (x0 ≠ 240 ∨ 144 ≤ x1) ∧ (x0 ≠ 244 ∨ x1 < 144)
  · rw [if_pos (by omega), if_pos c4]; rfl
  rw [if_neg (by omega), if_neg c4]; rfl
theorem rsafe_p {N : Nat} (hN : 20 ≤ N) (hs : s.size ≤ 100000) (hi : i < s.size) : r10_safe_g N s i = some (Qu.safe s.data.toList i) := by
  unfold r10_safe_g Qu.safe
  rw [rrune_p hN hs hi, sin_in hi, sa_bt]
  simp only [_root_.cond_true, cm_gtr, cm_geq, cm_neq, not_dec, cond_dec, Option.bind_some, ite_and, bind_self]
  congr 1
  rw [← Bool.decide_and, ← Bool.decide_and]
  exact decide_eq_decide.2 (by omega)
def escR (e : Qu.Esc) : ByteArray × Int := match e with | .ok b n => (⟨#[UInt8.ofNat b]⟩, (n : Int)) | .bad e => (ByteArray.empty, if e = 1 then -1 else 0)
theorem resc_p (hs : s.size ≤ 100000) (hi : i ≤ s.size) : r10_Escape_g s i = some (escR (Qu.esc s.data.toList i)) := by
  unfold r10_Escape_g Qu.esc
  have b1 := Qu.bt_lt s.data.toList (i + 1)
  have b2 := Qu.bt_lt s.data.toList (i + 2)
  have b3 := Qu.bt_lt s.data.toList (i + 3)
  have e1 := inc (show i ≤ 100000000 by omega) 1 (by omega)
  have e2 := inc (show i ≤ 100000000 by omega) 2 (by omega)
  have e3 := inc (show i ≤ 100000000 by omega) 3 (by omega)
  have e1 : ar .add .i64 (i : Int) 1 = ((i + 1 : Nat) : Int) := e1
  have e2 : ar .add .i64 (i : Int) 2 = ((i + 2 : Nat) : Int) := e2
  have e3 : ar .add .i64 (i : Int) 3 = ((i + 3 : Nat) : Int) := e3
  have es : ar .sub .i64 (s.size : Int) (i : Int) = (s.size : Int) - i := ar_sub (by omega) (by omega)
  simp only [sl_eq, es, e1, e2, e3, cm_lss, cm_eql, cm_neq, cond_not, cond_dec, sa_bt, size_list, rdig_p b2, rdig_p b3, Option.bind_some]
  by_cases c : s.size < i + 2
  · have c' : (s.size : Int) - i < 2 := by omega
    simp only [c, c', if_true]; rfl
  have c' : ¬ (s.size : Int) - i < 2 := by omega
  simp only [c, c', if_false, sin_in (show i + 1 < s.size by omega), _root_.cond_true, ite_or, Option.bind_some, cond_dec]
  by_cases d1 : Qu.bt s.data.toList (i + 1) = 34 ∨ Qu.bt s.data.toList (i + 1) = 92
  · have d1' : (Qu.bt s.data.toList (i + 1) : Int) = 34 ∨ (Qu.bt s.data.toList (i + 1) : Int) = 92 := by omega
    simp only [d1, d1', if_true, ssin_nat (s := s) (show i + 1 ≤ i + 2 by omega) (by omega), _root_.cond_true]
    show some (ss s ((i + 1 : Nat) : Int) ((i + 2 : Nat) : Int), (2 : Int)) = some ((⟨#[UInt8.ofNat _]⟩ : ByteArray), (2 : Int))
    congr 2
    apply ByteArray.ext
    apply Array.ext'
    rw [ss_list (by omega) (by omega), show i + 2 - (i + 1) = 1 by omega, Qu.take_byte (by rw [size_list]; omega)]
  have d1' : ¬ ((Qu.bt s.data.toList (i + 1) : Int) = 34 ∨ (Qu.bt s.data.toList (i + 1) : Int) = 92) := by omega
  simp only [d1, d1', if_false]
  by_cases d2 : Qu.bt s.data.toList (i + 1) = 120
  case neg =>
    have d2' : ¬ (Qu.bt s.data.toList (i + 1) : Int) = 120 := by omega
    simp only [d2, d2', if_false, ne_eq, not_false_eq_true, if_true]; rfl
  have d2' : (Qu.bt s.data.toList (i + 1) : Int) = 120 := by omega
  simp only [d2, d2', if_true, ne_eq, not_true_eq_false, if_false]
  by_cases c3 : s.size < i + 3
  · have c3' : (s.size : Int) - i < 3 := by omega
    simp only [c3, c3', if_true]; rfl
  have c3' : ¬ (s.size : Int) - i < 3 := by omega
  simp only [c3, c3', if_false, sin_in (show i + 2 < s.size by omega), _root_.cond_true]
  have g2 := dig_le (Qu.bt s.data.toList (i + 2))
  have g3 := dig_le (Qu.bt s.data.toList (i + 3))
  by_cases f2 : Qu.dig (Qu.bt s.data.toList (i + 2)) = 16
  · simp only [f2, if_true]; rfl
  have f2' : ¬ (Qu.dig (Qu.bt s.data.toList (i + 2)) : Int) < 0 := by omega
  simp only [f2, f2', if_false]
  by_cases c4 : s.size < i + 4
  · have c4' : (s.size : Int) - i < 4 := by omega
    simp only [c4, c4', if_true]; rfl
  have c4' : ¬ (s.size : Int) - i < 4 := by omega
  simp only [c4, c4', if_false, sin_in (show i + 3 < s.size by omega), _root_.cond_true]
  by_cases f3 : Qu.dig (Qu.bt s.data.toList (i + 3)) = 16
  · simp only [f3, if_true]; rfl
  have f3' : ¬ (Qu.dig (Qu.bt s.data.toList (i + 3)) : Int) < 0 := by omega
  simp only [f3, f3', if_false]
  have e4 : ar .add .i64 (ar .mul .i64 16 (Qu.dig (Qu.bt s.data.toList (i + 2)) : Int)) (Qu.dig (Qu.bt s.data.toList (i + 3)) : Int) = ((16 * Qu.dig (Qu.bt s.data.toList (i + 2)) + Qu.dig (Qu.bt s.data.toList (i + 3)) : Nat) : Int) := by
    rw [ar_mul (by omega) (by omega), ar_add (by omega) (by omega)]; omega
  rw [e4, byte_p (by omega)]
  rfl
end
end Pl
end Go.Proofs.YtampjnpnekekiaaGreatDoor
namespace Go.Proofs.YtampjnpnekekiaaGreatDoor
open Go
set_option linter.unusedVariables false
set_option linter.unusedSimpArgs false
set_option maxRecDepth 10000
open Sh Gn
namespace Pl
def gotV (g : Qu.Got) : ByteArray × Int × GFault := match g with | .ok t p => (⟨t.toArray⟩, (p : Int), ⟨0, 0⟩) | .bad e p => (ByteArray.empty, 0, ⟨(e : Int), (p : Int)⟩)
def ints (l : List UInt8) : List Int := l.map fun b => (b.toNat : Int)
theorem esc_bad {l : List UInt8} {i e : Nat} (h : Qu.esc l i = .bad e) : e = 1 ∨ e = 2 := by
  unfold Qu.esc at h
  repeat' split at h
  all_goals first | cases h | skip
  all_goals first | exact .inl rfl | exact .inr rfl
section
variable {s : ByteArray}
theorem qread_from {N : Nat} (hN : 20 ≤ N) (hs : s.size ≤ 100000) : ∀ (m i : Nat) (out : List UInt8), i ≤ s.size → s.size < i + m → out.length ≤ i → quote_Read_l1 N s m i (ints out) = some (gotV (Qu.go s.data.toList out i)) := by
  intro m
  induction m with
  | zero => intro i out h1 h2; omega
  | succ m ih =>
    intro i out h1 h2 h3
    unfold quote_Read_l1
    rw [cm_lss, cond_dec, sl_eq]
    by_cases c : i < s.size
    case neg =>
      rw [if_neg (by omega), Qu.go_end (by rw [size_list]; omega), size_list]; rfl
    rw [if_pos (by omega), Qu.go_in (by rw [size_list]; exact c)]
    have hd := dec_cp (s := s) (i := i) c
    rw [sl_eq] at hd
    have hin := ssin_end (s := s) (i := i) (by omega)
    rw [sl_eq] at hin
    have hb := Qu.bt_lt s.data.toList i
    have h34 := Qu.cp_small s.data.toList i 34 (by decide)
    have h92 := Qu.cp_small s.data.toList i 92 (by decide)
    have hu := Qu.unit_le (l := s.data.toList) (i := i) (by rw [size_list]; exact c)
    have hu1 := Qu.unit_pos s.data.toList i
    rw [size_list] at hu
    have e1 := inc1 (show i ≤ 100000000 by omega)
    have hstr : strB (ints out) = some ⟨out.toArray⟩ := str_map out
    have hesc := qesc_p (s := s) (i := i) hN hs h1
    rw [sl_eq] at hesc
    simp only [hin, _root_.cond_true, hd, Option.bind_some, cm_eql, cm_neq, cond_not, cond_dec, plain_p, hstr, hesc, e1]
    by_cases d1 : Qu.bt s.data.toList i = 34
    · have d1' : (Qu.cp s.data.toList i : Int) = 34 := by have := h34.2 d1; omega
      simp only [d1, d1', if_true]; rfl
    have d1' : ¬ (Qu.cp s.data.toList i : Int) = 34 := fun e => d1 (h34.1 (by omega))
    simp only [d1, d1', if_false]
    by_cases d2 : Qu.bt s.data.toList i = 92
    · have d2' : (Qu.cp s.data.toList i : Int) = 92 := by have := h92.2 d2; omega
      simp only [d2', if_true]
      unfold Qu.un
      rw [if_pos d2]
      cases hE : Qu.esc s.data.toList i with
      | ok b n =>
        have hb := Qu.esc_two hE
        rw [size_list] at hb
        have ea : ar .add .i64 (i : Int) (n : Int) = ((i + n : Nat) : Int) := by rw [ar_add (by omega) (by omega)]; omega
        have z1 : ¬ (0 : Int) = 1 := by decide
        have eb : ((UInt8.ofNat b).toNat : Int) = (b : Int) := by rw [UInt8.toNat_ofNat']; omega
        simp only [escI, z1, if_false, if_true, app_eq (show (ints out).length + [(b : Int)].length ≤ 1000000000 by simp [ints]; omega), Option.bind_some, ea]
        have := ih (i + n) (out ++ [UInt8.ofNat b]) hb.2.1 (by omega) (by rw [List.length_append, List.length_singleton]; omega)
        rw [← this]
        unfold ints
        rw [List.map_append, List.map_cons, List.map_nil, eb]
      | bad e =>
        have he := esc_bad hE
        simp only [escI]
        rcases he with rfl | rfl
        · show _ = some (gotV (.bad 1 s.data.toList.length))
          rw [size_list]; rfl
        · rfl
    · have d2' : ¬ (Qu.cp s.data.toList i : Int) = 92 := fun e => d2 (h92.1 (by omega))
      simp only [d2', if_false]
      unfold Qu.un
      rw [if_neg d2]
      cases g : Qu.safe s.data.toList i with
      | false =>
        simp only [cond_false, Bool.false_eq_true, if_false]; rfl
      | true =>
        have ea : ar .add .i64 (i : Int) (Qu.unit s.data.toList i : Int) = ((i + Qu.unit s.data.toList i : Nat) : Int) := by rw [ar_add (by omega) (by omega)]; omega
        have eb : Sh.bytes (ss s (i : Int) ((i + Qu.unit s.data.toList i : Nat) : Int)) = ints ((s.data.toList.drop i).take (Qu.unit s.data.toList i)) := by
          unfold Sh.bytes ints
          rw [ss_list (by omega) (by omega), Nat.add_sub_cancel_left]
        have hl : ((s.data.toList.drop i).take (Qu.unit s.data.toList i)).length = Qu.unit s.data.toList i := by
          rw [List.length_take, List.length_drop, size_list]; omega
        simp only [_root_.cond_true, if_true, ea, ssin_nat (s := s) (show i ≤ i + Qu.unit s.data.toList i by omega) hu, eb, app_eq (show (ints out).length + (ints ((s.data.toList.drop i).take (Qu.unit s.data.toList i))).length ≤ 1000000000 by simp only [ints, List.length_map, hl]; omega), Option.bind_some]
        have := ih (i + Qu.unit s.data.toList i) (out ++ (s.data.toList.drop i).take (Qu.unit s.data.toList i)) hu (by omega) (by rw [List.length_append, hl]; omega)
        rw [← this]
        unfold ints
        rw [List.map_append]
theorem rread_from {N : Nat} (hN : 20 ≤ N) (hs : s.size ≤ 100000) : ∀ (m i : Nat) (out : List UInt8), i ≤ s.size → s.size < i + m → out.length ≤ i → r10_Read_l1 N s m ⟨out.toArray⟩ i = some (gotV (Qu.go s.data.toList out i)) := by
  intro m
  induction m with
  | zero => intro i out h1 h2; omega
  | succ m ih =>
    intro i out h1 h2 h3
    unfold r10_Read_l1
    rw [cm_lss, cond_dec, sl_eq]
    by_cases c : i < s.size
    case neg =>
      rw [if_neg (by omega), Qu.go_end (by rw [size_list]; omega), size_list]; rfl
    rw [if_pos (by omega), Qu.go_in (by rw [size_list]; exact c)]
    have hb := Qu.bt_lt s.data.toList i
    have hu := Qu.unit_le (l := s.data.toList) (i := i) (by rw [size_list]; exact c)
    have hu1 := Qu.unit_pos s.data.toList i
    rw [size_list] at hu
    have e1 := inc1 (show i ≤ 100000000 by omega)
    have hcat : ∀ (t : List UInt8) (n : Nat), i + n ≤ s.size → t.length ≤ n → ctB ⟨out.toArray⟩ ⟨t.toArray⟩ = true := fun t n hn ht => by
      unfold ctB
      refine decide_eq_true ?_
      show out.toArray.size + t.toArray.size ≤ _
      rw [List.size_toArray, List.size_toArray]; omega
    have hct : ∀ t : List UInt8, ct (⟨out.toArray⟩ : ByteArray) ⟨t.toArray⟩ = ⟨(out ++ t).toArray⟩ := fun t => by
      apply ByteArray.ext
      show ((⟨out.toArray⟩ : ByteArray) ++ ⟨t.toArray⟩).data = _
      rw [ByteArray.data_append]
      simp
    simp only [sin_in c, ssin_nat (s := s) (Nat.le_refl i) h1, _root_.cond_true, sa_bt, Option.bind_some, cm_eql, cm_neq, cm_lss, cond_not, cond_dec, rsafe_p hN hs c, rrune_p hN hs c, resc_p hs h1, e1]
    by_cases d1 : Qu.bt s.data.toList i = 34
    · have d1' : (Qu.bt s.data.toList i : Int) = 34 := by omega
      simp only [d1, d1', if_true]; rfl
    have d1' : ¬ (Qu.bt s.data.toList i : Int) = 34 := by omega
    simp only [d1, d1', if_false]
    unfold Qu.un
    by_cases d2 : Qu.bt s.data.toList i = 92
    · have d2' : (Qu.bt s.data.toList i : Int) = 92 := by omega
      rw [if_pos d2]
      simp only [d2', if_true, Option.bind_some]
      cases hE : Qu.esc s.data.toList i with
      | ok b n =>
        have hb := Qu.esc_two hE
        rw [size_list] at hb
        have ea : ar .add .i64 (i : Int) (n : Int) = ((i + n : Nat) : Int) := by rw [ar_add (by omega) (by omega)]; omega
        have z1 : ¬ (n : Int) < 0 := by omega
        have z2 : ¬ (n : Int) = 0 := by omega
        have hc := hcat [UInt8.ofNat b] n hb.2.1 (by simp; omega)
        have hc2 := hct [UInt8.ofNat b]
        simp only [escR, z1, z2, if_false, ea]
        rw [show ctB (⟨out.toArray⟩ : ByteArray) ⟨#[UInt8.ofNat b]⟩ = true from hc, show ct (⟨out.toArray⟩ : ByteArray) ⟨#[UInt8.ofNat b]⟩ = _ from hc2, _root_.cond_true]
        exact ih (i + n) (out ++ [UInt8.ofNat b]) hb.2.1 (by omega) (by rw [List.length_append, List.length_singleton]; omega)
      | bad e =>
        have he := esc_bad hE
        simp only [escR]
        rcases he with rfl | rfl
        · show _ = some (gotV (.bad 1 s.data.toList.length))
          rw [size_list]; rfl
        · rfl
    · have d2' : ¬ (Qu.bt s.data.toList i : Int) = 92 := by omega
      simp only [d2, d2', if_false]
      cases g : Qu.safe s.data.toList i with
      | false =>
        have z : ¬ (0 : Int) < 0 := by decide
        simp only [cond_false, Bool.false_eq_true, if_false, Option.bind_some, z, if_true]; rfl
      | true =>
        have hr : 0 < Qu.rune s.data.toList i := by
          unfold Qu.safe at g
          simp only [Bool.and_eq_true, decide_eq_true_eq] at g
          exact g.1.1
        have hur : Qu.unit s.data.toList i = Qu.rune s.data.toList i := by unfold Qu.unit; rw [if_neg (by omega)]
        rw [hur] at hu ⊢
        have ea : ar .add .i64 (i : Int) (Qu.rune s.data.toList i : Int) = ((i + Qu.rune s.data.toList i : Nat) : Int) := by rw [ar_add (by omega) (by omega)]; omega
        have eb : ss s (i : Int) ((i + Qu.rune s.data.toList i : Nat) : Int) = ⟨((s.data.toList.drop i).take (Qu.rune s.data.toList i)).toArray⟩ := by
          apply ByteArray.ext
          apply Array.ext'
          rw [ss_list (by omega) (by omega), Nat.add_sub_cancel_left]
        have hl : ((s.data.toList.drop i).take (Qu.rune s.data.toList i)).length = Qu.rune s.data.toList i := by
          rw [List.length_take, List.length_drop, size_list]; omega
        have z1 : ¬ (Qu.rune s.data.toList i : Int) < 0 := by omega
        have z2 : ¬ (Qu.rune s.data.toList i : Int) = 0 := by omega
        simp only [_root_.cond_true, if_true, ea, ssin_nat (s := s) (show i ≤ i + Qu.rune s.data.toList i by omega) hu, eb, Option.bind_some, z1, z2, if_false, hct, hcat _ _ hu (Nat.le_of_eq hl)]
        exact ih (i + Qu.rune s.data.toList i) (out ++ (s.data.toList.drop i).take (Qu.rune s.data.toList i)) hu (by omega) (by rw [List.length_append, hl]; omega)
theorem qread_p {N : Nat} (hN : 200000 ≤ N) (hs : s.size ≤ 100000) (p : Int) : quote_Read_g N s p = some (gotV (Qu.read s.data.toList p)) := by
  unfold quote_Read_g Qu.read
  simp only [cm_lss, cm_gtr, cm_eql, cm_neq, cond_not, cond_dec, sl_eq, ite_or, Option.bind_some, size_list]
  by_cases c1 : p < 0 ∨ (s.size : Int) < p
  · rw [if_pos c1, if_pos c1]; rfl
  rw [if_neg c1, if_neg c1]
  obtain ⟨i, rfl⟩ : ∃ i : Nat, p = i := ⟨p.toNat, by omega⟩
  rw [Int.toNat_natCast]
  by_cases c2 : (i : Int) = s.size
  · rw [if_pos c2, if_pos c2]; rfl
  rw [if_neg c2, if_neg c2, sin_in (by omega), _root_.cond_true, sa_bt]
  by_cases c3 : Qu.bt s.data.toList i = 34
  · rw [if_pos (by omega), if_neg (by omega), inc1 (by omega), show s.size + 1 = s.data.toList.length + 1 by rw [size_list]]
    exact qread_from (by omega) hs N (i + 1) [] (by omega) (by omega) (by simp)
  · rw [if_neg (by omega), if_pos c3]; rfl
theorem rread_p {N : Nat} (hN : 200000 ≤ N) (hs : s.size ≤ 100000) (p : Int) : r10_Read_g N s p = some (gotV (Qu.read s.data.toList p)) := by
  unfold r10_Read_g Qu.read
  simp only [cm_lss, cm_gtr, cm_eql, cm_neq, cond_not, cond_dec, sl_eq, ite_or, Option.bind_some, size_list]
  by_cases c1 : p < 0 ∨ (s.size : Int) < p
  · rw [if_pos c1, if_pos c1]; rfl
  rw [if_neg c1, if_neg c1]
  obtain ⟨i, rfl⟩ : ∃ i : Nat, p = i := ⟨p.toNat, by omega⟩
  rw [Int.toNat_natCast]
  by_cases c2 : (i : Int) = s.size
  · rw [if_pos c2, if_pos c2]; rfl
  rw [if_neg c2, if_neg c2, sin_in (by omega), _root_.cond_true, sa_bt]
  by_cases c3 : Qu.bt s.data.toList i = 34
  · rw [if_pos (by omega), if_neg (by omega), inc1 (by omega), show s.size + 1 = s.data.toList.length + 1 by rw [size_list]]
    exact rread_from (by omega) hs N (i + 1) [] (by omega) (by omega) (by simp)
  · rw [if_neg (by omega), if_pos c3]; rfl
end
end Pl
end Go.Proofs.YtampjnpnekekiaaGreatDoor
namespace Go.Proofs.YtampjnpnekekiaaGreatDoor.Nm
def letterB (c : Int) : Bool := c == 95 || (decide (97 ≤ c) && decide (c ≤ 122)) || (decide (65 ≤ c) && decide (c ≤ 90))
def digitB (c : Int) : Bool := decide (48 ≤ c) && decide (c ≤ 57)
def signB (c : Int) (first : Bool) : Bool := letterB c || (!first && digitB c)
theorem letterB_lt {c : Int} (h : letterB c = true) : 0 ≤ c ∧ c < 128 := by
  simp [letterB] at h; omega
theorem digitB_lt {c : Int} (h : digitB c = true) : 0 ≤ c ∧ c < 128 := by
  simp [digitB] at h; omega
theorem signB_lt {c : Int} {f : Bool} (h : signB c f = true) : 0 ≤ c ∧ c < 128 := by
  simp only [signB, Bool.or_eq_true, Bool.and_eq_true] at h
  rcases h with h | ⟨_, h⟩
  · exact letterB_lt h
  · exact digitB_lt h
def run (g : Int → Bool → Bool) : Bool → List UInt8 → Nat
  | _, [] => 0
  | f, c :: r => if g c.toNat f then run g false r + 1 else 0
def allB (g : Int → Bool → Bool) (l : List UInt8) : Bool := run g true l == l.length
def labelB (l : List UInt8) : Bool := decide (1 ≤ l.length) && decide (l.length ≤ 32) && allB signB l
theorem run_le (g : Int → Bool → Bool) : ∀ f l, run g f l ≤ l.length
  | _, [] => Nat.le_refl _
  | f, c :: r => by
    unfold run
    have := run_le g false r
    split <;> simp; omega
end Go.Proofs.YtampjnpnekekiaaGreatDoor.Nm
