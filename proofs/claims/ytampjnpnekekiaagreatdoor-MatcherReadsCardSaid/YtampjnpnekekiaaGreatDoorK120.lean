/- Units of texts (runes or single bytes), quoting and reading back: plain. -/
import Derived.Lib.DecodeN
import Derived.Test.YtampjnpnekekiaaGreatDoorK119
import Derived.WalkKit
import Derived.Test.YtampjnpnekekiaaGreatDoorK111
namespace Go.Proofs.YtampjnpnekekiaaGreatDoor
open Go Go.Lib
namespace Qu
def runeN (n b0 b1 b2 b3 : Nat) : Nat :=
  if b0 < 128 then 1
  else if 194 ≤ b0 ∧ b0 ≤ 223 ∧ 1 < n ∧ 128 ≤ b1 ∧ b1 ≤ 191 then 2
  else if 224 ≤ b0 ∧ b0 ≤ 239 ∧ (2 < n ∧ 128 ≤ b1 ∧ b1 ≤ 191 ∧ 128 ≤ b2 ∧ b2 ≤ 191) ∧ (b0 ≠ 224 ∨ 160 ≤ b1) ∧ (b0 ≠ 237 ∨ b1 < 160) then 3
  else if 240 ≤ b0 ∧ b0 ≤ 244 ∧ (3 < n ∧ 128 ≤ b1 ∧ b1 ≤ 191 ∧ 128 ≤ b2 ∧ b2 ≤ 191 ∧ 128 ≤ b3 ∧ b3 ≤ 191) ∧ (b0 ≠ 240 ∨ 144 ≤ b1) ∧ (b0 ≠ 244 ∨ b1 < 144) then 4
  else 0
theorem decode_rune (n b0 b1 b2 b3 : Nat) (h0 : b0 < 256) (h1 : b1 < 256) (h2 : b2 < 256) (h3 : b3 < 256) :
    (runeN n b0 b1 b2 b3 = 0 ∧ decodeN n b0 b1 b2 b3 = (65533, 1)) ∨ (runeN n b0 b1 b2 b3 = 1 ∧ b0 < 128 ∧ decodeN n b0 b1 b2 b3 = (b0, 1)) ∨
    (2 ≤ runeN n b0 b1 b2 b3 ∧ 128 ≤ b0 ∧ 128 ≤ (decodeN n b0 b1 b2 b3).1 ∧ (decodeN n b0 b1 b2 b3).2 = runeN n b0 b1 b2 b3) := by
  by_cases c1 : b0 < 128
  · right; left
    exact ⟨by unfold runeN; rw [if_pos c1], c1, by unfold decodeN; rw [if_pos c1]⟩
  by_cases c2 : 194 ≤ b0 ∧ b0 ≤ 223 ∧ 1 < n ∧ 128 ≤ b1 ∧ b1 ≤ 191
  · right; right
    have e1 : runeN n b0 b1 b2 b3 = 2 := by unfold runeN; rw [if_neg c1, if_pos c2]
    have e2 : decodeN n b0 b1 b2 b3 = (b0 % 32 * 64 + b1 % 64, 2) := by
      unfold decodeN
      rw [if_neg c1, if_pos (by omega), if_pos (by omega)]
    rw [e1, e2]
    exact ⟨by omega, by omega, by dsimp only; omega, rfl⟩
  by_cases c3 : 224 ≤ b0 ∧ b0 ≤ 239 ∧ (2 < n ∧ 128 ≤ b1 ∧ b1 ≤ 191 ∧ 128 ≤ b2 ∧ b2 ≤ 191) ∧ (b0 ≠ 224 ∨ 160 ≤ b1) ∧ (b0 ≠ 237 ∨ b1 < 160)
  · right; right
    have e1 : runeN n b0 b1 b2 b3 = 3 := by unfold runeN; rw [if_neg c1, if_neg c2, if_pos c3]
    have e2 : decodeN n b0 b1 b2 b3 = (b0 % 16 * 4096 + b1 % 64 * 64 + b2 % 64, 3) := by
      unfold decodeN
      rw [if_neg c1, if_neg (by omega), if_pos (by omega), if_pos (by omega)]
    rw [e1, e2]
    exact ⟨by omega, by omega, by dsimp only; omega, rfl⟩
  by_cases c4 : 240 ≤ b0 ∧ b0 ≤ 244 ∧ (3 < n ∧ 128 ≤ b1 ∧ b1 ≤ 191 ∧ 128 ≤ b2 ∧ b2 ≤ 191 ∧ 128 ≤ b3 ∧ b3 ≤ 191) ∧ (b0 ≠ 240 ∨ 144 ≤ b1) ∧ (b0 ≠ 244 ∨ b1 < 144)
  · right; right
    have e1 : runeN n b0 b1 b2 b3 = 4 := by unfold runeN; rw [if_neg c1, if_neg c2, if_neg c3, if_pos c4]
    have e2 : decodeN n b0 b1 b2 b3 = (b0 % 8 * 262144 + b1 % 64 * 4096 + b2 % 64 * 64 + b3 % 64, 4) := by
      unfold decodeN
      rw [if_neg c1, if_neg (by omega), if_neg (by omega), if_pos (by omega), if_pos (by omega)]
    rw [e1, e2]
    exact ⟨by omega, by omega, by dsimp only; omega, rfl⟩
  · left
    refine ⟨by unfold runeN; rw [if_neg c1, if_neg c2, if_neg c3, if_neg c4], ?_⟩
    unfold decodeN
    rw [if_neg c1]
    by_cases d2 : b0 / 32 = 6 ∧ (1 < n ∧ b1 / 64 = 2)
    · rw [if_pos d2, if_neg (by omega)]
    rw [if_neg d2]
    by_cases d3 : b0 / 16 = 14 ∧ (1 < n ∧ b1 / 64 = 2) ∧ (2 < n ∧ b2 / 64 = 2)
    · rw [if_pos d3, if_neg (by omega)]
    rw [if_neg d3]
    by_cases d4 : b0 / 8 = 30 ∧ (1 < n ∧ b1 / 64 = 2) ∧ (2 < n ∧ b2 / 64 = 2) ∧ (3 < n ∧ b3 / 64 = 2)
    · rw [if_pos d4, if_neg (by omega)]
    rw [if_neg d4]
def bt (l : List UInt8) (i : Nat) : Nat := match l[i]? with | some b => b.toNat | none => 0
theorem bt_lt (l : List UInt8) (i : Nat) : bt l i < 256 := by
  unfold bt
  split
  · rename_i b _; exact b.toNat_lt
  · omega
def rune (l : List UInt8) (i : Nat) : Nat := runeN (l.length - i) (bt l i) (bt l (i + 1)) (bt l (i + 2)) (bt l (i + 3))
def unit (l : List UInt8) (i : Nat) : Nat := if rune l i = 0 then 1 else rune l i
theorem unit_pos (l : List UInt8) (i : Nat) : 1 ≤ unit l i := by unfold unit; split <;> omega
theorem runeN_le (n b0 b1 b2 b3 : Nat) (hn : 0 < n) : runeN n b0 b1 b2 b3 ≤ n := by
  unfold runeN
  repeat' split
  all_goals omega
theorem unit_le {l : List UInt8} {i : Nat} (h : i < l.length) : i + unit l i ≤ l.length := by
  have := runeN_le (l.length - i) (bt l i) (bt l (i + 1)) (bt l (i + 2)) (bt l (i + 3)) (by omega)
  unfold unit rune
  split <;> omega
def safe (l : List UInt8) (i : Nat) : Bool := decide (0 < rune l i) && decide (32 ≤ bt l i) && decide (bt l i ≠ 127)
def cp (l : List UInt8) (i : Nat) : Nat := (decodeN (l.length - i) (bt l i) (bt l (i + 1)) (bt l (i + 2)) (bt l (i + 3))).1
theorem cp_unit (l : List UInt8) (i : Nat) : decodeN (l.length - i) (bt l i) (bt l (i + 1)) (bt l (i + 2)) (bt l (i + 3)) = (cp l i, unit l i) := by
  have h := decode_rune (l.length - i) (bt l i) (bt l (i + 1)) (bt l (i + 2)) (bt l (i + 3)) (bt_lt _ _) (bt_lt _ _) (bt_lt _ _) (bt_lt _ _)
  refine Prod.ext rfl ?_
  show _ = unit l i
  unfold unit rune
  rcases h with ⟨h1, h2⟩ | ⟨h1, _, h2⟩ | ⟨h1, _, _, h2⟩
  · rw [if_pos h1, h2]
  · rw [if_neg (by omega), h1, h2]
  · rw [if_neg (by omega), h2]
theorem cp_small (l : List UInt8) (i b : Nat) (hb : b < 128) : cp l i = b ↔ bt l i = b := by
  have h := decode_rune (l.length - i) (bt l i) (bt l (i + 1)) (bt l (i + 2)) (bt l (i + 3)) (bt_lt _ _) (bt_lt _ _) (bt_lt _ _) (bt_lt _ _)
  unfold cp
  by_cases c : bt l i < 128
  · have e : decodeN (l.length - i) (bt l i) (bt l (i + 1)) (bt l (i + 2)) (bt l (i + 3)) = (bt l i, 1) := by unfold decodeN; rw [if_pos c]
    rw [e]
  · rcases h with ⟨h1, h2⟩ | ⟨h1, h3, h2⟩ | ⟨h1, h3, h4, h2⟩
    · rw [h2]; dsimp only; omega
    · omega
    · omega
theorem plain_safe (l : List UInt8) (i : Nat) : (32 ≤ cp l i ∧ cp l i ≠ 127 ∧ (cp l i ≠ 65533 ∨ 1 < unit l i)) ↔ safe l i = true := by
  have h := decode_rune (l.length - i) (bt l i) (bt l (i + 1)) (bt l (i + 2)) (bt l (i + 3)) (bt_lt _ _) (bt_lt _ _) (bt_lt _ _) (bt_lt _ _)
  have hu := cp_unit l i
  have e : cp l i = (decodeN (l.length - i) (bt l i) (bt l (i + 1)) (bt l (i + 2)) (bt l (i + 3))).1 := rfl
  unfold safe unit rune
  simp only [Bool.and_eq_true, decide_eq_true_eq]
  rcases h with ⟨h1, h2⟩ | ⟨h1, h3, h2⟩ | ⟨h1, h3, h4, h2⟩
  · rw [e, h2, h1]; simp
  · rw [e, h2, h1]; simp; omega
  · rw [e, if_neg (by omega)]
    constructor
    · rintro ⟨a, b, c⟩; exact ⟨⟨by omega, by omega⟩, by omega⟩
    · rintro ⟨⟨a, b⟩, c⟩; exact ⟨by omega, by omega, Or.inr (by omega)⟩
def hexd (n : Nat) : UInt8 := if n < 10 then UInt8.ofNat (48 + n) else UInt8.ofNat (87 + n)
def enc (l : List UInt8) (i : Nat) : List UInt8 :=
  if bt l i = 34 ∨ bt l i = 92 then [92, UInt8.ofNat (bt l i)] else if safe l i = true then (l.drop i).take (unit l i) else [92, 120, hexd (bt l i / 16), hexd (bt l i % 16)]
def encs (l : List UInt8) : Nat → Nat → List UInt8
  | 0, _ => []
  | f + 1, i => if i < l.length then enc l i ++ encs l f (i + unit l i) else []
def rest (l : List UInt8) (i : Nat) : List UInt8 := encs l (l.length + 1) i
def dig (b : Nat) : Nat := if 48 ≤ b ∧ b ≤ 57 then b - 48 else if 97 ≤ b ∧ b ≤ 102 then b - 87 else 16
inductive Esc where
  | ok (b : Nat) (n : Nat)
  | bad (e : Nat)
  deriving DecidableEq
def esc (l : List UInt8) (i : Nat) : Esc :=
  if l.length < i + 2 then .bad 1
  else if bt l (i + 1) = 34 ∨ bt l (i + 1) = 92 then .ok (bt l (i + 1)) 2
  else if bt l (i + 1) ≠ 120 then .bad 2
  else if l.length < i + 3 then .bad 1
  else if dig (bt l (i + 2)) = 16 then .bad 2
  else if l.length < i + 4 then .bad 1
  else if dig (bt l (i + 3)) = 16 then .bad 2
  else .ok (16 * dig (bt l (i + 2)) + dig (bt l (i + 3))) 4
inductive Got where
  | ok (t : List UInt8) (p : Nat)
  | bad (e : Nat) (p : Nat)
inductive Un where
  | ok (t : List UInt8) (n : Nat)
  | bad (e : Nat) (p : Nat)
def un (l : List UInt8) (i : Nat) : Un :=
  if bt l i = 92 then (match esc l i with | .ok b n => .ok [UInt8.ofNat b] n | .bad e => .bad e (if e = 1 then l.length else i))
  else if safe l i = true then .ok ((l.drop i).take (unit l i)) (unit l i)
  else .bad 2 i
def body (l : List UInt8) : Nat → List UInt8 → Nat → Got
  | 0, _, _ => .bad 1 l.length
  | f + 1, out, i =>
    if i < l.length then
      if bt l i = 34 then .ok out (i + 1)
      else match un l i with
        | .ok t n => body l f (out ++ t) (i + n)
        | .bad e p => .bad e p
    else .bad 1 l.length
def read (l : List UInt8) (at_ : Int) : Got :=
  if at_ < 0 ∨ (l.length : Int) < at_ then .bad 7 0
  else if at_ = l.length then .bad 1 at_.toNat
  else if bt l at_.toNat ≠ 34 then .bad 2 at_.toNat
  else body l (l.length + 1) [] (at_.toNat + 1)
theorem esc_two {l : List UInt8} {i b n : Nat} (h : esc l i = .ok b n) : 2 ≤ n ∧ i + n ≤ l.length ∧ b < 256 := by
  have h1 := bt_lt l (i + 1)
  have hd : ∀ b, dig b ≤ 16 := fun b => by unfold dig; (repeat' split) <;> omega
  have h2 := hd (bt l (i + 2))
  have h3 := hd (bt l (i + 3))
  unfold esc at h
  (repeat' split at h) <;> first | (cases h; done) | (obtain ⟨rfl, rfl⟩ := Esc.ok.inj h; omega)
theorem un_pos {l : List UInt8} {i n : Nat} {t : List UInt8} (hi : i < l.length) (h : un l i = .ok t n) : 1 ≤ n ∧ i + n ≤ l.length := by
  unfold un at h
  split at h
  · cases he : esc l i with
    | ok b m =>
      rw [he] at h
      obtain ⟨rfl, rfl⟩ := Un.ok.inj h
      have := esc_two he
      omega
    | bad e => rw [he] at h; cases h
  · split at h
    · obtain ⟨rfl, rfl⟩ := Un.ok.inj h
      exact ⟨unit_pos l i, unit_le hi⟩
    · cases h
theorem body_fuel (l : List UInt8) : ∀ (f g : Nat) (out : List UInt8) (i : Nat), l.length < i + f → l.length < i + g → body l f out i = body l g out i
  | 0, 0, _, _, _, _ => rfl
  | 0, g + 1, out, i, h, _ => by rw [body, body, if_neg (by omega)]
  | f + 1, 0, out, i, _, h => by rw [body, body, if_neg (by omega)]
  | f + 1, g + 1, out, i, h, h' => by
    rw [body, body]
    by_cases c : i < l.length
    · rw [if_pos c, if_pos c]
      by_cases d : bt l i = 34
      · rw [if_pos d, if_pos d]
      · rw [if_neg d, if_neg d]
        cases hu : un l i with
        | ok t n =>
          have := un_pos c hu
          exact body_fuel l f g (out ++ t) (i + n) (by omega) (by omega)
        | bad e p => rfl
    · rw [if_neg c, if_neg c]
def go (l : List UInt8) (out : List UInt8) (i : Nat) : Got := body l (l.length + 1) out i
theorem go_in {l out : List UInt8} {i : Nat} (h : i < l.length) : go l out i = if bt l i = 34 then .ok out (i + 1) else match un l i with | .ok t n => go l (out ++ t) (i + n) | .bad e p => .bad e p := by
  unfold go
  rw [body, if_pos h]
  split
  · rfl
  · cases hu : un l i with
    | ok t n =>
      have := un_pos h hu
      exact body_fuel l l.length (l.length + 1) _ _ (by omega) (by omega)
    | bad e p => rfl
theorem go_end {l out : List UInt8} {i : Nat} (h : l.length ≤ i) : go l out i = .bad 1 l.length := by unfold go; rw [body, if_neg (by omega)]
end Qu
end Go.Proofs.YtampjnpnekekiaaGreatDoor
namespace Go.Proofs.YtampjnpnekekiaaGreatDoor
open Go Go.Lib
namespace Qu
theorem bt_drop (l : List UInt8) (p j : Nat) : bt l (p + j) = bt (l.drop p) j := by unfold bt; rw [List.getElem?_drop]
theorem take_byte {l : List UInt8} {i : Nat} (h : i < l.length) : (l.drop i).take 1 = [UInt8.ofNat (bt l i)] := by
  have e : bt l i = l[i].toNat := by unfold bt; rw [List.getElem?_eq_getElem h]
  rw [e, List.drop_eq_getElem_cons h]
  show [l[i]] = _
  simp
end Qu
end Go.Proofs.YtampjnpnekekiaaGreatDoor
namespace Go.Proofs.YtampjnpnekekiaaGreatDoor
open Go
set_option linter.unusedVariables false
set_option linter.unusedSimpArgs false
set_option maxRecDepth 10000
open Sh Gn
namespace Pl
section
variable {s : ByteArray} {i : Nat}
theorem sa_bt : sa s (i : Int) = (Qu.bt s.data.toList i : Int) := by
  show ((s.data.getD _ 0).toNat : Int) = _
  unfold Qu.bt
  rw [Int.toNat_natCast, Array.getD_eq_getD_getElem?, Array.getElem?_toList]
  cases s.data[i]? <;> rfl
theorem get_bt : (s.get! i).toNat = Qu.bt s.data.toList i := by
  unfold Qu.bt
  rw [Array.getElem?_toList]
  show (s.data[i]!).toNat = _
  rw [getElem!_def]
  cases s.data[i]? <;> rfl
theorem ss_list {j : Nat} (h : i ≤ j) (hj : j ≤ s.size) : (ss s i j).data.toList = (s.data.toList.drop i).take (j - i) := by
  show (s.extract _ _).data.toList = _
  rw [Int.toNat_natCast, Int.toNat_natCast, ByteArray.data_extract, Array.toList_extract, List.extract]
theorem ss_end (hj : i ≤ s.size) : (ss s i (sl s)).data.toList = s.data.toList.drop i := by
  rw [sl_eq, ss_list hj (Nat.le_refl _), List.take_of_length_le (by rw [List.length_drop, size_list]; exact Nat.le_refl _)]
theorem size_end (hj : i ≤ s.size) : (ss s i (sl s)).size = s.size - i := by
  rw [← size_list, ss_end hj, List.length_drop, size_list]
theorem ssin_end (hj : i ≤ s.size) : ssinB s i (sl s) = true := by simp [ssinB, sl_eq]; omega
theorem ssin_nat {j : Nat} (h : i ≤ j) (hj : j ≤ s.size) : ssinB s i j = true := by simp [ssinB]; omega
theorem dec_cp (h : i < s.size) : utf8_Decode_g (ss s i (sl s)) = some ((Qu.cp s.data.toList i : Int), (Qu.unit s.data.toList i : Int)) := by
  have hz := size_end (s := s) (i := i) (by omega)
  have hb : ∀ j, (((ss s i (sl s))).get! j).toNat = Qu.bt s.data.toList (i + j) := fun j => by rw [get_bt, ss_end (by omega), Qu.bt_drop]
  have e : Lib.decodeGo (ss s i (sl s)) = (Qu.cp s.data.toList i, Qu.unit s.data.toList i) := by
    unfold Lib.decodeGo
    rw [if_neg (by omega), Lib.decode_at, hb, hb, hb, hb, hz, Nat.sub_zero, ← Qu.cp_unit, size_list]
    rfl
  unfold utf8_Decode_g
  rw [e]
theorem index_dig : ∀ c : Fin 256, Lib.indexByte [48, 49, 50, 51, 52, 53, 54, 55, 56, 57, 97, 98, 99, 100, 101, 102] (UInt8.ofNat c.val) = if Qu.dig c.val = 16 then -1 else (Qu.dig c.val : Int) := by decide +kernel
theorem index_p {c : Nat} (h : c < 256) : strings_IndexByte_g (ByteArray.mk #[48, 49, 50, 51, 52, 53, 54, 55, 56, 57, 97, 98, 99, 100, 101, 102]) (c : Int) = some (if Qu.dig c = 16 then -1 else (Qu.dig c : Int)) := by
  unfold strings_IndexByte_g
  rw [← index_dig ⟨c, h⟩]
  rfl
theorem dig_le (c : Nat) : Qu.dig c ≤ 16 := by unfold Qu.dig; (repeat' split) <;> omega
def escI (e : Qu.Esc) : Int × Int × Int := match e with | .ok b n => ((b : Int), (n : Int), 0) | .bad e => (0, 0, (e : Int))
theorem qesc_p {N : Nat} (hN : 20 ≤ N) (hs : s.size ≤ 100000) (hi : i ≤ s.size) : quote_escape_g N (ss s i (sl s)) = some (escI (Qu.esc s.data.toList i)) := by
  obtain ⟨N, rfl⟩ : ∃ M, N = M + 3 := ⟨N - 3, by omega⟩
  have hz := size_end (s := s) (i := i) hi
  have hb : ∀ j : Nat, sa (ss s i (sl s)) (j : Int) = (Qu.bt s.data.toList (i + j) : Int) := fun j => by rw [sa_bt, ss_end hi, Qu.bt_drop]
  have h1 := hb 1
  have h2 := hb 2
  have h3 := hb 3
  have hin : ∀ j : Nat, i + j < s.size → sinB (ss s i (sl s)) (j : Int) = true := fun j hj => sin_in (by omega)
  unfold quote_escape_g Qu.esc
  simp only [cm_lss, cm_eql, cm_neq, cond_not, cond_dec, sl_eq]
  rw [show ((ss s i s.size).size) = s.size - i from hz, size_list]
  by_cases c : s.size < i + 2
  · have c' : ((s.size - i : Nat) : Int) < 2 := by omega
    simp only [c, c', if_true]; rfl
  have c' : ¬ ((s.size - i : Nat) : Int) < 2 := by omega
  simp only [c, c', if_false]
  have i1 : sinB (ss s i (s.size : Int)) 1 = true := hin 1 (by omega)
  have h1 : sa (ss s i (s.size : Int)) 1 = (Qu.bt s.data.toList (i + 1) : Int) := h1
  simp only [i1, h1, _root_.cond_true]
  have b1 := Qu.bt_lt s.data.toList (i + 1)
  have b2 := Qu.bt_lt s.data.toList (i + 2)
  have b3 := Qu.bt_lt s.data.toList (i + 3)
  by_cases c1 : Qu.bt s.data.toList (i + 1) = 34
  · simp only [c1, true_or, if_true, Option.bind_some, _root_.cond_true]; simp; rfl
  by_cases c2 : Qu.bt s.data.toList (i + 1) = 92
  · simp only [c2, or_true, if_true]; simp; rfl
  have c1' : ¬ (Qu.bt s.data.toList (i + 1) : Int) = 34 := by omega
  have c2' : ¬ (Qu.bt s.data.toList (i + 1) : Int) = 92 := by omega
  simp only [c1, c2, c1', c2', or_false, if_false, Option.bind_some, decide_false, cond_false]
  by_cases c3 : Qu.bt s.data.toList (i + 1) = 120
  · have c3' : (Qu.bt s.data.toList (i + 1) : Int) = 120 := by omega
    simp only [c3', if_true, c3, ne_eq, not_true_eq_false, if_false]
    unfold quote_escape_l1
    simp only [cm_lss, cm_geq, cond_dec, sl_eq]
    simp only [show ((2 : Int) < 4) from by decide, if_true, show ((ss s i s.size).size) = s.size - i from hz]
    by_cases d : s.size < i + 3
    · have d' : ((s.size - i : Nat) : Int) ≤ 2 := by omega
      simp only [d, d', if_true]; rfl
    have d' : ¬ ((s.size - i : Nat) : Int) ≤ 2 := by omega
    simp only [d, d', if_false]
    have i2 : sinB (ss s i (s.size : Int)) 2 = true := hin 2 (by omega)
    have h2 : sa (ss s i (s.size : Int)) 2 = (Qu.bt s.data.toList (i + 2) : Int) := h2
    simp only [i2, h2, _root_.cond_true, index_p b2, Option.bind_some]
    have g2 := dig_le (Qu.bt s.data.toList (i + 2))
    by_cases d2 : Qu.dig (Qu.bt s.data.toList (i + 2)) = 16
    · simp only [d2, if_true]; rfl
    have d2' : ¬ (Qu.dig (Qu.bt s.data.toList (i + 2)) : Int) < 0 := by omega
    simp only [d2, d2', if_false]
    have e1 : ar .add .i64 (ar .mul .i64 16 0) (Qu.dig (Qu.bt s.data.toList (i + 2)) : Int) = (Qu.dig (Qu.bt s.data.toList (i + 2)) : Int) := by
      rw [ar_mul (by decide) (by decide), ar_add (by omega) (by omega)]; omega
    have e2 : ar .add .i64 (2 : Int) 1 = 3 := by rw [ar_add (by decide) (by decide)]; rfl
    rw [e1, e2]
    unfold quote_escape_l1
    simp only [cm_lss, cm_geq, cond_dec, sl_eq]
    simp only [show ((3 : Int) < 4) from by decide, if_true, show ((ss s i s.size).size) = s.size - i from hz]
    by_cases d : s.size < i + 4
    · have d' : ((s.size - i : Nat) : Int) ≤ 3 := by omega
      simp only [d, d', if_true]; rfl
    have d' : ¬ ((s.size - i : Nat) : Int) ≤ 3 := by omega
    simp only [d, d', if_false]
    have i3 : sinB (ss s i (s.size : Int)) 3 = true := hin 3 (by omega)
    have h3 : sa (ss s i (s.size : Int)) 3 = (Qu.bt s.data.toList (i + 3) : Int) := h3
    simp only [i3, h3, _root_.cond_true, index_p b3, Option.bind_some]
    have g3 := dig_le (Qu.bt s.data.toList (i + 3))
    by_cases d3 : Qu.dig (Qu.bt s.data.toList (i + 3)) = 16
    · simp only [d3, if_true]; rfl
    have d3' : ¬ (Qu.dig (Qu.bt s.data.toList (i + 3)) : Int) < 0 := by omega
    simp only [d3, d3', if_false]
    have e3 : ar .add .i64 (ar .mul .i64 16 (Qu.dig (Qu.bt s.data.toList (i + 2)) : Int)) (Qu.dig (Qu.bt s.data.toList (i + 3)) : Int) = ((16 * Qu.dig (Qu.bt s.data.toList (i + 2)) + Qu.dig (Qu.bt s.data.toList (i + 3)) : Nat) : Int) := by
      rw [ar_mul (by omega) (by omega), ar_add (by omega) (by omega)]; omega
    have e4 : ar .add .i64 (3 : Int) 1 = 4 := by rw [ar_add (by decide) (by decide)]; rfl
    rw [e3, e4]
    unfold quote_escape_l1
    simp only [cm_lss, cond_dec]
    simp only [show ¬ ((4 : Int) < 4) from by decide, if_false]
    show some (cv .u8 _, (4 : Int), (0 : Int)) = some (((16 * _ + _ : Nat) : Int), (4 : Int), (0 : Int))
    congr 2
    show IntKind.u8.wrap _ = _
    rw [IntKind.wrap_u8]; omega
  · have c3' : ¬ (Qu.bt s.data.toList (i + 1) : Int) = 120 := by omega
    simp only [c3', if_false, ne_eq, c3, not_false_eq_true, if_true]
    rfl
theorem plain_p : quote_plain_g (Qu.cp s.data.toList i : Int) (Qu.unit s.data.toList i : Int) = some (Qu.safe s.data.toList i) := by
  have h := Qu.plain_safe s.data.toList i
  unfold quote_plain_g
  simp only [cm_geq, cm_neq, cm_gtr, cond_not, cond_dec, bind_self]
  cases g : Qu.safe s.data.toList i with
  | true =>
    obtain ⟨h1, h2, h3⟩ := h.2 g
    rw [if_pos (by omega), if_neg (by omega)]
    by_cases c : Qu.cp s.data.toList i = 65533
    · rw [if_pos (by omega), decide_eq_true (by omega)]
    · rw [if_neg (by omega)]
  | false =>
    have hn : ¬ (32 ≤ Qu.cp s.data.toList i ∧ Qu.cp s.data.toList i ≠ 127 ∧ (Qu.cp s.data.toList i ≠ 65533 ∨ 1 < Qu.unit s.data.toList i)) := fun e => by rw [h.1 e] at g; cases g
    by_cases c1 : 32 ≤ Qu.cp s.data.toList i
    · rw [if_pos (by omega)]
      by_cases c2 : Qu.cp s.data.toList i = 127
      · rw [if_pos (by omega)]
      · rw [if_neg (by omega), if_pos (by omega), decide_eq_false (by omega)]
    · rw [if_neg (by omega)]
end
end Pl
end Go.Proofs.YtampjnpnekekiaaGreatDoor
namespace Go.Proofs.YtampjnpnekekiaaGreatDoor
open Go
set_option linter.unusedVariables false
set_option linter.unusedSimpArgs false
set_option maxRecDepth 10000
open Sh Gn
namespace Pl
theorem ite_and {p q : Prop} [Decidable p] [Decidable q] : (if p then some (decide q) else some false) = some (decide (p ∧ q)) := by by_cases p <;> by_cases q <;> simp_all
theorem ite_or {p q : Prop} [Decidable p] [Decidable q] : (if p then some true else some (decide q)) = some (decide (p ∨ q)) := by by_cases p <;> by_cases q <;> simp_all
theorem ite_gen {p q r : Prop} [Decidable p] [Decidable q] [Decidable r] : (if p then some (decide q) else some (decide r)) = some (decide ((p ∧ q) ∨ (¬ p ∧ r))) := by by_cases p <;> by_cases q <;> by_cases r <;> simp_all
theorem ite_to {p : Prop} [Decidable p] : (if p then some true else some false) = some (decide p) := by by_cases p <;> simp_all
theorem not_dec {p : Prop} [Decidable p] : (!decide p) = decide (¬ p) := by by_cases p <;> simp_all
theorem rdig_p {c : Nat} (h : c < 256) : r10_digit_g (c : Int) = some (if Qu.dig c = 16 then -1 else (Qu.dig c : Int)) := by
  unfold r10_digit_g
  rw [cv_i64 (by omega) (by omega)]
  simp only [cm_geq, cm_leq, cond_dec, ite_and, Option.bind_some]
  by_cases a : 48 ≤ c ∧ c ≤ 57
  · have e : Qu.dig c = c - 48 := by unfold Qu.dig; rw [if_pos a]
    rw [if_pos (by omega), if_neg (by omega), ar_sub (by omega) (by omega), e]
    congr 1; omega
  · rw [if_neg (by omega)]
    by_cases b : 97 ≤ c ∧ c ≤ 102
    · have e : Qu.dig c = c - 87 := by unfold Qu.dig; rw [if_neg a, if_pos b]
      rw [if_pos (by omega), if_neg (by omega), ar_sub (by omega) (by omega), e]
      congr 1; omega
    · have e : Qu.dig c = 16 := by unfold Qu.dig; rw [if_neg a, if_neg b]
      rw [if_neg (by omega), if_pos e]
theorem str_map (l : List UInt8) : strB (l.map fun b => (b.toNat : Int)) = some ⟨l.toArray⟩ := by
  have h1 : bokB (l.map fun b => (b.toNat : Int)) = true := by
    unfold bokB
    rw [List.all_eq_true]
    intro x hx
    obtain ⟨b, _, rfl⟩ := List.mem_map.1 hx
    have := b.toNat_lt
    simp; omega
  unfold strB
  rw [if_pos h1]
  unfold ofBytes
  rw [List.map_map]
  congr 2
  conv => rhs; rw [← List.map_id l]
  congr 1
  apply List.map_congr_left
  intro b _
  show UInt8.ofNat ((b.toNat : Int)).toNat = b
  rw [Int.toNat_natCast, UInt8.ofNat_toNat]
theorem byte_p {n : Nat} (h : n < 256) : r02_Byte_g (n : Int) = some ⟨#[UInt8.ofNat n]⟩ := by
  unfold r02_Byte_g
  have e : cv .u8 (n : Int) = (((UInt8.ofNat n).toNat : Nat) : Int) := by
    show IntKind.u8.wrap _ = _
    rw [IntKind.wrap_u8, UInt8.toNat_ofNat']
    omega
  rw [e]
  have := str_map [UInt8.ofNat n]
  simp only [List.map_cons, List.map_nil] at this
  rw [Option.bind_some, this]; rfl
section
variable {s : ByteArray} {i : Nat}
def trailB (l : List UInt8) : Nat → Nat → Prop
  | _, 0 => True
  | q, k + 1 => (128 ≤ Qu.bt l q ∧ Qu.bt l q ≤ 191) ∧ trailB l (q + 1) k
instance trailD (l : List UInt8) : ∀ q k, Decidable (trailB l q k)
  | _, 0 => isTrue trivial
  | q, k + 1 => @instDecidableAnd _ _ _ (trailD l (q + 1) k)
theorem trail_from {p n : Int} (hs : s.size ≤ 100000) : ∀ (m q r : Nat), r < m → q + r ≤ s.size → ar .add .i64 p n = ((q + r : Nat) : Int) → r10_trail_l1 s p n m q = some (decide (trailB s.data.toList q r)) := by
  intro m
  induction m with
  | zero => intro q r h; omega
  | succ m ih =>
    intro q r h1 h2 h3
    unfold r10_trail_l1
    rw [h3, cm_lss, cond_dec]
    cases r with
    | zero => rw [if_neg (by omega)]; rfl
    | succ r =>
      rw [if_pos (by omega), sin_in (by omega), inc1 (by omega)]
      simp only [_root_.cond_true, cm_lss, cm_gtr, cond_dec, sa_bt, ite_or, Option.bind_some]
      rw [ih (q + 1) r (by omega) (by omega) (by rw [h3]; congr 1; omega)]
      by_cases g : 128 ≤ Qu.bt s.data.toList q ∧ Qu.bt s.data.toList q ≤ 191
      · rw [if_neg (by omega)]
        congr 1
        exact decide_eq_decide.2 ⟨fun h => ⟨g, h⟩, fun h => h.2⟩
      · rw [if_pos (by omega)]
        congr 1
        exact (decide_eq_false fun h => g h.1).symm
theorem trail_p {N p n : Nat} (hN : 20 ≤ N) (hn : n ≤ 3) (hs : s.size ≤ 100000) (hp : p ≤ s.size) : r10_trail_g N s p n = some (decide (n ≤ s.size - p ∧ trailB s.data.toList p n)) := by
  unfold r10_trail_g
  rw [cm_gtr, cond_dec, sl_eq, ar_sub (by omega) (by omega)]
  by_cases c : n ≤ s.size - p
  · rw [if_neg (by omega), trail_from hs N p n (by omega) (by omega) (by rw [ar_add (by omega) (by omega)]; omega)]
    congr 1
    exact decide_eq_decide.2 ⟨fun h => ⟨c, h⟩, fun h => h.2⟩
  · rw [if_pos (by omega)]
    congr 1
    exact (decide_eq_false fun h => c h.1).symm
theorem rrune_p {N : Nat} (hN : 20 ≤ N) (hs : s.size ≤ 100000) (hi : i < s.size) : r10_Rune_g N s i = some (Qu.rune s.data.toList i : Int) := by
  unfold r10_Rune_g Qu.rune
  have b0 := Qu.bt_lt s.data.toList i
  have b1 := Qu.bt_lt s.data.toList (i + 1)
  have t1 : r10_trail_g N s ((i + 1 : Nat) : Int) 1 = some (decide (1 ≤ s.size - (i + 1) ∧ trailB s.data.toList (i + 1) 1)) := trail_p (n := 1) hN (by omega) hs (by omega)
  have t2 : r10_trail_g N s ((i + 1 : Nat) : Int) 2 = some (decide (2 ≤ s.size - (i + 1) ∧ trailB s.data.toList (i + 1) 2)) := trail_p (n := 2) hN (by omega) hs (by omega)
  have t3 : r10_trail_g N s ((i + 1 : Nat) : Int) 3 = some (decide (3 ≤ s.size - (i + 1) ∧ trailB s.data.toList (i + 1) 3)) := trail_p (n := 3) hN (by omega) hs (by omega)
  have ej : (cond (cm .lss ((i + 1 : Nat) : Int) (sl s)) (cond (sinB s ((i + 1 : Nat) : Int)) (some (cv .i64 (sa s ((i + 1 : Nat) : Int)))) none) (some 0)) = some (Qu.bt s.data.toList (i + 1) : Int) := by
    rw [cm_lss, cond_dec, sl_eq]
    by_cases c : i + 1 < s.size
    · rw [if_pos (by omega), sin_in c, _root_.cond_true, sa_bt, cv_i64 (by omega) (by omega)]
    · rw [if_neg (by omega)]
      unfold Qu.bt
      rw [List.getElem?_eq_none (by rw [size_list]; omega)]; rfl
  have ec : cv .i64 (sa s (i : Int)) = (Qu.bt s.data.toList i : Int) := by rw [sa_bt, cv_i64 (by omega) (by omega)]
  rw [inc1 (show i ≤ 100000000 by omega), ej, ec, t1, t2, t3, sin_in hi, size_list]
  simp only [_root_.cond_true, cm_lss, cm_leq, cm_geq, cm_neq, cond_dec, Option.bind_some, not_dec, ite_and, ite_or, ite_gen, bind_self, trailB, and_true]
  generalize Qu.bt s.data.toList i = x0 at *
  generalize Qu.bt s.data.toList (i + 1) = x1 at *
  have e2 : i + 1 + 1 = i + 2 := rfl
  have e3 : i + 1 + 1 + 1 = i + 3 := rfl
  rw [e3, e2]
  generalize Qu.bt s.data.toList (i + 2) = x2
  generalize Qu.bt s.data.toList (i + 3) = x3
  unfold Qu.runeN
  by_cases c1 : x0 < 128
  · rw [if_pos (by omega), if_pos c1]; rfl
  rw [if_neg (by omega), if_neg c1]
  by_cases c2 : 194 ≤ x0 ∧ x0 ≤ 223 ∧ 1 < s.size - i ∧ 128 ≤ x1 ∧ x1 ≤ 191
  · rw [if_pos (by omega), if_pos c2]; rfl
  rw [if_neg (by omega), if_neg c2]
  by_cases c3 : 224 ≤ x0 ∧ x0 ≤ 239 ∧ (2 < s.size - i ∧ 128 ≤ x1 ∧ x1 ≤ 191 ∧ 128 ≤ x2 ∧ x2 ≤ 191) ∧ (x0 ≠ 224 ∨ 160 ≤ x1) ∧ (x0 ≠ 237 ∨ x1 < 160)
  · rw [if_pos (by omega), if_pos c3]; rfl
  rw [if_neg (by omega), if_neg c3]
  by_cases c4 : 240 ≤ x0 ∧ x0 ≤ 244 ∧ (3 < s.size - i ∧ 128 ≤ x1 ∧ x1 ≤ 191 ∧ 128 ≤ x2 ∧ x2 ≤ 191 ∧ 128 ≤ x3 ∧ x3 ≤ 191) ∧ (x0 ≠ 240 ∨ 144 ≤ x1) ∧ (x0 ≠ 244 ∨ x1 < 144)
  · rw [if_pos (by omega), if_pos c4]; rfl
  rw [if_neg (by omega), if_neg c4]; rfl
theorem rsafe_p {N : Nat} (hN : 20 ≤ N) (hs : s.size ≤ 100000) (hi : i < s.size) : r10_safe_g N s i = some (Qu.safe s.data.toList i) := by
  unfold r10_safe_g Qu.safe
  rw [rrune_p hN hs hi, sin_in hi, sa_bt]
  simp only [_root_.cond_true, cm_gtr, cm_geq, cm_neq, not_dec, cond_dec, Option.bind_some, ite_and, bind_self]
  congr 1
  rw [← Bool.decide_and, ← Bool.decide_and]
  exact decide_eq_decide.2 (by omega)
def escR (e : Qu.Esc) : ByteArray × Int := match e with | .ok b n => (⟨#[UInt8.ofNat b]⟩, (n : Int)) | .bad e => (ByteArray.empty, if e = 1 then -1 else 0)
theorem resc_p (hs : s.size ≤ 100000) (hi : i ≤ s.size) : r10_Escape_g s i = some (escR (Qu.esc s.data.toList i)) := by
  unfold r10_Escape_g Qu.esc
  have b1 := Qu.bt_lt s.data.toList (i + 1)
  have b2 := Qu.bt_lt s.data.toList (i + 2)
  have b3 := Qu.bt_lt s.data.toList (i + 3)
  have e1 := inc (show i ≤ 100000000 by omega) 1 (by omega)
  have e2 := inc (show i ≤ 100000000 by omega) 2 (by omega)
  have e3 := inc (show i ≤ 100000000 by omega) 3 (by omega)
  have e1 : ar .add .i64 (i : Int) 1 = ((i + 1 : Nat) : Int) := e1
  have e2 : ar .add .i64 (i : Int) 2 = ((i + 2 : Nat) : Int) := e2
  have e3 : ar .add .i64 (i : Int) 3 = ((i + 3 : Nat) : Int) := e3
  have es : ar .sub .i64 (s.size : Int) (i : Int) = (s.size : Int) - i := ar_sub (by omega) (by omega)
  simp only [sl_eq, es, e1, e2, e3, cm_lss, cm_eql, cm_neq, cond_not, cond_dec, sa_bt, size_list, rdig_p b2, rdig_p b3, Option.bind_some]
  by_cases c : s.size < i + 2
  · have c' : (s.size : Int) - i < 2 := by omega
    simp only [c, c', if_true]; rfl
  have c' : ¬ (s.size : Int) - i < 2 := by omega
  simp only [c, c', if_false, sin_in (show i + 1 < s.size by omega), _root_.cond_true, ite_or, Option.bind_some, cond_dec]
  by_cases d1 : Qu.bt s.data.toList (i + 1) = 34 ∨ Qu.bt s.data.toList (i + 1) = 92
  · have d1' : (Qu.bt s.data.toList (i + 1) : Int) = 34 ∨ (Qu.bt s.data.toList (i + 1) : Int) = 92 := by omega
    simp only [d1, d1', if_true, ssin_nat (s := s) (show i + 1 ≤ i + 2 by omega) (by omega), _root_.cond_true]
    show some (ss s ((i + 1 : Nat) : Int) ((i + 2 : Nat) : Int), (2 : Int)) = some ((⟨#[UInt8.ofNat _]⟩ : ByteArray), (2 : Int))
    congr 2
    apply ByteArray.ext
    apply Array.ext'
    rw [ss_list (by omega) (by omega), show i + 2 - (i + 1) = 1 by omega, Qu.take_byte (by rw [size_list]; omega)]
  have d1' : ¬ ((Qu.bt s.data.toList (i + 1) : Int) = 34 ∨ (Qu.bt s.data.toList (i + 1) : Int) = 92) := by omega
  simp only [d1, d1', if_false]
  by_cases d2 : Qu.bt s.data.toList (i + 1) = 120
  case neg =>
    have d2' : ¬ (Qu.bt s.data.toList (i + 1) : Int) = 120 := by omega
    simp only [d2, d2', if_false, ne_eq, not_false_eq_true, if_true]; rfl
  have d2' : (Qu.bt s.data.toList (i + 1) : Int) = 120 := by omega
  simp only [d2, d2', if_true, ne_eq, not_true_eq_false, if_false]
  by_cases c3 : s.size < i + 3
  · have c3' : (s.size : Int) - i < 3 := by omega
    simp only [c3, c3', if_true]; rfl
  have c3' : ¬ (s.size : Int) - i < 3 := by omega
  simp only [c3, c3', if_false, sin_in (show i + 2 < s.size by omega), _root_.cond_true]
  have g2 := dig_le (Qu.bt s.data.toList (i + 2))
  have g3 := dig_le (Qu.bt s.data.toList (i + 3))
  by_cases f2 : Qu.dig (Qu.bt s.data.toList (i + 2)) = 16
  · simp only [f2, if_true]; rfl
  have f2' : ¬ (Qu.dig (Qu.bt s.data.toList (i + 2)) : Int) < 0 := by omega
  simp only [f2, f2', if_false]
  by_cases c4 : s.size < i + 4
  · have c4' : (s.size : Int) - i < 4 := by omega
    simp only [c4, c4', if_true]; rfl
  have c4' : ¬ (s.size : Int) - i < 4 := by omega
  simp only [c4, c4', if_false, sin_in (show i + 3 < s.size by omega), _root_.cond_true]
  by_cases f3 : Qu.dig (Qu.bt s.data.toList (i + 3)) = 16
  · simp only [f3, if_true]; rfl
  have f3' : ¬ (Qu.dig (Qu.bt s.data.toList (i + 3)) : Int) < 0 := by omega
  simp only [f3, f3', if_false]
  have e4 : ar .add .i64 (ar .mul .i64 16 (Qu.dig (Qu.bt s.data.toList (i + 2)) : Int)) (Qu.dig (Qu.bt s.data.toList (i + 3)) : Int) = ((16 * Qu.dig (Qu.bt s.data.toList (i + 2)) + Qu.dig (Qu.bt s.data.toList (i + 3)) : Nat) : Int) := by
    rw [ar_mul (by omega) (by omega), ar_add (by omega) (by omega)]; omega
  rw [e4, byte_p (by omega)]
  rfl
end
end Pl
end Go.Proofs.YtampjnpnekekiaaGreatDoor
namespace Go.Proofs.YtampjnpnekekiaaGreatDoor
open Go
set_option linter.unusedVariables false
set_option linter.unusedSimpArgs false
set_option maxRecDepth 10000
open Sh Gn
namespace Pl
def gotV (g : Qu.Got) : ByteArray × Int × GFault := match g with | .ok t p => (⟨t.toArray⟩, (p : Int), ⟨0, 0⟩) | .bad e p => (ByteArray.empty, 0, ⟨(e : Int), (p : Int)⟩)
def ints (l : List UInt8) : List Int := l.map fun b => (b.toNat : Int)
theorem esc_bad {l : List UInt8} {i e : Nat} (h : Qu.esc l i = .bad e) : e = 1 ∨ e = 2 := by
  unfold Qu.esc at h
  repeat' split at h
  all_goals first | cases h | skip
  all_goals first | exact .inl rfl | exact .inr rfl
section
variable {s : ByteArray}
theorem qread_from {N : Nat} (hN : 20 ≤ N) (hs : s.size ≤ 100000) : ∀ (m i : Nat) (out : List UInt8), i ≤ s.size → s.size < i + m → out.length ≤ i → quote_Read_l1 N s m i (ints out) = some (gotV (Qu.go s.data.toList out i)) := by
  intro m
  induction m with
  | zero => intro i out h1 h2; omega
  | succ m ih =>
    intro i out h1 h2 h3
    unfold quote_Read_l1
    rw [cm_lss, cond_dec, sl_eq]
    by_cases c : i < s.size
    case neg =>
      rw [if_neg (by omega), Qu.go_end (by rw [size_list]; omega), size_list]; rfl
    rw [if_pos (by omega), Qu.go_in (by rw [size_list]; exact c)]
    have hd := dec_cp (s := s) (i := i) c
    rw [sl_eq] at hd
    have hin := ssin_end (s := s) (i := i) (by omega)
    rw [sl_eq] at hin
    have hb := Qu.bt_lt s.data.toList i
    have h34 := Qu.cp_small s.data.toList i 34 (by decide)
    have h92 := Qu.cp_small s.data.toList i 92 (by decide)
    have hu := Qu.unit_le (l := s.data.toList) (i := i) (by rw [size_list]; exact c)
    have hu1 := Qu.unit_pos s.data.toList i
    rw [size_list] at hu
    have e1 := inc1 (show i ≤ 100000000 by omega)
    have hstr : strB (ints out) = some ⟨out.toArray⟩ := str_map out
    have hesc := qesc_p (s := s) (i := i) hN hs h1
    rw [sl_eq] at hesc
    simp only [hin, _root_.cond_true, hd, Option.bind_some, cm_eql, cm_neq, cond_not, cond_dec, plain_p, hstr, hesc, e1]
    by_cases d1 : Qu.bt s.data.toList i = 34
    · have d1' : (Qu.cp s.data.toList i : Int) = 34 := by have := h34.2 d1; omega
      simp only [d1, d1', if_true]; rfl
    have d1' : ¬ (Qu.cp s.data.toList i : Int) = 34 := fun e => d1 (h34.1 (by omega))
    simp only [d1, d1', if_false]
    by_cases d2 : Qu.bt s.data.toList i = 92
    · have d2' : (Qu.cp s.data.toList i : Int) = 92 := by have := h92.2 d2; omega
      simp only [d2', if_true]
      unfold Qu.un
      rw [if_pos d2]
      cases hE : Qu.esc s.data.toList i with
      | ok b n =>
        have hb := Qu.esc_two hE
        rw [size_list] at hb
        have ea : ar .add .i64 (i : Int) (n : Int) = ((i + n : Nat) : Int) := by rw [ar_add (by omega) (by omega)]; omega
        have z1 : ¬ (0 : Int) = 1 := by decide
        have eb : ((UInt8.ofNat b).toNat : Int) = (b : Int) := by rw [UInt8.toNat_ofNat']; omega
        simp only [escI, z1, if_false, if_true, app_eq (show (ints out).length + [(b : Int)].length ≤ 1000000000 by simp [ints]; omega), Option.bind_some, ea]
        have := ih (i + n) (out ++ [UInt8.ofNat b]) hb.2.1 (by omega) (by rw [List.length_append, List.length_singleton]; omega)
        rw [← this]
        unfold ints
        rw [List.map_append, List.map_cons, List.map_nil, eb]
      | bad e =>
        have he := esc_bad hE
        simp only [escI]
        rcases he with rfl | rfl
        · show _ = some (gotV (.bad 1 s.data.toList.length))
          rw [size_list]; rfl
        · rfl
    · have d2' : ¬ (Qu.cp s.data.toList i : Int) = 92 := fun e => d2 (h92.1 (by omega))
      simp only [d2', if_false]
      unfold Qu.un
      rw [if_neg d2]
      cases g : Qu.safe s.data.toList i with
      | false =>
        simp only [cond_false, Bool.false_eq_true, if_false]; rfl
      | true =>
        have ea : ar .add .i64 (i : Int) (Qu.unit s.data.toList i : Int) = ((i + Qu.unit s.data.toList i : Nat) : Int) := by rw [ar_add (by omega) (by omega)]; omega
        have eb : Sh.bytes (ss s (i : Int) ((i + Qu.unit s.data.toList i : Nat) : Int)) = ints ((s.data.toList.drop i).take (Qu.unit s.data.toList i)) := by
          unfold Sh.bytes ints
          rw [ss_list (by omega) (by omega), Nat.add_sub_cancel_left]
        have hl : ((s.data.toList.drop i).take (Qu.unit s.data.toList i)).length = Qu.unit s.data.toList i := by
          rw [List.length_take, List.length_drop, size_list]; omega
        simp only [_root_.cond_true, if_true, ea, ssin_nat (s := s) (show i ≤ i + Qu.unit s.data.toList i by omega) hu, eb, app_eq (show (ints out).length + (ints ((s.data.toList.drop i).take (Qu.unit s.data.toList i))).length ≤ 1000000000 by simp only [ints, List.length_map, hl]; omega), Option.bind_some]
        have := ih (i + Qu.unit s.data.toList i) (out ++ (s.data.toList.drop i).take (Qu.unit s.data.toList i)) hu (by omega) (by rw [List.length_append, hl]; omega)
        rw [← this]
        unfold ints
        rw [List.map_append]
theorem rread_from {N : Nat} (hN : 20 ≤ N) (hs : s.size ≤ 100000) : ∀ (m i : Nat) (out : List UInt8), i ≤ s.size → s.size < i + m → out.length ≤ i → r10_Read_l1 N s m ⟨out.toArray⟩ i = some (gotV (Qu.go s.data.toList out i)) := by
  intro m
  induction m with
  | zero => intro i out h1 h2; omega
  | succ m ih =>
    intro i out h1 h2 h3
    unfold r10_Read_l1
    rw [cm_lss, cond_dec, sl_eq]
    by_cases c : i < s.size
    case neg =>
      rw [if_neg (by omega), Qu.go_end (by rw [size_list]; omega), size_list]; rfl
    rw [if_pos (by omega), Qu.go_in (by rw [size_list]; exact c)]
    have hb := Qu.bt_lt s.data.toList i
    have hu := Qu.unit_le (l := s.data.toList) (i := i) (by rw [size_list]; exact c)
    have hu1 := Qu.unit_pos s.data.toList i
    rw [size_list] at hu
    have e1 := inc1 (show i ≤ 100000000 by omega)
    have hcat : ∀ (t : List UInt8) (n : Nat), i + n ≤ s.size → t.length ≤ n → ctB ⟨out.toArray⟩ ⟨t.toArray⟩ = true := fun t n hn ht => by
      unfold ctB
      refine decide_eq_true ?_
      show out.toArray.size + t.toArray.size ≤ _
      rw [List.size_toArray, List.size_toArray]; omega
    have hct : ∀ t : List UInt8, ct (⟨out.toArray⟩ : ByteArray) ⟨t.toArray⟩ = ⟨(out ++ t).toArray⟩ := fun t => by
      apply ByteArray.ext
      show ((⟨out.toArray⟩ : ByteArray) ++ ⟨t.toArray⟩).data = _
      rw [ByteArray.data_append]
      simp
    simp only [sin_in c, ssin_nat (s := s) (Nat.le_refl i) h1, _root_.cond_true, sa_bt, Option.bind_some, cm_eql, cm_neq, cm_lss, cond_not, cond_dec, rsafe_p hN hs c, rrune_p hN hs c, resc_p hs h1, e1]
    by_cases d1 : Qu.bt s.data.toList i = 34
    · have d1' : (Qu.bt s.data.toList i : Int) = 34 := by omega
      simp only [d1, d1', if_true]; rfl
    have d1' : ¬ (Qu.bt s.data.toList i : Int) = 34 := by omega
    simp only [d1, d1', if_false]
    unfold Qu.un
    by_cases d2 : Qu.bt s.data.toList i = 92
    · have d2' : (Qu.bt s.data.toList i : Int) = 92 := by omega
      rw [if_pos d2]
      simp only [d2', if_true, Option.bind_some]
      cases hE : Qu.esc s.data.toList i with
      | ok b n =>
        have hb := Qu.esc_two hE
        rw [size_list] at hb
        have ea : ar .add .i64 (i : Int) (n : Int) = ((i + n : Nat) : Int) := by rw [ar_add (by omega) (by omega)]; omega
        have z1 : ¬ (n : Int) < 0 := by omega
        have z2 : ¬ (n : Int) = 0 := by omega
        have hc := hcat [UInt8.ofNat b] n hb.2.1 (by simp; omega)
        have hc2 := hct [UInt8.ofNat b]
        simp only [escR, z1, z2, if_false, ea]
        rw [show ctB (⟨out.toArray⟩ : ByteArray) ⟨#[UInt8.ofNat b]⟩ = true from hc, show ct (⟨out.toArray⟩ : ByteArray) ⟨#[UInt8.ofNat b]⟩ = _ from hc2, _root_.cond_true]
        exact ih (i + n) (out ++ [UInt8.ofNat b]) hb.2.1 (by omega) (by rw [List.length_append, List.length_singleton]; omega)
      | bad e =>
        have he := esc_bad hE
        simp only [escR]
        rcases he with rfl | rfl
        · show _ = some (gotV (.bad 1 s.data.toList.length))
          rw [size_list]; rfl
        · rfl
    · have d2' : ¬ (Qu.bt s.data.toList i : Int) = 92 := by omega
      simp only [d2, d2', if_false]
      cases g : Qu.safe s.data.toList i with
      | false =>
        have z : ¬ (0 : Int) < 0 := by decide
        simp only [cond_false, Bool.false_eq_true, if_false, Option.bind_some, z, if_true]; rfl
      | true =>
        have hr : 0 < Qu.rune s.data.toList i := by
          unfold Qu.safe at g
          simp only [Bool.and_eq_true, decide_eq_true_eq] at g
          exact g.1.1
        have hur : Qu.unit s.data.toList i = Qu.rune s.data.toList i := by unfold Qu.unit; rw [if_neg (by omega)]
        rw [hur] at hu ⊢
        have ea : ar .add .i64 (i : Int) (Qu.rune s.data.toList i : Int) = ((i + Qu.rune s.data.toList i : Nat) : Int) := by rw [ar_add (by omega) (by omega)]; omega
        have eb : ss s (i : Int) ((i + Qu.rune s.data.toList i : Nat) : Int) = ⟨((s.data.toList.drop i).take (Qu.rune s.data.toList i)).toArray⟩ := by
          apply ByteArray.ext
          apply Array.ext'
          rw [ss_list (by omega) (by omega), Nat.add_sub_cancel_left]
        have hl : ((s.data.toList.drop i).take (Qu.rune s.data.toList i)).length = Qu.rune s.data.toList i := by
          rw [List.length_take, List.length_drop, size_list]; omega
        have z1 : ¬ (Qu.rune s.data.toList i : Int) < 0 := by omega
        have z2 : ¬ (Qu.rune s.data.toList i : Int) = 0 := by omega
        simp only [_root_.cond_true, if_true, ea, ssin_nat (s := s) (show i ≤ i + Qu.rune s.data.toList i by omega) hu, eb, Option.bind_some, z1, z2, if_false, hct, hcat _ _ hu (Nat.le_of_eq hl)]
        exact ih (i + Qu.rune s.data.toList i) (out ++ (s.data.toList.drop i).take (Qu.rune s.data.toList i)) hu (by omega) (by rw [List.length_append, hl]; omega)
theorem qread_p {N : Nat} (hN : 200000 ≤ N) (hs : s.size ≤ 100000) (p : Int) : quote_Read_g N s p = some (gotV (Qu.read s.data.toList p)) := by
  unfold quote_Read_g Qu.read
  simp only [cm_lss, cm_gtr, cm_eql, cm_neq, cond_not, cond_dec, sl_eq, ite_or, Option.bind_some, size_list]
  by_cases c1 : p < 0 ∨ (s.size : Int) < p
  · rw [if_pos c1, if_pos c1]; rfl
  rw [if_neg c1, if_neg c1]
  obtain ⟨i, rfl⟩ : ∃ i : Nat, p = i := ⟨p.toNat, by omega⟩
  rw [Int.toNat_natCast]
  by_cases c2 : (i : Int) = s.size
  · rw [if_pos c2, if_pos c2]; rfl
  rw [if_neg c2, if_neg c2, sin_in (by omega), _root_.cond_true, sa_bt]
  by_cases c3 : Qu.bt s.data.toList i = 34
  · rw [if_pos (by omega), if_neg (by omega), inc1 (by omega), show s.size + 1 = s.data.toList.length + 1 by rw [size_list]]
    exact qread_from (by omega) hs N (i + 1) [] (by omega) (by omega) (by simp)
  · rw [if_neg (by omega), if_pos c3]; rfl
theorem rread_p {N : Nat} (hN : 200000 ≤ N) (hs : s.size ≤ 100000) (p : Int) : r10_Read_g N s p = some (gotV (Qu.read s.data.toList p)) := by
  unfold r10_Read_g Qu.read
  simp only [cm_lss, cm_gtr, cm_eql, cm_neq, cond_not, cond_dec, sl_eq, ite_or, Option.bind_some, size_list]
  by_cases c1 : p < 0 ∨ (s.size : Int) < p
  · rw [if_pos c1, if_pos c1]; rfl
  rw [if_neg c1, if_neg c1]
  obtain ⟨i, rfl⟩ : ∃ i : Nat, p = i := ⟨p.toNat, by omega⟩
  rw [Int.toNat_natCast]
  by_cases c2 : (i : Int) = s.size
  · rw [if_pos c2, if_pos c2]; rfl
  rw [if_neg c2, if_neg c2, sin_in (by omega), _root_.cond_true, sa_bt]
  by_cases c3 : Qu.bt s.data.toList i = 34
  · rw [if_pos (by omega), if_neg (by omega), inc1 (by omega), show s.size + 1 = s.data.toList.length + 1 by rw [size_list]]
    exact rread_from (by omega) hs N (i + 1) [] (by omega) (by omega) (by simp)
  · rw [if_neg (by omega), if_pos c3]; rfl
end
end Pl
end Go.Proofs.YtampjnpnekekiaaGreatDoor
namespace Go.Proofs.YtampjnpnekekiaaGreatDoor.Nm
def letterB (c : Int) : Bool := c == 95 || (decide (97 ≤ c) && decide (c ≤ 122)) || (decide (65 ≤ c) && decide (c ≤ 90))
def digitB (c : Int) : Bool := decide (48 ≤ c) && decide (c ≤ 57)
def signB (c : Int) (first : Bool) : Bool := letterB c || (!first && digitB c)
theorem letterB_lt {c : Int} (h : letterB c = true) : 0 ≤ c ∧ c < 128 := by
  simp [letterB] at h; omega
theorem digitB_lt {c : Int} (h : digitB c = true) : 0 ≤ c ∧ c < 128 := by
  simp [digitB] at h; omega
theorem signB_lt {c : Int} {f : Bool} (h : signB c f = true) : 0 ≤ c ∧ c < 128 := by
  simp only [signB, Bool.or_eq_true, Bool.and_eq_true] at h
  rcases h with h | ⟨_, h⟩
  · exact letterB_lt h
  · exact digitB_lt h
def run (g : Int → Bool → Bool) : Bool → List UInt8 → Nat
  | _, [] => 0
  | f, c :: r => if g c.toNat f then run g false r + 1 else 0
def allB (g : Int → Bool → Bool) (l : List UInt8) : Bool := run g true l == l.length
def labelB (l : List UInt8) : Bool := decide (1 ≤ l.length) && decide (l.length ≤ 32) && allB signB l
theorem run_le (g : Int → Bool → Bool) : ∀ f l, run g f l ≤ l.length
  | _, [] => Nat.le_refl _
  | f, c :: r => by
    unfold run
    have := run_le g false r
    split <;> simp; omega
end Go.Proofs.YtampjnpnekekiaaGreatDoor.Nm
namespace Go.Proofs.YtampjnpnekekiaaGreatDoor
open Go Go.RowKit
set_option linter.unusedVariables false
set_option linter.unusedSimpArgs false
set_option maxRecDepth 10000
open Sh Gn
namespace Pl
theorem letter_p (c : Int) : name_letter_g c = some (Nm.letterB c) := by
  unfold name_letter_g Nm.letterB
  simp only [cm_eql, cm_leq, cond_dec, bind_self]
  by_cases h1 : c = 95
  · subst h1; rfl
  · by_cases h2 : 97 ≤ c <;> by_cases h3 : c ≤ 122 <;> by_cases h4 : 65 ≤ c <;> by_cases h5 : c ≤ 90 <;> simp [h1, h2, h3, h4, h5]
theorem digit_p (c : Int) : name_digit_g c = some (Nm.digitB c) := by
  unfold name_digit_g Nm.digitB
  simp only [cm_eql, cm_leq, cond_dec, bind_self]
  by_cases h2 : 48 ≤ c <;> by_cases h3 : c ≤ 57 <;> simp [h2, h3]
theorem rsign_p (c : Int) (f : Bool) : r09_sign_g c f = some (Nm.signB c f) := by
  unfold r09_sign_g Nm.signB Nm.letterB Nm.digitB
  simp only [cm_eql, cm_leq, cm_geq, cond_dec, cond_not, bind_self]
  by_cases h1 : c = 95
  · subst h1; rfl
  · by_cases h2 : 97 ≤ c <;> by_cases h3 : c ≤ 122 <;> by_cases h4 : 65 ≤ c <;> by_cases h5 : c ≤ 90 <;> by_cases h6 : 48 ≤ c <;> by_cases h7 : c ≤ 57 <;> cases f <;> simp [h1, h2, h3, h4, h5, h6, h7]
def runAt (s : ByteArray) (f : Bool) (k : Nat) : Nat := Nm.run Nm.signB f (s.data.toList.drop k)
section
variable {s : ByteArray}
theorem runAt_end {k : Nat} {f : Bool} (h : ¬ k < s.size) : runAt s f k = 0 := by
  unfold runAt; rw [List.drop_of_length_le (by rw [size_list]; omega)]; rfl
theorem runAt_in {k : Nat} {f : Bool} (h : k < s.size) : runAt s f k = if Nm.signB (s[k].toNat) f then runAt s false (k + 1) + 1 else 0 := by
  unfold runAt
  rw [List.drop_eq_getElem_cons (by rw [size_list]; exact h)]
  rfl
theorem dec_p (k : Nat) (h : k < s.size) (f : Bool) : Nm.signB (s[k].toNat) f = Nm.signB (Utf8.decode s k).1 f ∧ (Nm.signB (Utf8.decode s k).1 f = true → (Utf8.decode s k).2 = 1) := by
  by_cases ha : (s[k]'h).toNat < 128
  · rw [decode_ascii s k h ha]; exact ⟨rfl, fun _ => rfl⟩
  · have hd := decode_high s k h (by omega)
    have e1 : Nm.signB (Utf8.decode s k).1 f = false := by
      cases e : Nm.signB (Utf8.decode s k).1 f with
      | false => rfl
      | true => have := Nm.signB_lt e; omega
    have e2 : Nm.signB (s[k].toNat) f = false := by
      cases e : Nm.signB (s[k].toNat) f with
      | false => rfl
      | true => have := Nm.signB_lt e; omega
    exact ⟨by rw [e1, e2], fun e => by rw [e1] at e; cases e⟩
theorem ask_p (c : Int) (k : Nat) : ((name_letter_g c).bind fun a4 => cond (!a4) (cond (cm .eql (k : Int) 0) (some true) ((name_digit_g c).bind fun a5 => some !a5)) (some false)) = some (!Nm.signB c (k == 0)) := by
  rw [letter_p, digit_p]
  simp only [Option.bind_some, cond_not, cm_eql, cond_dec]
  unfold Nm.signB
  cases k with
  | zero => cases Nm.letterB c <;> rfl
  | succ k =>
    have : ¬ ((k + 1 : Nat) : Int) = 0 := by omega
    simp only [this, if_false]
    have e : (k + 1 == 0) = false := rfl
    rw [e]
    cases Nm.letterB c <;> rfl
theorem label_from : ∀ (m k : Nat), k ≤ s.size → s.size < k + m → name_Label_l1 s m k = some (decide (runAt s (k == 0) k = s.size - k)) := by
  intro m
  induction m with
  | zero => intro k h1 h2; omega
  | succ m ih =>
    intro k h1 h2
    unfold name_Label_l1 nx
    rw [Int.toNat_natCast]
    by_cases c : k < s.size
    · rw [if_pos c]; dsimp only; rw [ask_p, runAt_in c]
      obtain ⟨e1, e2⟩ := dec_p (s := s) k c (k == 0)
      rw [e1]
      cases g : Nm.signB (Utf8.decode s k).1 (k == 0) with
      | false =>
        simp only [Option.bind_some, Bool.not_false, _root_.cond_true, Bool.false_eq_true, if_false]
        have : ¬ 0 = s.size - k := by omega
        rw [decide_eq_false this]
      | true =>
        have h3 : (k : Int) + ((Utf8.decode s k).2 : Int) = ((k + 1 : Nat) : Int) := by rw [e2 g]; rfl
        simp only [Option.bind_some, Bool.not_true, cond_false, if_true]
        rw [h3, ih (k + 1) (by omega) (by omega)]
        have e : (k + 1 == 0) = false := rfl
        rw [e]
        congr 1
        exact decide_eq_decide.2 (by omega)
    · rw [if_neg c, runAt_end c, decide_eq_true (by omega)]
theorem cut_from {p0 : ByteArray} {p1 : Int} {r : Nat} (hs : ss p0 p1 (sl p0) = s) (hr : runAt s true 0 = r) : ∀ (m k : Nat), k ≤ s.size → s.size < k + m → k + runAt s (k == 0) k = r →
    name_Cut_l1 p0 p1 m k = some (if r = s.size then (s, sl p0) else (ss s 0 (r : Int), ar .add .i64 p1 (r : Int))) := by
  intro m
  induction m with
  | zero => intro k h1 h2; omega
  | succ m ih =>
    intro k h1 h2 h3
    unfold name_Cut_l1 nx
    rw [hs, Int.toNat_natCast]
    by_cases c : k < s.size
    · rw [if_pos c]; dsimp only; rw [ask_p]
      rw [runAt_in c] at h3
      obtain ⟨e1, e2⟩ := dec_p (s := s) k c (k == 0)
      rw [e1] at h3
      cases g : Nm.signB (Utf8.decode s k).1 (k == 0) with
      | false =>
        rw [g] at h3
        have h3 : k = r := by simpa using h3
        have hin : ssinB s 0 (k : Int) = true := by simp [ssinB]; omega
        simp only [Option.bind_some, Bool.not_false, _root_.cond_true, hin]
        rw [h3, if_neg (by omega)]
      | true =>
        rw [g] at h3
        have h4 : (k : Int) + ((Utf8.decode s k).2 : Int) = ((k + 1 : Nat) : Int) := by rw [e2 g]; rfl
        simp only [Option.bind_some, Bool.not_true, cond_false]
        rw [h4]
        have e : (k + 1 == 0) = false := rfl
        exact ih (k + 1) (by omega) (by omega) (by rw [e]; simp only [if_true] at h3; omega)
    · rw [if_neg c]
      rw [runAt_end c] at h3
      rw [if_pos (by omega)]
theorem rlabel_from (hs : s.size ≤ 100000) : ∀ (m k : Nat), k ≤ s.size → s.size < k + m → r09_Label_l1 s m k = some (decide (runAt s (k == 0) k = s.size - k)) := by
  intro m
  induction m with
  | zero => intro k h1 h2; omega
  | succ m ih =>
    intro k h1 h2
    unfold r09_Label_l1
    rw [cm_lss, sl_eq, cond_dec]
    by_cases c : k < s.size
    · have e0 : (cm .eql (k : Int) 0) = (k == 0) := by rw [cm_eql]; cases k <;> simp; omega
      have e1 := inc1 (show k ≤ 100000000 by omega)
      have ea : sa s (k : Int) = (s[k].toNat : Int) := by
        show ((s.data.getD _ 0).toNat : Int) = _
        rw [Int.toNat_natCast, Array.getD_eq_getD_getElem?, Array.getElem?_eq_getElem c]; rfl
      rw [if_pos (by omega), sin_in c, _root_.cond_true, rsign_p, e0, e1, ea, runAt_in c]
      cases g : Nm.signB (s[k].toNat) (k == 0) with
      | false =>
        simp only [Option.bind_some, Bool.not_false, _root_.cond_true, Bool.false_eq_true, if_false]
        have : ¬ 0 = s.size - k := by omega
        rw [decide_eq_false this]
      | true =>
        simp only [Option.bind_some, Bool.not_true, cond_false, if_true]
        rw [ih (k + 1) (by omega) (by omega)]
        have e : (k + 1 == 0) = false := rfl
        rw [e]
        congr 1
        exact decide_eq_decide.2 (by omega)
    · rw [if_neg (by omega), runAt_end c, decide_eq_true (by omega)]
def lab (s : ByteArray) : Bool := decide (1 ≤ s.size ∧ s.size ≤ 32 ∧ runAt s true 0 = s.size)
theorem label_p {N : Nat} (hN : 1000 ≤ N) : name_Label_g N s = some (lab s) := by
  unfold name_Label_g lab
  rw [sc_eql, cm_gtr, cond_dec, sl_eq]
  by_cases c : 1 ≤ s.size
  · have c' : ¬ s = ByteArray.empty := fun e => by subst e; exact absurd c (by decide)
    rw [if_neg c']
    by_cases c2 : s.size ≤ 32
    · have : ¬ (32 : Int) < (s.size : Int) := by omega
      rw [decide_eq_false this]
      simp only [Option.bind_some, cond_false]
      rw [show (0 : Int) = ((0 : Nat) : Int) from rfl, label_from N 0 (by omega) (by omega)]
      simp [c, c2]
    · have : (32 : Int) < (s.size : Int) := by omega
      rw [decide_eq_true this]
      simp [c2]
  · have c' : s = ByteArray.empty := by
      apply ByteArray.ext
      apply Array.eq_empty_of_size_eq_zero
      show s.size = 0
      omega
    rw [if_pos c']
    simp [c]
theorem rlabel_p {N : Nat} (hN : 1000 ≤ N) : r09_Label_g N s = some (lab s) := by
  unfold r09_Label_g lab
  rw [cm_gtr, cm_lss, cond_dec, sl_eq]
  by_cases c : 1 ≤ s.size
  · rw [if_neg (by omega)]
    by_cases c2 : s.size ≤ 32
    · have : ¬ (32 : Int) < (s.size : Int) := by omega
      rw [decide_eq_false this]
      simp only [Option.bind_some, cond_false]
      rw [show (0 : Int) = ((0 : Nat) : Int) from rfl, rlabel_from (by omega) N 0 (by omega) (by omega)]
      simp [c, c2]
    · have : (32 : Int) < (s.size : Int) := by omega
      rw [decide_eq_true this]
      simp [c2]
  · rw [if_pos (by omega)]
    simp [c]
end
end Pl
end Go.Proofs.YtampjnpnekekiaaGreatDoor
namespace Go.Proofs.YtampjnpnekekiaaGreatDoor
open Go
namespace Mx
abbrev Pos := Nat → Bool
def zr : Pos := fun _ => false
def orP (a b : Pos) : Pos := fun j => a j || b j
def single (i : Nat) : Pos := fun j => j == i
def one (S : CSet) (s : List UInt8) (x : Pos) : Pos := fun j => match j with
  | 0 => false
  | i + 1 => x i && (match s[i]? with | some c => S.has c.toNat | _ => false)
def iter (f : Pos → Pos) : Nat → Pos → Pos
  | 0, x => x
  | k + 1, x => iter f k (f x)
def upto (f : Pos → Pos) : Nat → Pos → Pos
  | 0, x => x
  | k + 1, x => orP x (f (upto f k x))
def more (long : Nat) (mn mx : Int) : Nat := if mx = -1 then long else (mx - mn).toNat
mutual
def sp (s : List UInt8) : Node → Pos → Pos
  | .mk k S kids mn mx => fun x => if k = 1 then one S s x else if k = 2 then spCat s kids x else if k = 3 then spAlt s kids x else spRep s kids mn mx x
def spCat (s : List UInt8) : List Node → Pos → Pos
  | [] => fun x => x
  | n :: r => fun x => spCat s r (sp s n x)
def spAlt (s : List UInt8) : List Node → Pos → Pos
  | [] => fun _ => zr
  | n :: r => fun x => orP (sp s n x) (spAlt s r x)
def spRep (s : List UInt8) (kids : List Node) (mn mx : Int) : Pos → Pos := match kids with
  | [] => fun _ => zr
  | n :: _ => fun x => upto (sp s n) (more s.length mn mx) (iter (sp s n) mn.toNat x)
end
structure Adds (f : Pos → Pos) : Prop where
  or_ : ∀ a b, f (orP a b) = orP (f a) (f b)
  none_ : f zr = zr
theorem or_self (a : Pos) : orP a a = a := by funext j; simp [orP]
theorem or_assoc (a b c : Pos) : orP (orP a b) c = orP a (orP b c) := by funext j; simp [orP, Bool.or_assoc]
theorem or_four (a b c d : Pos) : orP (orP a b) (orP c d) = orP (orP a c) (orP b d) := by
  funext j; simp only [orP]; cases a j <;> cases b j <;> cases c j <;> cases d j <;> rfl
theorem Adds.comp {f g : Pos → Pos} (hf : Adds f) (hg : Adds g) : Adds (fun x => g (f x)) := ⟨fun a b => by rw [hf.or_, hg.or_], by rw [hf.none_, hg.none_]⟩
theorem Adds.id : Adds (fun x => x) := ⟨fun _ _ => rfl, rfl⟩
theorem Adds.zr : Adds (fun _ => zr) := ⟨fun _ _ => (or_self _).symm, rfl⟩
theorem Adds.orP {f g : Pos → Pos} (hf : Adds f) (hg : Adds g) : Adds (fun x => orP (f x) (g x)) := ⟨fun a b => by rw [hf.or_, hg.or_, or_four], by rw [hf.none_, hg.none_, or_self]⟩
theorem Adds.iter {f : Pos → Pos} (hf : Adds f) : ∀ k, Adds (iter f k)
  | 0 => Adds.id
  | k + 1 => hf.comp (Adds.iter hf k)
theorem Adds.upto {f : Pos → Pos} (hf : Adds f) : ∀ k, Adds (upto f k)
  | 0 => Adds.id
  | k + 1 => Adds.orP Adds.id ((Adds.upto hf k).comp hf)
def Sup (N : Nat) (x : Pos) : Prop := ∀ j, N ≤ j → x j = false
def Keeps (N : Nat) (f : Pos → Pos) : Prop := ∀ x, Sup N x → Sup N (f x)
theorem Sup.orP {N : Nat} {a b : Pos} (ha : Sup N a) (hb : Sup N b) : Sup N (orP a b) := fun j hj => by simp [Mx.orP, ha j hj, hb j hj]
theorem Keeps.iter {N : Nat} {f : Pos → Pos} (hf : Keeps N f) : ∀ k, Keeps N (iter f k)
  | 0 => fun _ h => h
  | k + 1 => fun x h => Keeps.iter hf k _ (hf x h)
theorem Keeps.upto {N : Nat} {f : Pos → Pos} (hf : Keeps N f) : ∀ k, Keeps N (upto f k)
  | 0 => fun _ h => h
  | k + 1 => fun x h => h.orP (hf _ (Keeps.upto hf k x h))
def Le (a b : Pos) : Prop := ∀ j, a j = true → b j = true
theorem le_or_right (a b : Pos) : Le b (orP a b) := fun j h => by simp [orP, h]
theorem or_of_le {a b : Pos} (h : Le b a) : orP a b = a := by
  funext j
  simp only [orP]
  cases hb : b j
  · simp
  · simp [h j hb]
theorem Adds.mono {f : Pos → Pos} (hf : Adds f) {a b : Pos} (h : Le a b) : Le (f a) (f b) := by
  have e : b = Mx.orP b a := (or_of_le h).symm
  rw [e, hf.or_]
  exact le_or_right _ _
end Mx
end Go.Proofs.YtampjnpnekekiaaGreatDoor
namespace Go.Proofs.YtampjnpnekekiaaGreatDoor
open Go
namespace Rx
structure Emb (l m : List UInt8) (k : Nat) (c : Int) : Prop where
  at_ : ∀ i, i < l.length → pk m (i + k) = pk l i
  end_ : pk m (l.length + k) = c
  len : l.length + k ≤ m.length
  term : c = -1 ∨ c = 41 ∨ c = 124
section
variable {l m : List UInt8} {k : Nat} {c : Int}
theorem Emb.get (E : Emb l m k c) {i : Nat} (h : pk l i ≠ -1) : pk m (i + k) = pk l i := E.at_ i (pk_in h)
theorem pk_out {i : Nat} (h : l.length ≤ i) : pk l i = -1 := by unfold pk; rw [List.getElem?_eq_none h]
theorem Emb.test (E : Emb l m k c) {i : Nat} (hi : i ≤ l.length) {b : Int} (h1 : b ≠ -1) (h2 : b ≠ 41) (h3 : b ≠ 124) : pk m (i + k) = b ↔ pk l i = b := by
  rcases Nat.lt_or_ge i l.length with h | h
  · rw [E.at_ i h]
  · obtain rfl : i = l.length := by omega
    rw [E.end_, pk_out (Nat.le_refl _)]
    have := E.term
    constructor <;> intro e <;> omega
def Sh {α : Type} (k : Nat) (r r' : Res α) : Prop := ∀ a p, r = .ok a p → r' = .ok a (p + k)
def Sim {α : Type} (k : Nat) (L : Prop) (r r' : Res α) : Prop := ∀ a p, r = .ok a p → r' = .ok a (p + k) ∨ (L ∧ ∃ q, r' = .bad 3 q)
variable {at1 at2 : Nat → Res Node} {L : Prop}
variable (hf : ∀ i, i ≤ l.length → Fine l i (at1 i)) (ha : ∀ i, i ≤ l.length → Sim k L (at1 i) (at2 (i + k)))
include hf ha
end
end Rx
namespace Rx
def Bads {α : Type} (l : List UInt8) (r : Res α) : Prop := ∀ e p, r = .bad e p → (e = 1 ∨ e = 2 ∨ e = 3) ∧ p ≤ l.length
variable {l : List UInt8}
theorem cats_end {at1 : Nat → Res Node} : ∀ (f : Nat) (ns : List Node) (i : Nat) {ms : List Node} {p : Nat}, cats l at1 f ns i = .ok ms p → pk l p ≠ 124
  | 0, ns, i, ms, p, h => by cases h
  | f + 1, ns, i, ms, p, h => by
    unfold cats at h
    by_cases h1 : pk l i = 124
    · rw [if_pos h1] at h
      cases hr : cat l at1 (i + 1) with
      | bad e q => rw [hr] at h; cases h
      | out => rw [hr] at h; cases h
      | ok n q => rw [hr] at h; exact cats_end f _ q h
    · rw [if_neg h1] at h; cases h; exact h1
end Rx
end Go.Proofs.YtampjnpnekekiaaGreatDoor
