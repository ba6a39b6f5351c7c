/- The reference of the pattern reader, plainly: what its plain functions come to. -/
import Derived.Test.YtampjnpnekekiaaDoorK128
import Derived.Lib.DecodeN
namespace Go.Proofs.YtampjnpnekekiaaDoor
open Go
set_option linter.unusedVariables false
set_option linter.unusedSimpArgs false
set_option maxRecDepth 10000
open Sh Gn
namespace Pl
theorem bind_self {α : Type} {o : Option α} : (o.bind fun x => some x) = o := by cases o <;> rfl
theorem size_list (s : ByteArray) : s.data.toList.length = s.size := by simp
section
variable {s : ByteArray} {i : Nat}
theorem sin_in (h : i < s.size) : sinB s (i : Int) = true := by simp [sinB, h]
theorem inc (h : i ≤ 100000000) (k : Nat) (hk : k ≤ 1000) : ar .add .i64 (i : Int) (k : Int) = ((i + k : Nat) : Int) := by rw [ar_add (by omega) (by omega)]; omega
theorem inc1 (h : i ≤ 100000000) : ar .add .i64 (i : Int) 1 = ((i + 1 : Nat) : Int) := inc h 1 (by omega)
end
end Pl
end Go.Proofs.YtampjnpnekekiaaDoor
namespace Go.Proofs.YtampjnpnekekiaaDoor
open Go
set_option linter.unusedVariables false
set_option linter.unusedSimpArgs false
set_option maxRecDepth 10000
open Sh Gn
namespace Pl
theorem app_eq {α : Type} {c : α → List Ab.T} {l m : List α} (h : l.length + m.length ≤ 1000000000) : app c l m = some (l ++ m) := by unfold app; rw [if_pos h]
end Pl
end Go.Proofs.YtampjnpnekekiaaDoor
namespace Go.Proofs.YtampjnpnekekiaaDoor
open Go Go.Lib
namespace Qu
def runeN (n b0 b1 b2 b3 : Nat) : Nat :=
  if b0 < 128 then 1
  else if 194 ≤ b0 ∧ b0 ≤ 223 ∧ 1 < n ∧ 128 ≤ b1 ∧ b1 ≤ 191 then 2
  else if 224 ≤ b0 ∧ b0 ≤ 239 ∧ (2 < n ∧ 128 ≤ b1 ∧ b1 ≤ 191 ∧ 128 ≤ b2 ∧ b2 ≤ 191) ∧ (b0 ≠ 224 ∨ 160 ≤ b1) ∧ (b0 ≠ 237 ∨ b1 < 160) then 3
  else if 240 ≤ b0 ∧ b0 ≤ 244 ∧ (3 < n ∧ 128 ≤ b1 ∧ b1 ≤ 191 ∧ 128 ≤ b2 ∧ b2 ≤ 191 ∧ 128 ≤ b3 ∧ b3 ≤ 191) ∧ (b0 ≠ 240 ∨ 144 ≤ b1) ∧ (b0 ≠ 244 ∨ b1 < 144) then 4
  else 0
theorem decode_rune (n b0 b1 b2 b3 : Nat) (h0 : b0 < 256) (h1 : b1 < 256) (h2 : b2 < 256) (h3 : b3 < 256) :
    (runeN n b0 b1 b2 b3 = 0 ∧ decodeN n b0 b1 b2 b3 = (65533, 1)) ∨ (runeN n b0 b1 b2 b3 = 1 ∧ b0 < 128 ∧ decodeN n b0 b1 b2 b3 = (b0, 1)) ∨
    (2 ≤ runeN n b0 b1 b2 b3 ∧ 128 ≤ b0 ∧ 128 ≤ (decodeN n b0 b1 b2 b3).1 ∧ (decodeN n b0 b1 b2 b3).2 = runeN n b0 b1 b2 b3) := by
  by_cases c1 : b0 < 128
  · right; left
    exact ⟨by unfold runeN; rw [if_pos c1], c1, by unfold decodeN; rw [if_pos c1]⟩
  by_cases c2 : 194 ≤ b0 ∧ b0 ≤ 223 ∧ 1 < n ∧ 128 ≤ b1 ∧ b1 ≤ 191
  · right; right
    have e1 : runeN n b0 b1 b2 b3 = 2 := by unfold runeN; rw [if_neg c1, if_pos c2]
    have e2 : decodeN n b0 b1 b2 b3 = (b0 % 32 * 64 + b1 % 64, 2) := by
      unfold decodeN
      rw [if_neg c1, if_pos (by omega), if_pos (by omega)]
    rw [e1, e2]
    exact ⟨by omega, by omega, by dsimp only; omega, rfl⟩
  by_cases c3 : 224 ≤ b0 ∧ b0 ≤ 239 ∧ (2 < n ∧ 128 ≤ b1 ∧ b1 ≤ 191 ∧ 128 ≤ b2 ∧ b2 ≤ 191) ∧ (b0 ≠ 224 ∨ 160 ≤ b1) ∧ (b0 ≠ 237 ∨ b1 < 160)
  · right; right
    have e1 : runeN n b0 b1 b2 b3 = 3 := by unfold runeN; rw [if_neg c1, if_neg c2, if_pos c3]
    have e2 : decodeN n b0 b1 b2 b3 = (b0 % 16 * 4096 + b1 % 64 * 64 + b2 % 64, 3) := by
      unfold decodeN
      rw [if_neg c1, if_neg (by omega), if_pos (by omega), if_pos (by omega)]
    rw [e1, e2]
    exact ⟨by omega, by omega, by dsimp only; omega, rfl⟩
  by_cases c4 : 240 ≤ b0 ∧ b0 ≤ 244 ∧ (3 < n ∧ 128 ≤ b1 ∧ b1 ≤ 191 ∧ 128 ≤ b2 ∧ b2 ≤ 191 ∧ 128 ≤ b3 ∧ b3 ≤ 191) ∧ (b0 ≠ 240 ∨ 144 ≤ b1) ∧ (b0 ≠ 244 ∨ b1 < 144)
  · right; right
    have e1 : runeN n b0 b1 b2 b3 = 4 := by unfold runeN; rw [if_neg c1, if_neg c2, if_neg c3, if_pos c4]
    have e2 : decodeN n b0 b1 b2 b3 = (b0 % 8 * 262144 + b1 % 64 * 4096 + b2 % 64 * 64 + b3 % 64, 4) := by
      unfold decodeN
      rw [if_neg c1, if_neg (by omega), if_neg (by omega), if_pos (by omega), if_pos (by omega)]
    rw [e1, e2]
    exact ⟨by omega, by omega, by dsimp only; omega, rfl⟩
  · left
    refine ⟨by unfold runeN; rw [if_neg c1, if_neg c2, if_neg c3, if_neg c4], ?_⟩
    unfold decodeN
    rw [if_neg c1]
    by_cases d2 : b0 / 32 = 6 ∧ (1 < n ∧ b1 / 64 = 2)
    · rw [if_pos d2, if_neg (by omega)]
    rw [if_neg d2]
    by_cases d3 : b0 / 16 = 14 ∧ (1 < n ∧ b1 / 64 = 2) ∧ (2 < n ∧ b2 / 64 = 2)
    · rw [if_pos d3, if_neg (by omega)]
    rw [if_neg d3]
    by_cases d4 : b0 / 8 = 30 ∧ (1 < n ∧ b1 / 64 = 2) ∧ (2 < n ∧ b2 / 64 = 2) ∧ (3 < n ∧ b3 / 64 = 2)
    · rw [if_pos d4, if_neg (by omega)]
    rw [if_neg d4]
def bt (l : List UInt8) (i : Nat) : Nat := match l[i]? with | some b => b.toNat | none => 0
theorem bt_lt (l : List UInt8) (i : Nat) : bt l i < 256 := by
  unfold bt
  split
  · rename_i b _; exact b.toNat_lt
  · omega
def rune (l : List UInt8) (i : Nat) : Nat := runeN (l.length - i) (bt l i) (bt l (i + 1)) (bt l (i + 2)) (bt l (i + 3))
def unit (l : List UInt8) (i : Nat) : Nat := if rune l i = 0 then 1 else rune l i
theorem unit_pos (l : List UInt8) (i : Nat) : 1 ≤ unit l i := by unfold unit; split <;> omega
theorem runeN_le (n b0 b1 b2 b3 : Nat) (hn : 0 < n) : runeN n b0 b1 b2 b3 ≤ n := by
  unfold runeN
  repeat' split
  all_goals omega
theorem unit_le {l : List UInt8} {i : Nat} (h : i < l.length) : i + unit l i ≤ l.length := by
  have := runeN_le (l.length - i) (bt l i) (bt l (i + 1)) (bt l (i + 2)) (bt l (i + 3)) (by omega)
  unfold unit rune
  split <;> omega
def safe (l : List UInt8) (i : Nat) : Bool := decide (0 < rune l i) && decide (32 ≤ bt l i) && decide (bt l i ≠ 127)
def cp (l : List UInt8) (i : Nat) : Nat := (decodeN (l.length - i) (bt l i) (bt l (i + 1)) (bt l (i + 2)) (bt l (i + 3))).1
theorem cp_unit (l : List UInt8) (i : Nat) : decodeN (l.length - i) (bt l i) (bt l (i + 1)) (bt l (i + 2)) (bt l (i + 3)) = (cp l i, unit l i) := by
  have h := decode_rune (l.length - i) (bt l i) (bt l (i + 1)) (bt l (i + 2)) (bt l (i + 3)) (bt_lt _ _) (bt_lt _ _) (bt_lt _ _) (bt_lt _ _)
  refine Prod.ext rfl ?_
  show _ = unit l i
  unfold unit rune
  rcases h with ⟨h1, h2⟩ | ⟨h1, _, h2⟩ | ⟨h1, _, _, h2⟩
  · rw [if_pos h1, h2]
  · rw [if_neg (by omega), h1, h2]
  · rw [if_neg (by omega), h2]
theorem cp_small (l : List UInt8) (i b : Nat) (hb : b < 128) : cp l i = b ↔ bt l i = b := by
  have h := decode_rune (l.length - i) (bt l i) (bt l (i + 1)) (bt l (i + 2)) (bt l (i + 3)) (bt_lt _ _) (bt_lt _ _) (bt_lt _ _) (bt_lt _ _)
  unfold cp
  by_cases c : bt l i < 128
  · have e : decodeN (l.length - i) (bt l i) (bt l (i + 1)) (bt l (i + 2)) (bt l (i + 3)) = (bt l i, 1) := by unfold decodeN; rw [if_pos c]
    rw [e]
  · rcases h with ⟨h1, h2⟩ | ⟨h1, h3, h2⟩ | ⟨h1, h3, h4, h2⟩
    · rw [h2]; dsimp only; omega
    · omega
    · omega
theorem plain_safe (l : List UInt8) (i : Nat) : (32 ≤ cp l i ∧ cp l i ≠ 127 ∧ (cp l i ≠ 65533 ∨ 1 < unit l i)) ↔ safe l i = true := by
  have h := decode_rune (l.length - i) (bt l i) (bt l (i + 1)) (bt l (i + 2)) (bt l (i + 3)) (bt_lt _ _) (bt_lt _ _) (bt_lt _ _) (bt_lt _ _)
  have hu := cp_unit l i
  have e : cp l i = (decodeN (l.length - i) (bt l i) (bt l (i + 1)) (bt l (i + 2)) (bt l (i + 3))).1 := rfl
  unfold safe unit rune
  simp only [Bool.and_eq_true, decide_eq_true_eq]
  rcases h with ⟨h1, h2⟩ | ⟨h1, h3, h2⟩ | ⟨h1, h3, h4, h2⟩
  · rw [e, h2, h1]; simp
  · rw [e, h2, h1]; simp; omega
  · rw [e, if_neg (by omega)]
    constructor
    · rintro ⟨a, b, c⟩; exact ⟨⟨by omega, by omega⟩, by omega⟩
    · rintro ⟨⟨a, b⟩, c⟩; exact ⟨by omega, by omega, Or.inr (by omega)⟩
def hexd (n : Nat) : UInt8 := if n < 10 then UInt8.ofNat (48 + n) else UInt8.ofNat (87 + n)
def enc (l : List UInt8) (i : Nat) : List UInt8 :=
  if bt l i = 34 ∨ bt l i = 92 then [92, UInt8.ofNat (bt l i)] else if safe l i = true then (l.drop i).take (unit l i) else [92, 120, hexd (bt l i / 16), hexd (bt l i % 16)]
def encs (l : List UInt8) : Nat → Nat → List UInt8
  | 0, _ => []
  | f + 1, i => if i < l.length then enc l i ++ encs l f (i + unit l i) else []
def text (l : List UInt8) : List UInt8 := 34 :: (encs l (l.length + 1) 0 ++ [34])
theorem encs_fuel (l : List UInt8) : ∀ (f g i : Nat), l.length < i + f → l.length < i + g → encs l f i = encs l g i
  | 0, 0, _, _, _ => rfl
  | 0, g + 1, i, h, _ => by rw [encs, encs, if_neg (by omega)]
  | f + 1, 0, i, _, h => by rw [encs, encs, if_neg (by omega)]
  | f + 1, g + 1, i, h, h' => by
    rw [encs, encs]
    by_cases c : i < l.length
    · rw [if_pos c, if_pos c, encs_fuel l f g (i + unit l i) (by have := unit_pos l i; omega) (by have := unit_pos l i; omega)]
    · rw [if_neg c, if_neg c]
def rest (l : List UInt8) (i : Nat) : List UInt8 := encs l (l.length + 1) i
theorem rest_in {l : List UInt8} {i : Nat} (h : i < l.length) : rest l i = enc l i ++ rest l (i + unit l i) := by
  have hp := unit_pos l i
  unfold rest
  rw [encs, if_pos h, encs_fuel l l.length (l.length + 1) _ (by omega) (by omega)]
theorem rest_end {l : List UInt8} {i : Nat} (h : l.length ≤ i) : rest l i = [] := by unfold rest; rw [encs, if_neg (by omega)]
theorem text_eq (l : List UInt8) : text l = 34 :: (rest l 0 ++ [34]) := rfl
def dig (b : Nat) : Nat := if 48 ≤ b ∧ b ≤ 57 then b - 48 else if 97 ≤ b ∧ b ≤ 102 then b - 87 else 16
inductive Esc where
  | ok (b : Nat) (n : Nat)
  | bad (e : Nat)
  deriving DecidableEq
def esc (l : List UInt8) (i : Nat) : Esc :=
  if l.length < i + 2 then .bad 1
  else if bt l (i + 1) = 34 ∨ bt l (i + 1) = 92 then .ok (bt l (i + 1)) 2
  else if bt l (i + 1) ≠ 120 then .bad 2
  else if l.length < i + 3 then .bad 1
  else if dig (bt l (i + 2)) = 16 then .bad 2
  else if l.length < i + 4 then .bad 1
  else if dig (bt l (i + 3)) = 16 then .bad 2
  else .ok (16 * dig (bt l (i + 2)) + dig (bt l (i + 3))) 4
inductive Got where
  | ok (t : List UInt8) (p : Nat)
  | bad (e : Nat) (p : Nat)
inductive Un where
  | ok (t : List UInt8) (n : Nat)
  | bad (e : Nat) (p : Nat)
def un (l : List UInt8) (i : Nat) : Un :=
  if bt l i = 92 then (match esc l i with | .ok b n => .ok [UInt8.ofNat b] n | .bad e => .bad e (if e = 1 then l.length else i))
  else if safe l i = true then .ok ((l.drop i).take (unit l i)) (unit l i)
  else .bad 2 i
def body (l : List UInt8) : Nat → List UInt8 → Nat → Got
  | 0, _, _ => .bad 1 l.length
  | f + 1, out, i =>
    if i < l.length then
      if bt l i = 34 then .ok out (i + 1)
      else match un l i with
        | .ok t n => body l f (out ++ t) (i + n)
        | .bad e p => .bad e p
    else .bad 1 l.length
def read (l : List UInt8) (at_ : Int) : Got :=
  if at_ < 0 ∨ (l.length : Int) < at_ then .bad 7 0
  else if at_ = l.length then .bad 1 at_.toNat
  else if bt l at_.toNat ≠ 34 then .bad 2 at_.toNat
  else body l (l.length + 1) [] (at_.toNat + 1)
theorem esc_two {l : List UInt8} {i b n : Nat} (h : esc l i = .ok b n) : 2 ≤ n ∧ i + n ≤ l.length ∧ b < 256 := by
  have h1 := bt_lt l (i + 1)
  have hd : ∀ b, dig b ≤ 16 := fun b => by unfold dig; (repeat' split) <;> omega
  have h2 := hd (bt l (i + 2))
  have h3 := hd (bt l (i + 3))
  unfold esc at h
  (repeat' split at h) <;> first | (cases h; done) | (obtain ⟨rfl, rfl⟩ := Esc.ok.inj h; omega)
theorem un_pos {l : List UInt8} {i n : Nat} {t : List UInt8} (hi : i < l.length) (h : un l i = .ok t n) : 1 ≤ n ∧ i + n ≤ l.length := by
  unfold un at h
  split at h
  · cases he : esc l i with
    | ok b m =>
      rw [he] at h
      obtain ⟨rfl, rfl⟩ := Un.ok.inj h
      have := esc_two he
      omega
    | bad e => rw [he] at h; cases h
  · split at h
    · obtain ⟨rfl, rfl⟩ := Un.ok.inj h
      exact ⟨unit_pos l i, unit_le hi⟩
    · cases h
theorem body_fuel (l : List UInt8) : ∀ (f g : Nat) (out : List UInt8) (i : Nat), l.length < i + f → l.length < i + g → body l f out i = body l g out i
  | 0, 0, _, _, _, _ => rfl
  | 0, g + 1, out, i, h, _ => by rw [body, body, if_neg (by omega)]
  | f + 1, 0, out, i, _, h => by rw [body, body, if_neg (by omega)]
  | f + 1, g + 1, out, i, h, h' => by
    rw [body, body]
    by_cases c : i < l.length
    · rw [if_pos c, if_pos c]
      by_cases d : bt l i = 34
      · rw [if_pos d, if_pos d]
      · rw [if_neg d, if_neg d]
        cases hu : un l i with
        | ok t n =>
          have := un_pos c hu
          exact body_fuel l f g (out ++ t) (i + n) (by omega) (by omega)
        | bad e p => rfl
    · rw [if_neg c, if_neg c]
def go (l : List UInt8) (out : List UInt8) (i : Nat) : Got := body l (l.length + 1) out i
theorem go_in {l out : List UInt8} {i : Nat} (h : i < l.length) : go l out i = if bt l i = 34 then .ok out (i + 1) else match un l i with | .ok t n => go l (out ++ t) (i + n) | .bad e p => .bad e p := by
  unfold go
  rw [body, if_pos h]
  split
  · rfl
  · cases hu : un l i with
    | ok t n =>
      have := un_pos h hu
      exact body_fuel l l.length (l.length + 1) _ _ (by omega) (by omega)
    | bad e p => rfl
theorem go_end {l out : List UInt8} {i : Nat} (h : l.length ≤ i) : go l out i = .bad 1 l.length := by unfold go; rw [body, if_neg (by omega)]
end Qu
end Go.Proofs.YtampjnpnekekiaaDoor
namespace Go.Proofs.YtampjnpnekekiaaDoor
open Go Go.Lib
namespace Qu
theorem runeN_same {n n' b0 b1 b2 b3 c1 c2 c3 k : Nat} (h : runeN n b0 b1 b2 b3 = k) (hk : 0 < k) (hn : k ≤ n') (h1 : 1 < k → c1 = b1) (h2 : 2 < k → c2 = b2) (h3 : 3 < k → c3 = b3) : runeN n' b0 c1 c2 c3 = k := by
  unfold runeN at h ⊢
  by_cases d1 : b0 < 128
  · rw [if_pos d1] at h ⊢; exact h
  rw [if_neg d1] at h ⊢
  by_cases d2 : 194 ≤ b0 ∧ b0 ≤ 223 ∧ 1 < n ∧ 128 ≤ b1 ∧ b1 ≤ 191
  · rw [if_pos d2] at h
    have := h1 (by omega)
    rw [if_pos (by omega)]; exact h
  rw [if_neg d2] at h
  by_cases d3 : 224 ≤ b0 ∧ b0 ≤ 239 ∧ (2 < n ∧ 128 ≤ b1 ∧ b1 ≤ 191 ∧ 128 ≤ b2 ∧ b2 ≤ 191) ∧ (b0 ≠ 224 ∨ 160 ≤ b1) ∧ (b0 ≠ 237 ∨ b1 < 160)
  · rw [if_pos d3] at h
    have := h1 (by omega)
    have := h2 (by omega)
    rw [if_neg (by omega), if_pos (by omega)]; exact h
  rw [if_neg d3] at h
  by_cases d4 : 240 ≤ b0 ∧ b0 ≤ 244 ∧ (3 < n ∧ 128 ≤ b1 ∧ b1 ≤ 191 ∧ 128 ≤ b2 ∧ b2 ≤ 191 ∧ 128 ≤ b3 ∧ b3 ≤ 191) ∧ (b0 ≠ 240 ∨ 144 ≤ b1) ∧ (b0 ≠ 244 ∨ b1 < 144)
  · rw [if_pos d4] at h
    have := h1 (by omega)
    have := h2 (by omega)
    have := h3 (by omega)
    rw [if_neg (by omega), if_neg (by omega), if_pos (by omega)]; exact h
  · rw [if_neg d4] at h; omega
theorem bt_drop (l : List UInt8) (p j : Nat) : bt l (p + j) = bt (l.drop p) j := by unfold bt; rw [List.getElem?_drop]
theorem bt_app {a : List UInt8} {j : Nat} (h : j < a.length) (b : List UInt8) : bt (a ++ b) j = bt a j := by unfold bt; rw [List.getElem?_append_left h]
theorem bt_take {l : List UInt8} {j k : Nat} (h : j < k) : bt (l.take k) j = bt l j := by unfold bt; rw [List.getElem?_take_of_lt h]
theorem dig_hexd (n : Nat) (h : n < 16) : dig (hexd n).toNat = n := by
  have key : ∀ n : Fin 16, dig (hexd n.val).toNat = n.val := by decide
  exact key ⟨n, h⟩
theorem take_unit (l : List UInt8) (i : Nat) : l.take i ++ (l.drop i).take (unit l i) = l.take (i + unit l i) := by rw [List.take_add]
theorem take_byte {l : List UInt8} {i : Nat} (h : i < l.length) : (l.drop i).take 1 = [UInt8.ofNat (bt l i)] := by
  have e : bt l i = l[i].toNat := by unfold bt; rw [List.getElem?_eq_getElem h]
  rw [e, List.drop_eq_getElem_cons h]
  show [l[i]] = _
  simp
theorem rune_one {l : List UInt8} {i : Nat} (h : bt l i < 128) : rune l i = 1 := by unfold rune runeN; rw [if_pos h]
theorem go_back (l m post : List UInt8) : ∀ (f i p : Nat) (out : List UInt8), l.length ≤ i + f → i ≤ l.length → out = l.take i → m.drop p = rest l i ++ 34 :: post → go m out p = .ok l (p + (rest l i).length + 1) := by
  intro f
  induction f with
  | zero =>
    intro i p out hf hi ho hd
    rw [rest_end (by omega), List.nil_append] at hd
    have hp : p < m.length := by
      rcases Nat.lt_or_ge p m.length with h | h
      · exact h
      · rw [List.drop_eq_nil_of_le h] at hd; cases hd
    have hb : bt m p = 34 := by
      have := bt_drop m p 0
      rw [hd] at this
      exact this
    rw [go_in hp, if_pos hb, rest_end (by omega), ho, List.take_of_length_le (by omega)]
    rfl
  | succ f ih =>
    intro i p out hf hi ho hd
    by_cases hlt : i < l.length
    case neg =>
      have hz : rest l i = [] := rest_end (by omega)
      rw [hz, List.nil_append] at hd
      have hp : p < m.length := by
        rcases Nat.lt_or_ge p m.length with h | h
        · exact h
        · rw [List.drop_eq_nil_of_le h] at hd; cases hd
      have hb : bt m p = 34 := by
        have := bt_drop m p 0
        rw [hd] at this
        exact this
      rw [go_in hp, if_pos hb, hz, ho, List.take_of_length_le (by omega)]
      rfl
    have hu := unit_pos l i
    have hul := unit_le hlt
    have hre := rest_in hlt
    have hml : m.length = p + (rest l i).length + 1 + post.length := by
      have h1 := congrArg List.length hd
      rw [List.length_drop, List.length_append, List.length_cons] at h1
      omega
    have hen : 1 ≤ (enc l i).length := by
      unfold enc
      (repeat' split)
      · simp
      · rw [List.length_take, List.length_drop]; omega
      · simp
    have hrl : (rest l i).length = (enc l i).length + (rest l (i + unit l i)).length := by rw [hre, List.length_append]
    have hp : p < m.length := by omega
    have hat : ∀ j, j < (enc l i).length → bt m (p + j) = bt (enc l i) j := fun j hj => by
      rw [bt_drop, hd, hre, List.append_assoc, bt_app hj]
    have hnext : m.drop (p + (enc l i).length) = rest l (i + unit l i) ++ 34 :: post := by
      rw [← List.drop_drop, hd, hre, List.append_assoc, List.drop_left]
    have step : ∀ t, un m p = .ok t (enc l i).length → t = (l.drop i).take (unit l i) → bt m p ≠ 34 → go m out p = .ok l (p + (rest l i).length + 1) := fun t h1 h2 h3 => by
      rw [go_in hp, if_neg h3, h1]
      dsimp only
      rw [ih (i + unit l i) (p + (enc l i).length) (out ++ t) (by omega) (by omega) (by rw [ho, h2, take_unit]) hnext, hrl]
      congr 1
      omega
    have h00 := hat 0 (by omega)
    rw [Nat.add_zero] at h00
    by_cases c1 : bt l i = 34 ∨ bt l i = 92
    · have he : enc l i = [92, UInt8.ofNat (bt l i)] := by unfold enc; rw [if_pos c1]
      have hone : unit l i = 1 := by unfold unit; rw [rune_one (by omega)]; rfl
      have h0 : bt m p = 92 := by rw [h00, he]; rfl
      have h1 : bt m (p + 1) = bt l i := by
        rw [hat 1 (by rw [he]; simp), he]
        show (UInt8.ofNat (bt l i)).toNat = _
        rw [UInt8.toNat_ofNat', Nat.mod_eq_of_lt (bt_lt l i)]
      refine step [UInt8.ofNat (bt l i)] ?_ (by rw [hone, take_byte hlt]) (by omega)
      unfold un
      rw [if_pos h0]
      have hes : esc m p = .ok (bt l i) 2 := by
        unfold esc
        rw [he] at hrl
        simp at hrl
        rw [if_neg (by omega), h1, if_pos c1]
      rw [hes, he]
      rfl
    by_cases c2 : safe l i = true
    · have he : enc l i = (l.drop i).take (unit l i) := by unfold enc; rw [if_neg c1, if_pos c2]
      have hel : (enc l i).length = unit l i := by rw [he, List.length_take, List.length_drop]; omega
      have hb : ∀ j, j < unit l i → bt m (p + j) = bt l (i + j) := fun j hj => by
        rw [hat j (by omega), he, bt_take hj, ← bt_drop]
      have hb0 := hb 0 (by omega)
      rw [Nat.add_zero, Nat.add_zero] at hb0
      have c2' := c2
      unfold safe at c2'
      simp only [Bool.and_eq_true, decide_eq_true_eq] at c2'
      have hru : rune l i = unit l i := by unfold unit; rw [if_neg (by omega)]
      have hrm : rune m p = unit l i := by
        have hr := hru
        unfold rune at hr ⊢
        rw [hb0]
        exact runeN_same hr (by omega) (by omega) (fun h => hb 1 h) (fun h => hb 2 h) (fun h => hb 3 h)
      have hum : unit m p = unit l i := by unfold unit; rw [hrm, hru, if_neg (by omega)]
      have hsm : safe m p = true := by
        unfold safe
        simp only [Bool.and_eq_true, decide_eq_true_eq]
        rw [hrm, hb0]
        exact ⟨⟨by omega, c2'.1.2⟩, c2'.2⟩
      refine step ((m.drop p).take (unit l i)) ?_ ?_ (by rw [hb0]; omega)
      · unfold un
        rw [if_neg (by rw [hb0]; omega), if_pos hsm, hum, hel]
      · rw [hd, hre, he, List.append_assoc, List.take_append_of_le_length (by rw [List.length_take, List.length_drop]; omega), List.take_take, Nat.min_self]
    · have he : enc l i = [92, 120, hexd (bt l i / 16), hexd (bt l i % 16)] := by unfold enc; rw [if_neg c1, if_neg c2]
      have hlt256 := bt_lt l i
      have hone : unit l i = 1 := by
        unfold unit
        by_cases d : rune l i = 0
        · rw [if_pos d]
        · rw [if_neg d]
          rcases Nat.lt_or_ge (bt l i) 128 with h | h
          · exact rune_one h
          · exfalso
            apply c2
            unfold safe
            simp only [Bool.and_eq_true, decide_eq_true_eq]
            omega
      have h0 : bt m p = 92 := by rw [h00, he]; rfl
      have h1 : bt m (p + 1) = 120 := by rw [hat 1 (by rw [he]; simp), he]; rfl
      have h2 : bt m (p + 2) = (hexd (bt l i / 16)).toNat := by rw [hat 2 (by rw [he]; simp), he]; rfl
      have h3 : bt m (p + 3) = (hexd (bt l i % 16)).toNat := by rw [hat 3 (by rw [he]; simp), he]; rfl
      refine step [UInt8.ofNat (bt l i)] ?_ (by rw [hone, take_byte hlt]) (by omega)
      unfold un
      rw [if_pos h0]
      have hes : esc m p = .ok (bt l i) 4 := by
        unfold esc
        rw [he] at hrl
        simp at hrl
        rw [if_neg (by omega), if_neg (by omega), if_neg (by omega), if_neg (by omega), h2, dig_hexd _ (by omega), if_neg (by omega), if_neg (by omega), h3, dig_hexd _ (by omega), if_neg (by omega)]
        congr 1
        omega
      rw [hes, he]
      rfl
theorem read_back (pre l post : List UInt8) : read (pre ++ text l ++ post) pre.length = .ok l (pre.length + (text l).length) := by
  have hl : (pre ++ text l ++ post).length = pre.length + (rest l 0).length + 2 + post.length := by rw [text_eq]; simp; omega
  have hd : (pre ++ text l ++ post).drop pre.length = 34 :: (rest l 0 ++ 34 :: post) := by rw [List.append_assoc, List.drop_left, text_eq]; simp
  have hb : bt (pre ++ text l ++ post) pre.length = 34 := by
    have := bt_drop (pre ++ text l ++ post) pre.length 0
    rw [hd] at this
    exact this
  have hd2 : (pre ++ text l ++ post).drop (pre.length + 1) = rest l 0 ++ 34 :: post := by rw [← List.drop_drop, hd]; rfl
  unfold read
  rw [if_neg (by omega), if_neg (by omega), Int.toNat_natCast, if_neg (by omega)]
  have := go_back l (pre ++ text l ++ post) post l.length 0 (pre.length + 1) [] (by omega) (by omega) (by simp) hd2
  unfold go at this
  rw [this, text_eq]
  simp
  omega
end Qu
end Go.Proofs.YtampjnpnekekiaaDoor
namespace Go.Proofs.YtampjnpnekekiaaDoor
open Go
set_option linter.unusedVariables false
set_option linter.unusedSimpArgs false
set_option maxRecDepth 10000
open Sh Gn
namespace Pl
section
variable {s : ByteArray} {i : Nat}
theorem sa_bt : sa s (i : Int) = (Qu.bt s.data.toList i : Int) := by
  show ((s.data.getD _ 0).toNat : Int) = _
  unfold Qu.bt
  rw [Int.toNat_natCast, Array.getD_eq_getD_getElem?, Array.getElem?_toList]
  cases s.data[i]? <;> rfl
theorem get_bt : (s.get! i).toNat = Qu.bt s.data.toList i := by
  unfold Qu.bt
  rw [Array.getElem?_toList]
  show (s.data[i]!).toNat = _
  rw [getElem!_def]
  cases s.data[i]? <;> rfl
theorem ss_list {j : Nat} (h : i ≤ j) (hj : j ≤ s.size) : (ss s i j).data.toList = (s.data.toList.drop i).take (j - i) := by
  show (s.extract _ _).data.toList = _
  rw [Int.toNat_natCast, Int.toNat_natCast, ByteArray.data_extract, Array.toList_extract, List.extract]
theorem ss_end (hj : i ≤ s.size) : (ss s i (sl s)).data.toList = s.data.toList.drop i := by
  rw [sl_eq, ss_list hj (Nat.le_refl _), List.take_of_length_le (by rw [List.length_drop, size_list]; exact Nat.le_refl _)]
theorem size_end (hj : i ≤ s.size) : (ss s i (sl s)).size = s.size - i := by
  rw [← size_list, ss_end hj, List.length_drop, size_list]
theorem ssin_end (hj : i ≤ s.size) : ssinB s i (sl s) = true := by simp [ssinB, sl_eq]; omega
theorem ssin_nat {j : Nat} (h : i ≤ j) (hj : j ≤ s.size) : ssinB s i j = true := by simp [ssinB]; omega
theorem dec_cp (h : i < s.size) : utf8_Decode_g (ss s i (sl s)) = some ((Qu.cp s.data.toList i : Int), (Qu.unit s.data.toList i : Int)) := by
  have hz := size_end (s := s) (i := i) (by omega)
  have hb : ∀ j, (((ss s i (sl s))).get! j).toNat = Qu.bt s.data.toList (i + j) := fun j => by rw [get_bt, ss_end (by omega), Qu.bt_drop]
  have e : Lib.decodeGo (ss s i (sl s)) = (Qu.cp s.data.toList i, Qu.unit s.data.toList i) := by
    unfold Lib.decodeGo
    rw [if_neg (by omega), Lib.decode_at, hb, hb, hb, hb, hz, Nat.sub_zero, ← Qu.cp_unit, size_list]
    rfl
  unfold utf8_Decode_g
  rw [e]
theorem index_dig : ∀ c : Fin 256, Lib.indexByte [48, 49, 50, 51, 52, 53, 54, 55, 56, 57, 97, 98, 99, 100, 101, 102] (UInt8.ofNat c.val) = if Qu.dig c.val = 16 then -1 else (Qu.dig c.val : Int) := by decide +kernel
theorem index_p {c : Nat} (h : c < 256) : strings_IndexByte_g (ByteArray.mk #[48, 49, 50, 51, 52, 53, 54, 55, 56, 57, 97, 98, 99, 100, 101, 102]) (c : Int) = some (if Qu.dig c = 16 then -1 else (Qu.dig c : Int)) := by
  unfold strings_IndexByte_g
  rw [← index_dig ⟨c, h⟩]
  rfl
theorem dig_le (c : Nat) : Qu.dig c ≤ 16 := by unfold Qu.dig; (repeat' split) <;> omega
def escI (e : Qu.Esc) : Int × Int × Int := match e with | .ok b n => ((b : Int), (n : Int), 0) | .bad e => (0, 0, (e : Int))
theorem qesc_p {N : Nat} (hN : 20 ≤ N) (hs : s.size ≤ 100000) (hi : i ≤ s.size) : quote_escape_g N (ss s i (sl s)) = some (escI (Qu.esc s.data.toList i)) := by
  obtain ⟨N, rfl⟩ : ∃ M, N = M + 3 := ⟨N - 3, by omega⟩
  have hz := size_end (s := s) (i := i) hi
  have hb : ∀ j : Nat, sa (ss s i (sl s)) (j : Int) = (Qu.bt s.data.toList (i + j) : Int) := fun j => by rw [sa_bt, ss_end hi, Qu.bt_drop]
  have h1 := hb 1
  have h2 := hb 2
  have h3 := hb 3
  have hin : ∀ j : Nat, i + j < s.size → sinB (ss s i (sl s)) (j : Int) = true := fun j hj => sin_in (by omega)
  unfold quote_escape_g Qu.esc
  simp only [cm_lss, cm_eql, cm_neq, cond_not, cond_dec, sl_eq]
  rw [show ((ss s i s.size).size) = s.size - i from hz, size_list]
  by_cases c : s.size < i + 2
  · have c' : ((s.size - i : Nat) : Int) < 2 := by omega
    simp only [c, c', if_true]; rfl
  have c' : ¬ ((s.size - i : Nat) : Int) < 2 := by omega
  simp only [c, c', if_false]
  have i1 : sinB (ss s i (s.size : Int)) 1 = true := hin 1 (by omega)
  have h1 : sa (ss s i (s.size : Int)) 1 = (Qu.bt s.data.toList (i + 1) : Int) := h1
  simp only [i1, h1, _root_.cond_true]
  have b1 := Qu.bt_lt s.data.toList (i + 1)
  have b2 := Qu.bt_lt s.data.toList (i + 2)
  have b3 := Qu.bt_lt s.data.toList (i + 3)
  by_cases c1 : Qu.bt s.data.toList (i + 1) = 34
  · simp only [c1, true_or, if_true, Option.bind_some, _root_.cond_true]; simp; rfl
  by_cases c2 : Qu.bt s.data.toList (i + 1) = 92
  · simp only [c2, or_true, if_true]; simp; rfl
  have c1' : ¬ (Qu.bt s.data.toList (i + 1) : Int) = 34 := by omega
  have c2' : ¬ (Qu.bt s.data.toList (i + 1) : Int) = 92 := by omega
  simp only [c1, c2, c1', c2', or_false, if_false, Option.bind_some, decide_false, cond_false]
  by_cases c3 : Qu.bt s.data.toList (i + 1) = 120
  · have c3' : (Qu.bt s.data.toList (i + 1) : Int) = 120 := by omega
    simp only [c3', if_true, c3, ne_eq, not_true_eq_false, if_false]
    unfold quote_escape_l1
    simp only [cm_lss, cm_geq, cond_dec, sl_eq]
    simp only [show ((2 : Int) < 4) from by decide, if_true, show ((ss s i s.size).size) = s.size - i from hz]
    by_cases d : s.size < i + 3
    · have d' : ((s.size - i : Nat) : Int) ≤ 2 := by omega
      simp only [d, d', if_true]; rfl
    have d' : ¬ ((s.size - i : Nat) : Int) ≤ 2 := by omega
    simp only [d, d', if_false]
    have i2 : sinB (ss s i (s.size : Int)) 2 = true := hin 2 (by omega)
    have h2 : sa (ss s i (s.size : Int)) 2 = (Qu.bt s.data.toList (i + 2) : Int) := h2
    simp only [i2, h2, _root_.cond_true, index_p b2, Option.bind_some]
    have g2 := dig_le (Qu.bt s.data.toList (i + 2))
    by_cases d2 : Qu.dig (Qu.bt s.data.toList (i + 2)) = 16
    · simp only [d2, if_true]; rfl
    have d2' : ¬ (Qu.dig (Qu.bt s.data.toList (i + 2)) : Int) < 0 := by omega
    simp only [d2, d2', if_false]
    have e1 : ar .add .i64 (ar .mul .i64 16 0) (Qu.dig (Qu.bt s.data.toList (i + 2)) : Int) = (Qu.dig (Qu.bt s.data.toList (i + 2)) : Int) := by
      rw [ar_mul (by decide) (by decide), ar_add (by omega) (by omega)]; omega
    have e2 : ar .add .i64 (2 : Int) 1 = 3 := by rw [ar_add (by decide) (by decide)]; rfl
    rw [e1, e2]
    unfold quote_escape_l1
    simp only [cm_lss, cm_geq, cond_dec, sl_eq]
    simp only [show ((3 : Int) < 4) from by decide, if_true, show ((ss s i s.size).size) = s.size - i from hz]
    by_cases d : s.size < i + 4
    · have d' : ((s.size - i : Nat) : Int) ≤ 3 := by omega
      simp only [d, d', if_true]; rfl
    have d' : ¬ ((s.size - i : Nat) : Int) ≤ 3 := by omega
    simp only [d, d', if_false]
    have i3 : sinB (ss s i (s.size : Int)) 3 = true := hin 3 (by omega)
    have h3 : sa (ss s i (s.size : Int)) 3 = (Qu.bt s.data.toList (i + 3) : Int) := h3
    simp only [i3, h3, _root_.cond_true, index_p b3, Option.bind_some]
    have g3 := dig_le (Qu.bt s.data.toList (i + 3))
    by_cases d3 : Qu.dig (Qu.bt s.data.toList (i + 3)) = 16
    · simp only [d3, if_true]; rfl
    have d3' : ¬ (Qu.dig (Qu.bt s.data.toList (i + 3)) : Int) < 0 := by omega
    simp only [d3, d3', if_false]
    have e3 : ar .add .i64 (ar .mul .i64 16 (Qu.dig (Qu.bt s.data.toList (i + 2)) : Int)) (Qu.dig (Qu.bt s.data.toList (i + 3)) : Int) = ((16 * Qu.dig (Qu.bt s.data.toList (i + 2)) + Qu.dig (Qu.bt s.data.toList (i + 3)) : Nat) : Int) := by
      rw [ar_mul (by omega) (by omega), ar_add (by omega) (by omega)]; omega
    have e4 : ar .add .i64 (3 : Int) 1 = 4 := by rw [ar_add (by decide) (by decide)]; rfl
    rw [e3, e4]
    unfold quote_escape_l1
    simp only [cm_lss, cond_dec]
    simp only [show ¬ ((4 : Int) < 4) from by decide, if_false]
    show some (cv .u8 _, (4 : Int), (0 : Int)) = some (((16 * _ + _ : Nat) : Int), (4 : Int), (0 : Int))
    congr 2
    show IntKind.u8.wrap _ = _
    rw [IntKind.wrap_u8]; omega
  · have c3' : ¬ (Qu.bt s.data.toList (i + 1) : Int) = 120 := by omega
    simp only [c3', if_false, ne_eq, c3, not_false_eq_true, if_true]
    rfl
theorem plain_p : quote_plain_g (Qu.cp s.data.toList i : Int) (Qu.unit s.data.toList i : Int) = some (Qu.safe s.data.toList i) := by
  have h := Qu.plain_safe s.data.toList i
  unfold quote_plain_g
  simp only [cm_geq, cm_neq, cm_gtr, cond_not, cond_dec, bind_self]
  cases g : Qu.safe s.data.toList i with
  | true =>
    obtain ⟨h1, h2, h3⟩ := h.2 g
    rw [if_pos (by omega), if_neg (by omega)]
    by_cases c : Qu.cp s.data.toList i = 65533
    · rw [if_pos (by omega), decide_eq_true (by omega)]
    · rw [if_neg (by omega)]
  | false =>
    have hn : ¬ (32 ≤ Qu.cp s.data.toList i ∧ Qu.cp s.data.toList i ≠ 127 ∧ (Qu.cp s.data.toList i ≠ 65533 ∨ 1 < Qu.unit s.data.toList i)) := fun e => by rw [h.1 e] at g; cases g
    by_cases c1 : 32 ≤ Qu.cp s.data.toList i
    · rw [if_pos (by omega)]
      by_cases c2 : Qu.cp s.data.toList i = 127
      · rw [if_pos (by omega)]
      · rw [if_neg (by omega), if_pos (by omega), decide_eq_false (by omega)]
    · rw [if_neg (by omega)]
end
end Pl
end Go.Proofs.YtampjnpnekekiaaDoor
