/- Texts that the proof leans on. -/
import Derived.Lib.DecodeN
import Derived.Sort.Walk0
import Derived.Test.YtagppjldegblhaaGreatDoorK228
import Derived.Sort.EncStr
import Derived.Sort.Grow
set_option linter.unusedVariables false
set_option linter.unusedSimpArgs false
set_option maxRecDepth 100000
set_option maxHeartbeats 4000000
namespace Go.Proofs.YtagppjldegblhaaGreatDoor
open Go Go.Lib
namespace Qu
def runeN (n b0 b1 b2 b3 : Nat) : Nat :=
 if b0 < 128 then 1
 else if 194 ≤ b0 ∧ b0 ≤ 223 ∧ 1 < n ∧ 128 ≤ b1 ∧ b1 ≤ 191 then 2
 else if 224 ≤ b0 ∧ b0 ≤ 239 ∧ (2 < n ∧ 128 ≤ b1 ∧ b1 ≤ 191 ∧ 128 ≤ b2 ∧ b2 ≤ 191) ∧ (b0 ≠ 224 ∨ 160 ≤ b1) ∧ (b0 ≠ 237 ∨ b1 < 160) then 3
 else if 240 ≤ b0 ∧ b0 ≤ 244 ∧ (3 < n ∧ 128 ≤ b1 ∧ b1 ≤ 191 ∧ 128 ≤ b2 ∧ b2 ≤ 191 ∧ 128 ≤ b3 ∧ b3 ≤ 191) ∧ (b0 ≠ 240 ∨ 144 ≤ b1) ∧ (b0 ≠ 244 ∨ b1 < 144) then 4
 else 0
theorem decode_rune (n b0 b1 b2 b3 : Nat) (h0 : b0 < 256) (h1 : b1 < 256) (h2 : b2 < 256) (h3 : b3 < 256) :
 (runeN n b0 b1 b2 b3 = 0 ∧ decodeN n b0 b1 b2 b3 = (65533, 1)) ∨ (runeN n b0 b1 b2 b3 = 1 ∧ b0 < 128 ∧ decodeN n b0 b1 b2 b3 = (b0, 1)) ∨
 (2 ≤ runeN n b0 b1 b2 b3 ∧ 128 ≤ b0 ∧ 128 ≤ (decodeN n b0 b1 b2 b3).1 ∧ (decodeN n b0 b1 b2 b3).2 = runeN n b0 b1 b2 b3) := by
 by_cases c1 : b0 < 128
 · right; left
   exact ⟨by unfold runeN; rw [if_pos c1], c1, by unfold decodeN; rw [if_pos c1]⟩
 by_cases c2 : 194 ≤ b0 ∧ b0 ≤ 223 ∧ 1 < n ∧ 128 ≤ b1 ∧ b1 ≤ 191
 · right; right
   have e1 : runeN n b0 b1 b2 b3 = 2 := by unfold runeN; rw [if_neg c1, if_pos c2]
   have e2 : decodeN n b0 b1 b2 b3 = (b0 % 32 * 64 + b1 % 64, 2) := by
    unfold decodeN
    rw [if_neg c1, if_pos (by omega), if_pos (by omega)]
   rw [e1, e2]
   exact ⟨by omega, by omega, by dsimp only; omega, rfl⟩
 by_cases c3 : 224 ≤ b0 ∧ b0 ≤ 239 ∧ (2 < n ∧ 128 ≤ b1 ∧ b1 ≤ 191 ∧ 128 ≤ b2 ∧ b2 ≤ 191) ∧ (b0 ≠ 224 ∨ 160 ≤ b1) ∧ (b0 ≠ 237 ∨ b1 < 160)
 · right; right
   have e1 : runeN n b0 b1 b2 b3 = 3 := by unfold runeN; rw [if_neg c1, if_neg c2, if_pos c3]
   have e2 : decodeN n b0 b1 b2 b3 = (b0 % 16 * 4096 + b1 % 64 * 64 + b2 % 64, 3) := by
    unfold decodeN
    rw [if_neg c1, if_neg (by omega), if_pos (by omega), if_pos (by omega)]
   rw [e1, e2]
   exact ⟨by omega, by omega, by dsimp only; omega, rfl⟩
 by_cases c4 : 240 ≤ b0 ∧ b0 ≤ 244 ∧ (3 < n ∧ 128 ≤ b1 ∧ b1 ≤ 191 ∧ 128 ≤ b2 ∧ b2 ≤ 191 ∧ 128 ≤ b3 ∧ b3 ≤ 191) ∧ (b0 ≠ 240 ∨ 144 ≤ b1) ∧ (b0 ≠ 244 ∨ b1 < 144)
 · right; right
   have e1 : runeN n b0 b1 b2 b3 = 4 := by unfold runeN; rw [if_neg c1, if_neg c2, if_neg c3, if_pos c4]
   have e2 : decodeN n b0 b1 b2 b3 = (b0 % 8 * 262144 + b1 % 64 * 4096 + b2 % 64 * 64 + b3 % 64, 4) := by
    unfold decodeN
    rw [if_neg c1, if_neg (by omega), if_neg (by omega), if_pos (by omega), if_pos (by omega)]
   rw [e1, e2]
   exact ⟨by omega, by omega, by dsimp only; omega, rfl⟩
 · left
   refine ⟨by unfold runeN; rw [if_neg c1, if_neg c2, if_neg c3, if_neg c4], ?_⟩
   unfold decodeN
   rw [if_neg c1]
   by_cases d2 : b0 / 32 = 6 ∧ (1 < n ∧ b1 / 64 = 2)
   · rw [if_pos d2, if_neg (by omega)]
   rw [if_neg d2]
   by_cases d3 : b0 / 16 = 14 ∧ (1 < n ∧ b1 / 64 = 2) ∧ (2 < n ∧ b2 / 64 = 2)
   · rw [if_pos d3, if_neg (by omega)]
   rw [if_neg d3]
   by_cases d4 : b0 / 8 = 30 ∧ (1 < n ∧ b1 / 64 = 2) ∧ (2 < n ∧ b2 / 64 = 2) ∧ (3 < n ∧ b3 / 64 = 2)
   · rw [if_pos d4, if_neg (by omega)]
   rw [if_neg d4]
def bt (l : List UInt8) (i : Nat) : Nat := match l[i]? with | some b => b.toNat | none => 0
theorem bt_lt (l : List UInt8) (i : Nat) : bt l i < 256 := by
 unfold bt
 split
 · rename_i b _; exact b.toNat_lt
 · omega
def rune (l : List UInt8) (i : Nat) : Nat := runeN (l.length - i) (bt l i) (bt l (i + 1)) (bt l (i + 2)) (bt l (i + 3))
def unit (l : List UInt8) (i : Nat) : Nat := if rune l i = 0 then 1 else rune l i
theorem unit_pos (l : List UInt8) (i : Nat) : 1 ≤ unit l i := by unfold unit; split <;> omega
theorem runeN_le (n b0 b1 b2 b3 : Nat) (hn : 0 < n) : runeN n b0 b1 b2 b3 ≤ n := by
 unfold runeN
 repeat' split
 all_goals omega
theorem unit_le {l : List UInt8} {i : Nat} (h : i < l.length) : i + unit l i ≤ l.length := by
 have := runeN_le (l.length - i) (bt l i) (bt l (i + 1)) (bt l (i + 2)) (bt l (i + 3)) (by omega)
 unfold unit rune
 split <;> omega
def safe (l : List UInt8) (i : Nat) : Bool := decide (0 < rune l i) && decide (32 ≤ bt l i) && decide (bt l i ≠ 127)
def cp (l : List UInt8) (i : Nat) : Nat := (decodeN (l.length - i) (bt l i) (bt l (i + 1)) (bt l (i + 2)) (bt l (i + 3))).1
theorem cp_unit (l : List UInt8) (i : Nat) : decodeN (l.length - i) (bt l i) (bt l (i + 1)) (bt l (i + 2)) (bt l (i + 3)) = (cp l i, unit l i) := by
 have h := decode_rune (l.length - i) (bt l i) (bt l (i + 1)) (bt l (i + 2)) (bt l (i + 3)) (bt_lt _ _) (bt_lt _ _) (bt_lt _ _) (bt_lt _ _)
 refine Prod.ext rfl ?_
 show _ = unit l i
 unfold unit rune
 rcases h with ⟨h1, h2⟩ | ⟨h1, _, h2⟩ | ⟨h1, _, _, h2⟩
 · rw [if_pos h1, h2]
 · rw [if_neg (by omega), h1, h2]
 · rw [if_neg (by omega), h2]
theorem cp_small (l : List UInt8) (i b : Nat) (hb : b < 128) : cp l i = b ↔ bt l i = b := by
 have h := decode_rune (l.length - i) (bt l i) (bt l (i + 1)) (bt l (i + 2)) (bt l (i + 3)) (bt_lt _ _) (bt_lt _ _) (bt_lt _ _) (bt_lt _ _)
 unfold cp
 by_cases c : bt l i < 128
 · have e : decodeN (l.length - i) (bt l i) (bt l (i + 1)) (bt l (i + 2)) (bt l (i + 3)) = (bt l i, 1) := by unfold decodeN; rw [if_pos c]
   rw [e]
 · rcases h with ⟨h1, h2⟩ | ⟨h1, h3, h2⟩ | ⟨h1, h3, h4, h2⟩
   · rw [h2]; dsimp only; omega
   · omega
   · omega
theorem plain_safe (l : List UInt8) (i : Nat) : (32 ≤ cp l i ∧ cp l i ≠ 127 ∧ (cp l i ≠ 65533 ∨ 1 < unit l i)) ↔ safe l i = true := by
 have h := decode_rune (l.length - i) (bt l i) (bt l (i + 1)) (bt l (i + 2)) (bt l (i + 3)) (bt_lt _ _) (bt_lt _ _) (bt_lt _ _) (bt_lt _ _)
 have hu := cp_unit l i
 have e : cp l i = (decodeN (l.length - i) (bt l i) (bt l (i + 1)) (bt l (i + 2)) (bt l (i + 3))).1 := rfl
 unfold safe unit rune
 simp only [Bool.and_eq_true, decide_eq_true_eq]
 rcases h with ⟨h1, h2⟩ | ⟨h1, h3, h2⟩ | ⟨h1, h3, h4, h2⟩
 · rw [e, h2, h1]; simp
 · rw [e, h2, h1]; simp; omega
 · rw [e, if_neg (by omega)]
   constructor
   · rintro ⟨a, b, c⟩; exact ⟨⟨by omega, by omega⟩, by omega⟩
   · rintro ⟨⟨a, b⟩, c⟩; exact ⟨by omega, by omega, Or.inr (by omega)⟩
def hexd (n : Nat) : UInt8 := if n < 10 then UInt8.ofNat (48 + n) else UInt8.ofNat (87 + n)
def enc (l : List UInt8) (i : Nat) : List UInt8 :=
 if bt l i = 34 ∨ bt l i = 92 then [92, UInt8.ofNat (bt l i)] else if safe l i = true then (l.drop i).take (unit l i) else [92, 120, hexd (bt l i / 16), hexd (bt l i % 16)]
def encs (l : List UInt8) : Nat → Nat → List UInt8
 | 0, _ => []
 | f + 1, i => if i < l.length then enc l i ++ encs l f (i + unit l i) else []
def text (l : List UInt8) : List UInt8 := 34 :: (encs l (l.length + 1) 0 ++ [34])
theorem encs_fuel (l : List UInt8) : ∀ (f g i : Nat), l.length < i + f → l.length < i + g → encs l f i = encs l g i
 | 0, 0, _, _, _ => rfl
 | 0, g + 1, i, h, _ => by rw [encs, encs, if_neg (by omega)]
 | f + 1, 0, i, _, h => by rw [encs, encs, if_neg (by omega)]
 | f + 1, g + 1, i, h, h' => by
   rw [encs, encs]
   by_cases c : i < l.length
   · rw [if_pos c, if_pos c, encs_fuel l f g (i + unit l i) (by have := unit_pos l i; omega) (by have := unit_pos l i; omega)]
   · rw [if_neg c, if_neg c]
def rest (l : List UInt8) (i : Nat) : List UInt8 := encs l (l.length + 1) i
theorem rest_in {l : List UInt8} {i : Nat} (h : i < l.length) : rest l i = enc l i ++ rest l (i + unit l i) := by
 have hp := unit_pos l i
 unfold rest
 rw [encs, if_pos h, encs_fuel l l.length (l.length + 1) _ (by omega) (by omega)]
theorem rest_end {l : List UInt8} {i : Nat} (h : l.length ≤ i) : rest l i = [] := by unfold rest; rw [encs, if_neg (by omega)]
theorem text_eq (l : List UInt8) : text l = 34 :: (rest l 0 ++ [34]) := rfl
def dig (b : Nat) : Nat := if 48 ≤ b ∧ b ≤ 57 then b - 48 else if 97 ≤ b ∧ b ≤ 102 then b - 87 else 16
inductive Esc where
 | ok (b : Nat) (n : Nat)
 | bad (e : Nat)
 deriving DecidableEq
def esc (l : List UInt8) (i : Nat) : Esc :=
 if l.length < i + 2 then .bad 1
 else if bt l (i + 1) = 34 ∨ bt l (i + 1) = 92 then .ok (bt l (i + 1)) 2
 else if bt l (i + 1) ≠ 120 then .bad 2
 else if l.length < i + 3 then .bad 1
 else if dig (bt l (i + 2)) = 16 then .bad 2
 else if l.length < i + 4 then .bad 1
 else if dig (bt l (i + 3)) = 16 then .bad 2
 else .ok (16 * dig (bt l (i + 2)) + dig (bt l (i + 3))) 4
inductive Got where
 | ok (t : List UInt8) (p : Nat)
 | bad (e : Nat) (p : Nat)
inductive Un where
 | ok (t : List UInt8) (n : Nat)
 | bad (e : Nat) (p : Nat)
def un (l : List UInt8) (i : Nat) : Un :=
 if bt l i = 92 then (match esc l i with | .ok b n => .ok [UInt8.ofNat b] n | .bad e => .bad e (if e = 1 then l.length else i))
 else if safe l i = true then .ok ((l.drop i).take (unit l i)) (unit l i)
 else .bad 2 i
def body (l : List UInt8) : Nat → List UInt8 → Nat → Got
 | 0, _, _ => .bad 1 l.length
 | f + 1, out, i =>
   if i < l.length then
    if bt l i = 34 then .ok out (i + 1)
    else match un l i with
     | .ok t n => body l f (out ++ t) (i + n)
     | .bad e p => .bad e p
   else .bad 1 l.length
def read (l : List UInt8) (at_ : Int) : Got :=
 if at_ < 0 ∨ (l.length : Int) < at_ then .bad 7 0
 else if at_ = l.length then .bad 1 at_.toNat
 else if bt l at_.toNat ≠ 34 then .bad 2 at_.toNat
 else body l (l.length + 1) [] (at_.toNat + 1)
def go (l : List UInt8) (out : List UInt8) (i : Nat) : Got := body l (l.length + 1) out i
end Qu
end Go.Proofs.YtagppjldegblhaaGreatDoor
namespace Go.Proofs.YtagppjldegblhaaGreatDoor
open Go Go.Lib
namespace Qu
theorem bt_drop (l : List UInt8) (p j : Nat) : bt l (p + j) = bt (l.drop p) j := by unfold bt; rw [List.getElem?_drop]
theorem take_byte {l : List UInt8} {i : Nat} (h : i < l.length) : (l.drop i).take 1 = [UInt8.ofNat (bt l i)] := by
 have e : bt l i = l[i].toNat := by unfold bt; rw [List.getElem?_eq_getElem h]
 rw [e, List.drop_eq_getElem_cons h]
 show [l[i]] = _
 simp
end Qu
end Go.Proofs.YtagppjldegblhaaGreatDoor
namespace Go.Proofs.YtagppjldegblhaaGreatDoor
open Go
namespace Mt
def ofL (l : List UInt8) : ByteArray := ⟨l.toArray⟩
theorem ofL_list (l : List UInt8) : (ofL l).data.toList = l := by simp [ofL]
theorem ofL_self (s : ByteArray) : ofL s.data.toList = s := by cases s; simp [ofL]
structure M where
 name : ByteArray
 op : Int
 val : ByteArray
def right (m : M) : Int :=
 if Nm.labelB m.name.data.toList = false then 4 else if m.op < 1 ∨ 4 < m.op then 7 else if m.op ≤ 2 then (if 1024 < m.val.size then 3 else 0) else (Rx.parse m.val.data.toList).2.1
structure L where
 name : ByteArray
 val : ByteArray
def cmpL (a b : List UInt8) : Int := if Op.bytesLess a b = true then -1 else if a = b then 0 else 1
def cmpI (a b : Int) : Int := if a < b then -1 else if a = b then 0 else 1
def cmp (a b : M) : Int := if cmpL a.name.data.toList b.name.data.toList ≠ 0 then cmpL a.name.data.toList b.name.data.toList else if cmpI a.op b.op ≠ 0 then cmpI a.op b.op else cmpL a.val.data.toList b.val.data.toList
def sgn (o : Int) : List UInt8 := if o = 1 then [61] else if o = 2 then [33, 61] else if o = 3 then [61, 126] else if o = 4 then [33, 126] else [63]
def text (m : M) : List UInt8 := m.name.data.toList ++ sgn m.op ++ Qu.text m.val.data.toList
def opAt (l : List UInt8) (k : Nat) : Nat :=
 if Qu.bt l k = 61 then (if Qu.bt l (k + 1) = 126 then 3 else 1) else if Qu.bt l k = 33 then (if Qu.bt l (k + 1) = 61 then 2 else if Qu.bt l (k + 1) = 126 then 4 else 0) else 0
def opBad (l : List UInt8) (k : Nat) : Nat × Nat := if k = l.length then (1, k) else if Qu.bt l k = 33 ∧ k + 1 = l.length then (1, k + 1) else (2, k)
inductive Got where
 | ok (m : M) (p : Nat)
 | bad (e : Int) (p : Nat)
def take (l : List UInt8) (at_ : Int) : Got :=
 if at_ < 0 ∨ (l.length : Int) < at_ then .bad 7 0
 else if at_ = l.length then .bad 1 at_.toNat
 else if Nm.run Nm.signB true (l.drop at_.toNat) < 1 ∨ 32 < Nm.run Nm.signB true (l.drop at_.toNat) then .bad 4 at_.toNat
 else if opAt l (at_.toNat + Nm.run Nm.signB true (l.drop at_.toNat)) = 0 then .bad (opBad l (at_.toNat + Nm.run Nm.signB true (l.drop at_.toNat))).1 (opBad l (at_.toNat + Nm.run Nm.signB true (l.drop at_.toNat))).2
 else match Qu.read l (at_.toNat + Nm.run Nm.signB true (l.drop at_.toNat) + (sgn (opAt l (at_.toNat + Nm.run Nm.signB true (l.drop at_.toNat)))).length : Nat) with
  | .bad e p => .bad e p
  | .ok v p =>
    if right ⟨ofL ((l.drop at_.toNat).take (Nm.run Nm.signB true (l.drop at_.toNat))), opAt l (at_.toNat + Nm.run Nm.signB true (l.drop at_.toNat)), ofL v⟩ ≠ 0
    then .bad (right ⟨ofL ((l.drop at_.toNat).take (Nm.run Nm.signB true (l.drop at_.toNat))), opAt l (at_.toNat + Nm.run Nm.signB true (l.drop at_.toNat)), ofL v⟩) (at_.toNat + Nm.run Nm.signB true (l.drop at_.toNat) + (sgn (opAt l (at_.toNat + Nm.run Nm.signB true (l.drop at_.toNat)))).length)
    else .ok ⟨ofL ((l.drop at_.toNat).take (Nm.run Nm.signB true (l.drop at_.toNat))), opAt l (at_.toNat + Nm.run Nm.signB true (l.drop at_.toNat)), ofL v⟩ p
end Mt
end Go.Proofs.YtagppjldegblhaaGreatDoor
namespace Go.Proofs.YtagppjldegblhaaGreatDoor
open Go
namespace Sl
open Mt (M)
def firstBad : List M → Nat → Int × Nat
 | [], _ => (0, 0)
 | m :: r, i => if Mt.right m ≠ 0 then (Mt.right m, i) else firstBad r (i + 1)
def right (l : List M) : Int × Nat := if 64 < l.length then (3, 64) else firstBad l 0
def tl : List M → List UInt8
 | [] => []
 | m :: r => 44 :: 32 :: (Mt.text m ++ tl r)
def body : List M → List UInt8
 | [] => []
 | m :: r => Mt.text m ++ tl r
def text (l : List M) : List UInt8 := 123 :: (body l ++ [125])
inductive Got where
 | ok (l : List M) (p : Nat)
 | bad (e : Int) (p : Nat)
def other (s : List UInt8) (p : Nat) : Got := if s.length ≤ p then .bad 1 s.length else .bad 2 p
def loop (s : List UInt8) : Nat → List M → Nat → Got
 | 0, _, _ => .bad 1 s.length
 | f + 1, out, i =>
   if out.length = 64 ∧ i < s.length then .bad 3 i
   else match Mt.take s i with
    | .bad e p => .bad e p
    | .ok m p =>
      if Qu.bt s p = 125 then .ok (out ++ [m]) (p + 1)
      else if Qu.bt s p ≠ 44 then other s p
      else if Qu.bt s (p + 1) ≠ 32 then other s (p + 1)
      else loop s f (out ++ [m]) (p + 2)
def take (s : List UInt8) (at_ : Int) : Got :=
 if at_ < 0 ∨ (s.length : Int) < at_ then .bad 7 0
 else if Qu.bt s at_.toNat ≠ 123 then other s at_.toNat
 else if Qu.bt s (at_.toNat + 1) = 125 then .ok [] (at_.toNat + 2)
 else loop s (s.length + 1) [] (at_.toNat + 1)
end Sl
end Go.Proofs.YtagppjldegblhaaGreatDoor
namespace Go.Proofs.YtagppjldegblhaaGreatDoor
open Go
open Sh Gn
namespace Pl
section
variable {s : ByteArray} {i : Nat}
theorem sa_bt : sa s (i : Int) = (Qu.bt s.data.toList i : Int) := by
 show ((s.data.getD _ 0).toNat : Int) = _
 unfold Qu.bt
 rw [Int.toNat_natCast, Array.getD_eq_getD_getElem?, Array.getElem?_toList]
 cases s.data[i]? <;> rfl
theorem get_bt : (s.get! i).toNat = Qu.bt s.data.toList i := by
 unfold Qu.bt
 rw [Array.getElem?_toList]
 show (s.data[i]!).toNat = _
 rw [getElem!_def]
 cases s.data[i]? <;> rfl
theorem ss_list {j : Nat} (h : i ≤ j) (hj : j ≤ s.size) : (ss s i j).data.toList = (s.data.toList.drop i).take (j - i) := by
 show (s.extract _ _).data.toList = _
 rw [Int.toNat_natCast, Int.toNat_natCast, ByteArray.data_extract, Array.toList_extract, List.extract]
theorem ss_end (hj : i ≤ s.size) : (ss s i (sl s)).data.toList = s.data.toList.drop i := by
 rw [sl_eq, ss_list hj (Nat.le_refl _), List.take_of_length_le (by rw [List.length_drop, size_list]; exact Nat.le_refl _)]
theorem size_end (hj : i ≤ s.size) : (ss s i (sl s)).size = s.size - i := by
 rw [← size_list, ss_end hj, List.length_drop, size_list]
theorem ssin_end (hj : i ≤ s.size) : ssinB s i (sl s) = true := by simp [ssinB, sl_eq]; omega
theorem ssin_nat {j : Nat} (h : i ≤ j) (hj : j ≤ s.size) : ssinB s i j = true := by simp [ssinB]; omega
theorem dec_cp (h : i < s.size) : utf8_Decode_g (ss s i (sl s)) = some ((Qu.cp s.data.toList i : Int), (Qu.unit s.data.toList i : Int)) := by
 have hz := size_end (s := s) (i := i) (by omega)
 have hb : ∀ j, (((ss s i (sl s))).get! j).toNat = Qu.bt s.data.toList (i + j) := fun j => by rw [get_bt, ss_end (by omega), Qu.bt_drop]
 have e : Lib.decodeGo (ss s i (sl s)) = (Qu.cp s.data.toList i, Qu.unit s.data.toList i) := by
  unfold Lib.decodeGo
  rw [if_neg (by omega), Lib.decode_at, hb, hb, hb, hb, hz, Nat.sub_zero, ← Qu.cp_unit, size_list]
  rfl
 unfold utf8_Decode_g
 rw [e]
theorem plain_p : quote_plain_g (Qu.cp s.data.toList i : Int) (Qu.unit s.data.toList i : Int) = some (Qu.safe s.data.toList i) := by
 have h := Qu.plain_safe s.data.toList i
 unfold quote_plain_g
 simp only [cm_geq, cm_neq, cm_gtr, cond_not, cond_dec, bind_self]
 cases g : Qu.safe s.data.toList i with
 | true =>
   obtain ⟨h1, h2, h3⟩ := h.2 g
   rw [if_pos (by omega), if_neg (by omega)]
   by_cases c : Qu.cp s.data.toList i = 65533
   · rw [if_pos (by omega), decide_eq_true (by omega)]
   · rw [if_neg (by omega)]
 | false =>
   have hn : ¬ (32 ≤ Qu.cp s.data.toList i ∧ Qu.cp s.data.toList i ≠ 127 ∧ (Qu.cp s.data.toList i ≠ 65533 ∨ 1 < Qu.unit s.data.toList i)) := fun e => by rw [h.1 e] at g; cases g
   by_cases c1 : 32 ≤ Qu.cp s.data.toList i
   · rw [if_pos (by omega)]
     by_cases c2 : Qu.cp s.data.toList i = 127
     · rw [if_pos (by omega)]
     · rw [if_neg (by omega), if_pos (by omega), decide_eq_false (by omega)]
   · rw [if_neg (by omega)]
end
end Pl
end Go.Proofs.YtagppjldegblhaaGreatDoor
namespace Go.Proofs.YtagppjldegblhaaGreatDoor
open Go
open Sh Gn
namespace Pl
theorem ite_and {p q : Prop} [Decidable p] [Decidable q] : (if p then some (decide q) else some false) = some (decide (p ∧ q)) := by by_cases p <;> by_cases q <;> simp_all
theorem ite_or {p q : Prop} [Decidable p] [Decidable q] : (if p then some true else some (decide q)) = some (decide (p ∨ q)) := by by_cases p <;> by_cases q <;> simp_all
theorem ite_gen {p q r : Prop} [Decidable p] [Decidable q] [Decidable r] : (if p then some (decide q) else some (decide r)) = some (decide ((p ∧ q) ∨ (¬ p ∧ r))) := by by_cases p <;> by_cases q <;> by_cases r <;> simp_all
theorem not_dec {p : Prop} [Decidable p] : (!decide p) = decide (¬ p) := by by_cases p <;> simp_all
theorem str_map (l : List UInt8) : strB (l.map fun b => (b.toNat : Int)) = some ⟨l.toArray⟩ := by
 have h1 : bokB (l.map fun b => (b.toNat : Int)) = true := by
  unfold bokB
  rw [List.all_eq_true]
  intro x hx
  obtain ⟨b, _, rfl⟩ := List.mem_map.1 hx
  have := b.toNat_lt
  simp; omega
 unfold strB
 rw [if_pos h1]
 unfold ofBytes
 rw [List.map_map]
 congr 2
 conv => rhs; rw [← List.map_id l]
 congr 1
 apply List.map_congr_left
 intro b _
 show UInt8.ofNat ((b.toNat : Int)).toNat = b
 rw [Int.toNat_natCast, UInt8.ofNat_toNat]
section
variable {s : ByteArray} {i : Nat}
def trailB (l : List UInt8) : Nat → Nat → Prop
 | _, 0 => True
 | q, k + 1 => (128 ≤ Qu.bt l q ∧ Qu.bt l q ≤ 191) ∧ trailB l (q + 1) k
instance trailD (l : List UInt8) : ∀ q k, Decidable (trailB l q k)
 | _, 0 => isTrue trivial
 | q, k + 1 => @instDecidableAnd _ _ _ (trailD l (q + 1) k)
theorem trail_from {p n : Int} (hs : s.size ≤ 100000) : ∀ (m q r : Nat), r < m → q + r ≤ s.size → ar .add .i64 p n = ((q + r : Nat) : Int) → r10_trail_l1 s p n m q = some (decide (trailB s.data.toList q r)) := by
 intro m
 induction m with
 | zero => intro q r h; omega
 | succ m ih =>
   intro q r h1 h2 h3
   unfold r10_trail_l1
   rw [h3, cm_lss, cond_dec]
   cases r with
   | zero => rw [if_neg (by omega)]; rfl
   | succ r =>
     rw [if_pos (by omega), sin_in (by omega), inc1 (by omega)]
     simp only [_root_.cond_true, cm_lss, cm_gtr, cond_dec, sa_bt, ite_or, Option.bind_some]
     rw [ih (q + 1) r (by omega) (by omega) (by rw [h3]; congr 1; omega)]
     by_cases g : 128 ≤ Qu.bt s.data.toList q ∧ Qu.bt s.data.toList q ≤ 191
     · rw [if_neg (by omega)]
       congr 1
       exact decide_eq_decide.2 ⟨fun h => ⟨g, h⟩, fun h => h.2⟩
     · rw [if_pos (by omega)]
       congr 1
       exact (decide_eq_false fun h => g h.1).symm
theorem trail_p {N p n : Nat} (hN : 20 ≤ N) (hn : n ≤ 3) (hs : s.size ≤ 100000) (hp : p ≤ s.size) : r10_trail_g N s p n = some (decide (n ≤ s.size - p ∧ trailB s.data.toList p n)) := by
 unfold r10_trail_g
 rw [cm_gtr, cond_dec, sl_eq, ar_sub (by omega) (by omega)]
 by_cases c : n ≤ s.size - p
 · rw [if_neg (by omega), trail_from hs N p n (by omega) (by omega) (by rw [ar_add (by omega) (by omega)]; omega)]
   congr 1
   exact decide_eq_decide.2 ⟨fun h => ⟨c, h⟩, fun h => h.2⟩
 · rw [if_pos (by omega)]
   congr 1
   exact (decide_eq_false fun h => c h.1).symm
theorem rrune_p {N : Nat} (hN : 20 ≤ N) (hs : s.size ≤ 100000) (hi : i < s.size) : r10_Rune_g N s i = some (Qu.rune s.data.toList i : Int) := by
 unfold r10_Rune_g Qu.rune
 have b0 := Qu.bt_lt s.data.toList i
 have b1 := Qu.bt_lt s.data.toList (i + 1)
 have t1 : r10_trail_g N s ((i + 1 : Nat) : Int) 1 = some (decide (1 ≤ s.size - (i + 1) ∧ trailB s.data.toList (i + 1) 1)) := trail_p (n := 1) hN (by omega) hs (by omega)
 have t2 : r10_trail_g N s ((i + 1 : Nat) : Int) 2 = some (decide (2 ≤ s.size - (i + 1) ∧ trailB s.data.toList (i + 1) 2)) := trail_p (n := 2) hN (by omega) hs (by omega)
 have t3 : r10_trail_g N s ((i + 1 : Nat) : Int) 3 = some (decide (3 ≤ s.size - (i + 1) ∧ trailB s.data.toList (i + 1) 3)) := trail_p (n := 3) hN (by omega) hs (by omega)
 have ej : (cond (cm .lss ((i + 1 : Nat) : Int) (sl s)) (cond (sinB s ((i + 1 : Nat) : Int)) (some (cv .i64 (sa s ((i + 1 : Nat) : Int)))) none) (some 0)) = some (Qu.bt s.data.toList (i + 1) : Int) := by
  rw [cm_lss, cond_dec, sl_eq]
  by_cases c : i + 1 < s.size
  · rw [if_pos (by omega), sin_in c, _root_.cond_true, sa_bt, cv_i64 (by omega) (by omega)]
  · rw [if_neg (by omega)]
    unfold Qu.bt
    rw [List.getElem?_eq_none (by rw [size_list]; omega)]; rfl
 have ec : cv .i64 (sa s (i : Int)) = (Qu.bt s.data.toList i : Int) := by rw [sa_bt, cv_i64 (by omega) (by omega)]
 rw [inc1 (show i ≤ 100000000 by omega), ej, ec, t1, t2, t3, sin_in hi, size_list]
 simp only [_root_.cond_true, cm_lss, cm_leq, cm_geq, cm_neq, cond_dec, Option.bind_some, not_dec, ite_and, ite_or, ite_gen, bind_self, trailB, and_true]
 generalize Qu.bt s.data.toList i = x0 at *
 generalize Qu.bt s.data.toList (i + 1) = x1 at *
 have e2 : i + 1 + 1 = i + 2 := rfl
 have e3 : i + 1 + 1 + 1 = i + 3 := rfl
 rw [e3, e2]
 generalize Qu.bt s.data.toList (i + 2) = x2
 generalize Qu.bt s.data.toList (i + 3) = x3
 unfold Qu.runeN
 by_cases c1 : x0 < 128
 · rw [if_pos (by omega), if_pos c1]; rfl
 rw [if_neg (by omega), if_neg c1]
 by_cases c2 : 194 ≤ x0 ∧ x0 ≤ 223 ∧ 1 < s.size - i ∧ 128 ≤ x1 ∧ x1 ≤ 191
 · rw [if_pos (by omega), if_pos c2]; rfl
 rw [if_neg (by omega), if_neg c2]
 by_cases c3 : 224 ≤ x0 ∧ x0 ≤ 239 ∧ (2 < s.size - i ∧ 128 ≤ x1 ∧ x1 ≤ 191 ∧ 128 ≤ x2 ∧ x2 ≤ 191) ∧ (x0 ≠ 224 ∨ 160 ≤ x1) ∧ (x0 ≠ 237 ∨ x1 < 160)
 · rw [if_pos (by omega), if_pos c3]; rfl
 rw [if_neg (by omega), if_neg c3]
 by_cases c4 : 240 ≤ x0 ∧ x0 ≤ 244 ∧ (3 < s.size - i ∧ 128 ≤ x1 ∧ x1 ≤ 191 ∧ 128 ≤ x2 ∧ x2 ≤ 191 ∧ 128 ≤ x3 ∧ x3 ≤ 191) ∧ (x0 ≠ 240 ∨ 144 ≤ x1) ∧ (x0 ≠ 244 ∨ x1 < 144)
 · rw [if_pos (by omega), if_pos c4]; rfl
 rw [if_neg (by omega), if_neg c4]; rfl
theorem rsafe_p {N : Nat} (hN : 20 ≤ N) (hs : s.size ≤ 100000) (hi : i < s.size) : r10_safe_g N s i = some (Qu.safe s.data.toList i) := by
 unfold r10_safe_g Qu.safe
 rw [rrune_p hN hs hi, sin_in hi, sa_bt]
 simp only [_root_.cond_true, cm_gtr, cm_geq, cm_neq, not_dec, cond_dec, Option.bind_some, ite_and, bind_self]
 congr 1
 rw [← Bool.decide_and, ← Bool.decide_and]
 exact decide_eq_decide.2 (by omega)
end
end Pl
end Go.Proofs.YtagppjldegblhaaGreatDoor
namespace Go.Proofs.YtagppjldegblhaaGreatDoor
open Go
open Sh Gn
namespace Pl
def toM (g : GMatcher) : Mt.M := ⟨g.Name, g.Op, g.Value⟩
theorem lab_eq {s : ByteArray} : lab s = Nm.labelB s.data.toList := by
 unfold lab Nm.labelB Nm.allB runAt
 rw [size_list, List.drop_zero, Bool.eq_iff_iff]
 simp [and_assoc]
theorem mright_p {N : Nat} (hN : 1000 ≤ N) (g : GMatcher) : matcher_Right_g N g = some (Mt.right (toM g)) := by
 unfold matcher_Right_g Mt.right toM
 rw [label_p hN, lab_eq]
 simp only [Option.bind_some, cond_not, cm_lss, cm_gtr, cm_eql, cm_neq, cond_dec, ite_or, sl_eq]
 cases Nm.labelB g.Name.data.toList with
 | false => rfl
 | true =>
   simp only [_root_.cond_true, Bool.true_eq_false, if_false]
   by_cases c1 : g.Op < 1 ∨ 4 < g.Op
   · simp only [c1, if_true]
   · simp only [c1, if_false]
     by_cases c2 : g.Op ≤ 2
     · have c2' : g.Op = 1 ∨ g.Op = 2 := by omega
       simp only [c2, c2', if_true]
       by_cases c3 : 1024 < g.Value.size
       · have c3' : (1024 : Int) < (g.Value.size : Int) := by omega
         simp only [c3, c3', if_true]
       · have c3' : ¬ (1024 : Int) < (g.Value.size : Int) := by omega
         simp only [c3, c3', if_false]
     · have c2' : ¬ (g.Op = 1 ∨ g.Op = 2) := by omega
       simp only [c2, c2', if_false]
       unfold regex_Parse_g
       simp only [Option.bind_some]
       by_cases c3 : (Rx.parse g.Value.data.toList).2.1 = 0
       · simp only [c3, if_true]
       · simp only [c3, if_false]
theorem rright_p {N : Nat} (hN : 1000 ≤ N) (g : GMatcher) : r22_Right_g N g = some (Mt.right (toM g)) := by
 unfold r22_Right_g Mt.right toM
 rw [rlabel_p hN, lab_eq]
 simp only [Option.bind_some, cond_not, cm_lss, cm_gtr, cm_eql, cm_neq, cond_dec, ite_or, ite_and, sl_eq]
 cases Nm.labelB g.Name.data.toList with
 | false => rfl
 | true =>
   simp only [_root_.cond_true, Bool.true_eq_false, if_false]
   by_cases c1 : g.Op < 1 ∨ 4 < g.Op
   · simp only [c1, if_true]
   · simp only [c1, if_false]
     by_cases c2 : g.Op ≤ 2
     · have c2' : ¬ 2 < g.Op := by omega
       have c2'' : g.Op < 3 := by omega
       simp only [c2, c2', c2'', if_true, if_false, true_and]
       by_cases c3 : 1024 < g.Value.size
       · have c3' : (1024 : Int) < (g.Value.size : Int) := by omega
         simp only [c3, c3', if_true]
       · have c3' : ¬ (1024 : Int) < (g.Value.size : Int) := by omega
         simp only [c3, c3', if_false]
     · have c2' : 2 < g.Op := by omega
       have c2'' : ¬ g.Op < 3 := by omega
       simp only [c2, c2', c2'', if_true, if_false, false_and, parse_p hN, Option.bind_some]
theorem msign_p (o : Int) : matcher_sign_g o = some (Mt.ofL (Mt.sgn o)) := by
 unfold matcher_sign_g Mt.sgn
 simp only [cm_eql, cond_dec]
 by_cases c1 : o = 1
 · simp only [c1, if_true]; rfl
 by_cases c2 : o = 2
 · simp only [c1, c2, if_true, if_false]; rfl
 by_cases c3 : o = 3
 · simp only [c1, c2, c3, if_true, if_false]; rfl
 by_cases c4 : o = 4
 · simp only [c1, c2, c3, c4, if_true, if_false]; rfl
 · simp only [c1, c2, c3, c4, if_false]; rfl
theorem rsgn_p (o : Int) : r22_Sign_g o = some (Mt.ofL (Mt.sgn o)) := msign_p o
end Pl
end Go.Proofs.YtagppjldegblhaaGreatDoor
namespace Go.Proofs.YtagppjldegblhaaGreatDoor
open Go
open Sh Gn
namespace Pl
section
variable {s : ByteArray}
theorem sgn_size (o : Int) : (Mt.ofL (Mt.sgn o)).size = (Mt.sgn o).length ∧ (Mt.sgn o).length ≤ 2 := by
 refine ⟨by rw [← size_list, Mt.ofL_list], ?_⟩
 unfold Mt.sgn; (repeat' split) <;> decide
end
end Pl
end Go.Proofs.YtagppjldegblhaaGreatDoor
namespace Go.Proofs.YtagppjldegblhaaGreatDoor
open Go
open Sh Gn
namespace Pl
theorem conj3 {a b c : Bool} : conj [a, b, c] = (a && (b && c)) := by show (a && (b && (c && true))) = _; rw [Bool.and_true]
theorem eql_self (x : Int) : cm .eql x x = true := by rw [cm_eql]; exact decide_eq_true rfl
theorem seql_self (x : ByteArray) : sc .eql x x = true := by rw [sc_eql]; exact decide_eq_true rfl
end Pl
end Go.Proofs.YtagppjldegblhaaGreatDoor
namespace Go.Proofs.YtagppjldegblhaaGreatDoor
open Go
open Sh Gn
namespace Pl
theorem at_get {α : Type} {l : List α} {k : Nat} (h : k < l.length) : at_ l (k : Int) = some l[k] := by
 unfold at_
 rw [if_pos (by omega), Int.toNat_natCast, List.getElem?_eq_getElem h]
end Pl
end Go.Proofs.YtagppjldegblhaaGreatDoor
namespace Go.Proofs.YtagppjldegblhaaGreatDoor
open Go
open Sh Gn
namespace Pl
open Mx (Pos orP zr iter upto more Sup Adds Keeps sp)
def tab (M : Nat) (x : Pos) : List Bool := (List.range M).map x
def jn (a b : Pos) (k : Nat) : Pos := fun j => if j < k then a j || b j else a j
def fr (a b : Pos) (k : Nat) : Bool := (List.range k).any fun j => b j && !a j
end Pl
end Go.Proofs.YtagppjldegblhaaGreatDoor
namespace Go.Proofs.YtagppjldegblhaaGreatDoor
open Go Go.RowKit
open Ab Sh
namespace Gn
def r23_Great_l2 (N : Nat) (k1 : Int → Option Bool) (p0 : List GMatcher) (p1 : List GLabel) (v1 : Int) : Nat → Int → Option Bool
| 0, _ => none
| m + 1, v4 =>
 cond (cm .lss v4 (ll (rw _ cLabel p1)))
 ((at_ p1 v4).bind fun r5 =>
 (at_ p0 v1).bind fun r6 =>
 cond (sc .eql r5.Name r6.Name)
 (cond (sc .eql r5.Name r6.Name)
 (cond (sc .eql r5.Name r6.Name)
 ((at_ p0 v1).bind fun r7 =>
 cond (sc .eql r5.Name r6.Name)
 (cond (sc .eql r5.Name r6.Name)
 (cond (sc .eql r5.Name r6.Name)
 (cond (sc .eql r5.Name r6.Name)
 ((at_ p1 v4).bind fun r8 =>
 cond (sc .eql r5.Name r6.Name)
 (cond (sc .eql r5.Name r6.Name)
 (cond (sc .eql r5.Name r6.Name)
 (cond (sc .eql r5.Name r6.Name)
 ((r22_Great_g N r7 (sl r8.Value)).bind fun a9 =>
 cond (sc .eql r5.Name r6.Name)
 (cond (a9)
 (some true)
 ((r23_Great_l2 N k1 p0 p1 v1 m) (ar .add .i64 v4 1)))
 (none))
 (none))
 (none))
 (none))
 (none))
 (none))
 (none))
 (none))
 (none))
 (none))
 (none))
 (cond (sc .eql r5.Name r6.Name)
 (none)
 (cond (sc .eql r5.Name r6.Name)
 (none)
 (cond (sc .eql r5.Name r6.Name)
 (none)
 (cond (sc .eql r5.Name r6.Name)
 (none)
 (cond (sc .eql r5.Name r6.Name)
 (none)
 (cond (sc .eql r5.Name r6.Name)
 (none)
 (cond (sc .eql r5.Name r6.Name)
 (none)
 (cond (sc .eql r5.Name r6.Name)
 (none)
 (cond (sc .eql r5.Name r6.Name)
 (none)
 (cond (sc .eql r5.Name r6.Name)
 (none)
 (cond (sc .eql r5.Name r6.Name)
 (none)
 ((r23_Great_l2 N k1 p0 p1 v1 m) (ar .add .i64 v4 1))))))))))))))
 (k1 (ar .add .i64 v1 1))
def selector_wrong_s (R : RF) (r : GFault) : V := .agg [fI .i64 r.E, fI .i64 r.At]
def selector_wrong_g (p0 : ByteArray) (p1 : Int) : Option GFault :=
 cond (cm .geq p1 (sl p0))
 (some (⟨1, sl p0⟩ : GFault))
 (some (⟨2, p1⟩ : GFault))
def selector_Take_s (R : RF) (r : (List GMatcher) × Int × GFault) : V := .tup [.t (.slc (R _ cMatcher r.1)), fI .i64 r.2.1, .agg [fI .i64 r.2.2.E, fI .i64 r.2.2.At]]
def selector_Take_l1 (N : Nat) (p0 : ByteArray) : Nat → Int → List GMatcher → Option ((List GMatcher) × Int × GFault)
| 0, _, _ => none
| m + 1, v4, v5 =>
 (cond (cm .eql (ll (rw _ cMatcher v5)) 64)
 (some (cm .lss v4 (sl p0)))
 (some false) : Option Bool).bind fun j3 =>
 cond (j3)
 (some ([], 0, (⟨3, v4⟩ : GFault)))
 ((matcher_Take_g N p0 v4).bind fun a6 =>
 cond (cm .neq a6.2.2.E 0)
 (some ([], 0, a6.2.2))
 ((app cMatcher v5 [a6.1]).bind fun l7 =>
 cond (ssinB p0 a6.2.1 (sl p0)) ((strings_HasPrefix_g (ss p0 a6.2.1 (sl p0)) (ByteArray.mk #[125])).bind fun a8 =>
 cond (a8)
 (some (l7, ar .add .i64 a6.2.1 1, (⟨0, 0⟩ : GFault)))
 (cond (ssinB p0 a6.2.1 (sl p0)) ((strings_HasPrefix_g (ss p0 a6.2.1 (sl p0)) (ByteArray.mk #[44])).bind fun a9 =>
 cond (!a9)
 ((selector_wrong_g p0 a6.2.1).bind fun a10 =>
 some ([], 0, a10))
 (cond (ssinB p0 (ar .add .i64 a6.2.1 1) (sl p0)) ((strings_HasPrefix_g (ss p0 (ar .add .i64 a6.2.1 1) (sl p0)) (ByteArray.mk #[32])).bind fun a11 =>
 cond (!a11)
 ((selector_wrong_g p0 (ar .add .i64 a6.2.1 1)).bind fun a12 =>
 some ([], 0, a12))
 ((selector_Take_l1 N p0 m) (ar .add .i64 a6.2.1 2) l7)) none)) none)) none))
def selector_Take_g (N : Nat) (p0 : ByteArray) (p1 : Int) : Option ((List GMatcher) × Int × GFault) :=
 (cond (cm .lss p1 0)
 (some true)
 (some (cm .gtr p1 (sl p0))) : Option Bool).bind fun j1 =>
 cond (j1)
 (some ([], 0, (⟨7, 0⟩ : GFault)))
 (cond (ssinB p0 p1 (sl p0)) ((strings_HasPrefix_g (ss p0 p1 (sl p0)) (ByteArray.mk #[123])).bind fun a1 =>
 cond (!a1)
 ((selector_wrong_g p0 p1).bind fun a2 =>
 some ([], 0, a2))
 (cond (ssinB p0 p1 (sl p0)) ((strings_HasPrefix_g (ss p0 p1 (sl p0)) (ByteArray.mk #[123, 125])).bind fun a3 =>
 cond (a3)
 (some ([], ar .add .i64 p1 2, (⟨0, 0⟩ : GFault)))
 (selector_Take_l1 N p0 N (ar .add .i64 p1 1) [])) none)) none)
def selector_Parse_s (R : RF) (r : (List GMatcher) × GFault) : V := .tup [.t (.slc (R _ cMatcher r.1)), .agg [fI .i64 r.2.E, fI .i64 r.2.At]]
def selector_Parse_g (N : Nat) (p0 : ByteArray) : Option ((List GMatcher) × GFault) :=
 (selector_Take_g N p0 0).bind fun a1 =>
 cond (cm .neq a1.2.2.E 0)
 (some ([], a1.2.2))
 (cond (cm .lss a1.2.1 (sl p0))
 ((selector_wrong_g p0 a1.2.1).bind fun a2 =>
 some ([], a2))
 (some (a1.1, (⟨0, 0⟩ : GFault))))
def selector_Text_s (R : RF) (r : ByteArray) : V := fS r
def selector_Text_l1 (N : Nat) (p0 : List GMatcher) : Nat → Int → List Int → Option ByteArray
| 0, _, _ => none
| m + 1, v4, v5 =>
 cond (cm .lss v4 (ll (rw _ cMatcher p0)))
 ((at_ p0 v4).bind fun r6 =>
 (cond (cm .gtr v4 0)
 ((app (cI .u8) v5 (Sh.bytes (ByteArray.mk #[44, 32]))).bind fun l7 =>
 some l7)
 (some v5) : Option (List Int)).bind fun j4 =>
 (matcher_Text_g N r6).bind fun a8 =>
 (app (cI .u8) j4 (Sh.bytes a8)).bind fun l9 =>
 (selector_Text_l1 N p0 m) (ar .add .i64 v4 1) l9)
 ((strB v5).bind fun s10 =>
 cond (ctB (ByteArray.mk #[123]) s10) (cond (ctB (ct (ByteArray.mk #[123]) s10) (ByteArray.mk #[125])) (some (ct (ct (ByteArray.mk #[123]) s10) (ByteArray.mk #[125]))) none) none)
def selector_Text_g (N : Nat) (p0 : List GMatcher) : Option ByteArray :=
 cond (cm .lss 0 (ll (rw _ cMatcher p0)))
 ((at_ p0 0).bind fun r1 =>
 cond (cm .gtr 0 0)
 (none)
 ((matcher_Text_g N r1).bind fun a2 =>
 (app (cI .u8) [] (Sh.bytes a2)).bind fun l3 =>
 selector_Text_l1 N p0 N (ar .add .i64 0 1) l3))
 (cond (ctB (ByteArray.mk #[123]) ByteArray.empty) (cond (ctB (ct (ByteArray.mk #[123]) ByteArray.empty) (ByteArray.mk #[125])) (some (ct (ct (ByteArray.mk #[123]) ByteArray.empty) (ByteArray.mk #[125]))) none) none)
def porterbase_SameSel_l1 (p0 : List GMatcher) (p1 : List GMatcher) : Nat → Int → Option Bool
| 0, _ => none
| m + 1, v1 =>
 cond (cm .lss v1 (ll (rw _ cMatcher p0)))
 ((at_ p0 v1).bind fun r2 =>
 (at_ p1 v1).bind fun r3 =>
 cond (!(conj [sc .eql r2.Name r3.Name, cm .eql r2.Op r3.Op, sc .eql r2.Value r3.Value]))
 (some false)
 ((porterbase_SameSel_l1 p0 p1 m) (ar .add .i64 v1 1)))
 (some true)
def selector_Right_s (R : RF) (r : GFault) : V := .agg [fI .i64 r.E, fI .i64 r.At]
def selector_Right_l1 (N : Nat) (p0 : List GMatcher) : Nat → Int → Option GFault
| 0, _ => none
| m + 1, v1 =>
 cond (cm .lss v1 (ll (rw _ cMatcher p0)))
 ((at_ p0 v1).bind fun r2 =>
 (matcher_Right_g N r2).bind fun a3 =>
 cond (cm .neq a3 0)
 (some (⟨a3, v1⟩ : GFault))
 ((selector_Right_l1 N p0 m) (ar .add .i64 v1 1)))
 (some (⟨0, 0⟩ : GFault))
def selector_Right_g (N : Nat) (p0 : List GMatcher) : Option GFault :=
 cond (cm .gtr (ll (rw _ cMatcher p0)) 64)
 (some (⟨3, 64⟩ : GFault))
 (selector_Right_l1 N p0 N 0)
def r23_Right_l1 (N : Nat) (p0 : List GMatcher) : Nat → Int → Option GFault
| 0, _ => none
| m + 1, v1 =>
 cond (cm .lss v1 (ll (rw _ cMatcher p0)))
 ((at_ p0 v1).bind fun r2 =>
 (r22_Right_g N r2).bind fun a3 =>
 cond (cm .neq a3 0)
 (some (⟨a3, v1⟩ : GFault))
 ((r23_Right_l1 N p0 m) (ar .add .i64 v1 1)))
 (some (⟨0, 0⟩ : GFault))
def r23_Right_g (N : Nat) (p0 : List GMatcher) : Option GFault :=
 cond (cm .gtr (ll (rw _ cMatcher p0)) 64)
 (some (⟨3, 64⟩ : GFault))
 (r23_Right_l1 N p0 N 0)
def r23_Text_l1 (N : Nat) (p0 : List GMatcher) : Nat → ByteArray → Int → Option ByteArray
| 0, _, _ => none
| m + 1, v1, v2 =>
 cond (cm .lss v2 (ll (rw _ cMatcher p0)))
 ((cond (cm .gtr v2 0)
 (cond (ctB v1 (ByteArray.mk #[44, 32])) (some (ct v1 (ByteArray.mk #[44, 32]))) none)
 (some v1) : Option ByteArray).bind fun j1 =>
 (at_ p0 v2).bind fun r3 =>
 (r22_Text_g N r3).bind fun a4 =>
 cond (ctB j1 a4) ((r23_Text_l1 N p0 m) (ct j1 a4) (ar .add .i64 v2 1)) none)
 (cond (ctB v1 (ByteArray.mk #[125])) (some (ct v1 (ByteArray.mk #[125]))) none)
def r23_Text_g (N : Nat) (p0 : List GMatcher) : Option ByteArray :=
 r23_Text_l1 N p0 N (ByteArray.mk #[123]) 0
end Gn
end Go.Proofs.YtagppjldegblhaaGreatDoor
namespace Go.Proofs.YtagppjldegblhaaGreatDoor
open Go
open Sh Gn
namespace Pl
def toMs (l : List GMatcher) : List Mt.M := l.map toM
theorem sright_from {N : Nat} (hN : 1000 ≤ N) (l : List GMatcher) (hl : l.length ≤ 100000) : ∀ (m k : Nat), k ≤ l.length → l.length < k + m → selector_Right_l1 N l m k = some ⟨(Sl.firstBad (toMs (l.drop k)) k).1, ((Sl.firstBad (toMs (l.drop k)) k).2 : Int)⟩ := by
 intro m
 induction m with
 | zero => intro k h1 h2; omega
 | succ m ih =>
   intro k h1 h2
   rw [selector_Right_l1]
   simp only [cm_lss, cm_neq, cond_not, cond_dec, ll_eq]
   by_cases c : k < l.length
   · rw [if_pos (by omega), at_get c, inc1 (by omega), Option.bind_some, mright_p hN, Option.bind_some, List.drop_eq_getElem_cons c]
     unfold toMs
     rw [List.map_cons, Sl.firstBad]
     by_cases g : Mt.right (toM l[k]) = 0
     · rw [if_pos g, if_neg (by simp [g])]
       exact ih (k + 1) (by omega) (by omega)
     · rw [if_neg g, if_pos g]
   · rw [if_neg (by omega), List.drop_of_length_le (by omega)]
     rfl
theorem rsright_from {N : Nat} (hN : 1000 ≤ N) (l : List GMatcher) (hl : l.length ≤ 100000) : ∀ (m k : Nat), k ≤ l.length → l.length < k + m → r23_Right_l1 N l m k = some ⟨(Sl.firstBad (toMs (l.drop k)) k).1, ((Sl.firstBad (toMs (l.drop k)) k).2 : Int)⟩ := by
 intro m
 induction m with
 | zero => intro k h1 h2; omega
 | succ m ih =>
   intro k h1 h2
   rw [r23_Right_l1]
   simp only [cm_lss, cm_neq, cond_not, cond_dec, ll_eq]
   by_cases c : k < l.length
   · rw [if_pos (by omega), at_get c, inc1 (by omega), Option.bind_some, rright_p hN, Option.bind_some, List.drop_eq_getElem_cons c]
     unfold toMs
     rw [List.map_cons, Sl.firstBad]
     by_cases g : Mt.right (toM l[k]) = 0
     · rw [if_pos g, if_neg (by simp [g])]
       exact ih (k + 1) (by omega) (by omega)
     · rw [if_neg g, if_pos g]
   · rw [if_neg (by omega), List.drop_of_length_le (by omega)]
     rfl
theorem sright_p {N : Nat} (hN : 1000 ≤ N) (l : List GMatcher) : selector_Right_g N l = some ⟨(Sl.right (toMs l)).1, ((Sl.right (toMs l)).2 : Int)⟩ := by
 unfold selector_Right_g Sl.right
 have e : (toMs l).length = l.length := by unfold toMs; rw [List.length_map]
 rw [cm_gtr, cond_dec, ll_eq, e]
 by_cases c : 64 < l.length
 · rw [if_pos (by omega), if_pos c]; rfl
 · rw [if_neg (by omega), if_neg c]
   exact sright_from hN l (by omega) N 0 (by omega) (by omega)
theorem rsright_p {N : Nat} (hN : 1000 ≤ N) (l : List GMatcher) : r23_Right_g N l = some ⟨(Sl.right (toMs l)).1, ((Sl.right (toMs l)).2 : Int)⟩ := by
 unfold r23_Right_g Sl.right
 have e : (toMs l).length = l.length := by unfold toMs; rw [List.length_map]
 rw [cm_gtr, cond_dec, ll_eq, e]
 by_cases c : 64 < l.length
 · rw [if_pos (by omega), if_pos c]; rfl
 · rw [if_neg (by omega), if_neg c]
   exact rsright_from hN l (by omega) N 0 (by omega) (by omega)
end Pl
end Go.Proofs.YtagppjldegblhaaGreatDoor
