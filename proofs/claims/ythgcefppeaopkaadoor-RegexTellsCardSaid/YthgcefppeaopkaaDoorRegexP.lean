/- The pattern's parser, as the document has it: plain definitions. No program in sight. -/
import Derived.Test.YthgcefppeaopkaaDoorSetP
namespace Go.Proofs.YthgcefppeaopkaaDoor
open Go
inductive Node where
  | mk (kind : Int) (set : CSet) (kids : List Node) (min max : Int)
namespace Node
def kind : Node → Int | .mk k _ _ _ _ => k
def set : Node → CSet | .mk _ s _ _ _ => s
def kids : Node → List Node | .mk _ _ l _ _ => l
def min : Node → Int | .mk _ _ _ a _ => a
def max : Node → Int | .mk _ _ _ _ b => b
end Node
/-- what a reader comes to: a thing and the place behind it; or what is wrong, and where; or the bound was too small -/
inductive Res (α : Type) where
  | ok (a : α) (p : Nat)
  | bad (e : Int) (p : Nat)
  | out
namespace Rx
/-- the byte at a place; -1: the end -/
def pk (l : List UInt8) (i : Nat) : Int := match l[i]? with | some b => (b.toNat : Int) | none => -1
def other {α : Type} (l : List UInt8) (i : Nat) : Res α := if pk l i < 0 then .bad 1 l.length else .bad 2 i
def hexv (b : Int) : Int := if 48 ≤ b ∧ b ≤ 57 then b - 48 else if 97 ≤ b ∧ b ≤ 102 then b - 87 else -1
def digits : CSet := CSet.between 48 57
def words : CSet := ((CSet.between 48 57).or (CSet.between 65 90)).or ((CSet.between 97 122).or (CSet.between 95 95))
def one (b : Int) : CSet := CSet.between b.toNat b.toNat
/-- may stand behind a backslash for itself -/
def plainB (b : Int) : Bool := [92, 46, 91, 93, 40, 41, 123, 125, 124, 42, 43, 63, 45, 94].contains b
def esc (l : List UInt8) (i : Nat) : Res (CSet × Bool) :=
  if pk l (i + 1) = -1 then .bad 1 l.length
  else if pk l (i + 1) = 100 then .ok (digits, true) (i + 2)
  else if pk l (i + 1) = 119 then .ok (words, true) (i + 2)
  else if pk l (i + 1) = 120 then
    if pk l (i + 2) = -1 then .bad 1 l.length
    else if hexv (pk l (i + 2)) < 0 then .bad 2 i
    else if pk l (i + 3) = -1 then .bad 1 l.length
    else if hexv (pk l (i + 3)) < 0 then .bad 2 i
    else .ok (one (16 * hexv (pk l (i + 2)) + hexv (pk l (i + 3))), false) (i + 4)
  else if plainB (pk l (i + 1)) then .ok (one (pk l (i + 1)), false) (i + 2)
  else .bad 2 i
def sign (l : List UInt8) (i : Nat) : Res (CSet × Bool) :=
  if pk l i = 92 then esc l i
  else if pk l i = -1 ∨ pk l i = 91 ∨ pk l i = 93 ∨ pk l i = 45 ∨ pk l i = 94 then other l i
  else .ok (one (pk l i), false) (i + 1)
def item (l : List UInt8) (i : Nat) : Res CSet :=
  match sign l i with
  | .ok (S, many) p =>
    if many = true ∨ pk l p ≠ 45 then .ok S p
    else match sign l (p + 1) with
      | .ok (T, more) q => if more = true ∨ T.first < S.first then .bad 2 (p + 1) else .ok (CSet.between S.first.toNat T.first.toNat) q
      | .bad e q => .bad e q
      | .out => .out
  | .bad e p => .bad e p
  | .out => .out
def items (l : List UInt8) : Nat → CSet → Nat → Res CSet
  | 0, _, _ => .out
  | f + 1, S, i => match item l i with
    | .ok T p => if pk l p = 93 then .ok (S.or T) p else items l f (S.or T) p
    | .bad e p => .bad e p
    | .out => .out
def cls (l : List UInt8) (i : Nat) : Res CSet :=
  match items l (l.length + 1) CSet.empty (if pk l i = 94 then i + 1 else i) with
  | .ok S p => .ok (if pk l i = 94 then S.not else S) (p + 1)
  | .bad e p => .bad e p
  | .out => .out
def digitB (b : Int) : Bool := decide (48 ≤ b) && decide (b ≤ 57)
/-- the digits from a place on: the number so far, and the place behind them -/
def digs (l : List UInt8) : Nat → Nat → Nat → Nat × Nat
  | 0, n, i => (n, i)
  | f + 1, n, i => if digitB (pk l i) then digs l f (Nat.min (10 * n + (pk l i - 48).toNat) 1000) (i + 1) else (n, i)
def number (l : List UInt8) (i : Nat) : Res Nat :=
  if (digs l (l.length - i) 0 i).2 = i then other l i
  else if pk l i = 48 ∧ (digs l (l.length - i) 0 i).2 > i + 1 then .bad 2 i
  else if (digs l (l.length - i) 0 i).1 > 16 then .bad 3 i
  else .ok (digs l (l.length - i) 0 i).1 (digs l (l.length - i) 0 i).2
/-- what stands in braces, behind the opening one, as far as the closing one -/
def brc (l : List UInt8) (i : Nat) : Res (Int × Int) :=
  match number l i with
  | .ok low p =>
    if pk l p = 44 then
      if pk l (p + 1) = 125 then .ok ((low : Int), -1) (p + 1)
      else match number l (p + 1) with
        | .ok high q => if high = 0 ∨ high < low then .bad 2 (p + 1) else .ok ((low : Int), (high : Int)) q
        | .bad e q => .bad e q
        | .out => .out
    else if low = 0 then .bad 2 i else .ok ((low : Int), (low : Int)) p
  | .bad e p => .bad e p
  | .out => .out
def rep (n : Node) (low high : Int) : Node := .mk 4 CSet.empty [n] low high
def flat (kind : Int) : List Node → List Node
  | [] => []
  | n :: r => if n.kind = kind then n.kids ++ flat kind r else n :: flat kind r
def join (kind : Int) (parts : List Node) : Node :=
  match flat kind parts with
  | [n] => n
  | l => .mk kind CSet.empty l 0 0
section
variable (l : List UInt8) (atm : Nat → Res Node)
def piece (i : Nat) : Res Node :=
  match atm i with
  | .ok n p =>
    if pk l p = 42 then .ok (rep n 0 (-1)) (p + 1)
    else if pk l p = 43 then .ok (rep n 1 (-1)) (p + 1)
    else if pk l p = 63 then .ok (rep n 0 1) (p + 1)
    else if pk l p = 123 then
      match brc l (p + 1) with
      | .ok (low, high) q => if pk l q = 125 then .ok (rep n low high) (q + 1) else other l q
      | .bad e q => .bad e q
      | .out => .out
    else .ok n p
  | .bad e p => .bad e p
  | .out => .out
def pieces : Nat → List Node → Nat → Res (List Node)
  | 0, _, _ => .out
  | f + 1, ns, i =>
    if pk l i = -1 ∨ pk l i = 124 ∨ pk l i = 41 then .ok ns i
    else match piece l atm i with
      | .ok n p => pieces f (ns ++ [n]) p
      | .bad e p => .bad e p
      | .out => .out
def cat (i : Nat) : Res Node :=
  match pieces l atm (l.length + 1) [] i with
  | .ok ns p => .ok (join 2 ns) p
  | .bad e p => .bad e p
  | .out => .out
def cats : Nat → List Node → Nat → Res (List Node)
  | 0, _, _ => .out
  | f + 1, ns, i =>
    if pk l i = 124 then
      match cat l atm (i + 1) with
      | .ok n p => cats f (ns ++ [n]) p
      | .bad e p => .bad e p
      | .out => .out
    else .ok ns i
def alt (i : Nat) : Res Node :=
  match cat l atm i with
  | .ok n p => match cats l atm (l.length + 1) [n] p with
    | .ok [n] q => .ok n q
    | .ok ns q => .ok (join 3 ns) q
    | .bad e q => .bad e q
    | .out => .out
  | .bad e p => .bad e p
  | .out => .out
end
def wrongAtom (b : Int) : Bool := [-1, 41, 93, 123, 125, 124, 42, 43, 63].contains b
/-- an atom; d: how many brackets more may be open -/
def atom (l : List UInt8) : Nat → Nat → Res Node
  | d, i =>
    if wrongAtom (pk l i) then other l i
    else if pk l i = 40 then
      match d with
      | 0 => .bad 3 i
      | d + 1 => match alt l (atom l d) (i + 1) with
        | .ok n p => if pk l p = 41 then .ok n (p + 1) else other l p
        | .bad e p => .bad e p
        | .out => .out
    else if pk l i = 46 then .ok (.mk 1 (CSet.between 0 255) [] 0 0) (i + 1)
    else if pk l i = 91 then
      match cls l (i + 1) with
      | .ok S p => .ok (.mk 1 S [] 0 0) p
      | .bad e p => .bad e p
      | .out => .out
    else if pk l i = 92 then
      match esc l i with
      | .ok (S, _) p => .ok (.mk 1 S [] 0 0) p
      | .bad e p => .bad e p
      | .out => .out
    else .ok (.mk 1 (one (pk l i)) [] 0 0) (i + 1)
def zero : Node := .mk 0 CSet.empty [] 0 0
/-- a pattern's tree; or the fault: its number and place -/
def parse (l : List UInt8) : Node × Int × Nat :=
  if l.length > 256 then (zero, 3, 256)
  else match alt l (atom l 16) 0 with
    | .ok n p => if p < l.length then (match (other l p : Res Node) with | .bad e q => (zero, e, q) | _ => (zero, 0, 0)) else (n, 0, 0)
    | .bad e p => (zero, e, p)
    | .out => (zero, 0, 0)
end Rx
end Go.Proofs.YthgcefppeaopkaaDoor
