/- States, changes and what they do: plain. -/
import Derived.Test.YtgcgilcalmefgaaNameP
import Derived.Sort.Walk0
namespace Go.Proofs.Ytgcgilcalmefgaa
open Go
namespace Rn
structure K where
  num : Int
  txt : ByteArray
structure T where
  name : ByteArray
  epoch : Int
  next : Int
  keys : List K
structure S where
  tens : List T
  serial : Int
structure E where
  kind : Int
  ten : ByteArray
  num : Int
  epoch : Int
  txt : ByteArray
def fromB (n first : Int) : Bool := decide (first ≤ n) && decide (n ≤ 1099511627776)
def less (a b : ByteArray) : Bool := Op.bytesLess a.toList b.toList
/-- each is held to be less than the next one -/
def rises {α : Type} (lt : α → α → Bool) : List α → Bool
  | [] => true
  | [_] => true
  | a :: b :: r => lt a b && rises lt (b :: r)
def ltK (a b : K) : Bool := decide (a.num < b.num)
def ltT (a b : T) : Bool := less a.name b.name
def keyB (next : Int) (k : K) : Bool := !(decide (k.num < 1) || decide (next ≤ k.num) || !decide (k.txt.size = 32))
def tenB (t : T) : Bool := Nm.wordB t.name.data.toList && fromB t.epoch 0 && fromB t.next 1 && decide (t.keys.length ≤ 8) && t.keys.all (keyB t.next) && rises ltK t.keys
def right (s : S) : Bool := decide (s.tens.length ≤ 16) && fromB s.serial 0 && s.tens.all tenB && rises ltT s.tens
def form (e : E) : Bool :=
  if e.kind = 1 then Nm.wordB e.ten.data.toList && fromB e.epoch 0 && fromB e.num 1 && decide (e.txt.size = 0)
  else if e.kind = 2 then Nm.wordB e.ten.data.toList && decide (e.epoch = 0) && fromB e.num 1 && decide (e.txt.size = 32)
  else if e.kind = 3 then Nm.wordB e.ten.data.toList && decide (e.epoch = 0) && fromB e.num 1 && decide (e.txt.size = 0)
  else if e.kind = 4 then decide (e.ten.size = 0) && decide (e.epoch = 0) && fromB e.num 0 && decide (e.txt.size = 0)
  else false
/-- the place of a tenant -/
def find (l : List T) (n : ByteArray) : Option Nat := l.findIdx? (fun t => decide (t.name = n))
/-- how many come ahead of that name, in a list that rises -/
def spotT (l : List T) (n : ByteArray) : Nat := (l.takeWhile (fun t => less t.name n)).length
def spotK (l : List K) (n : Int) : Nat := (l.takeWhile (fun k => decide (k.num < n))).length
def ins {α : Type} (l : List α) (i : Nat) (x : α) : List α := l.take i ++ x :: l.drop i
def del {α : Type} (l : List α) (i : Nat) : List α := l.take i ++ l.drop (i + 1)
/-- a change done; or the error -/
inductive R where
  | ok (s : S)
  | bad (e : Int)
def hasT (l : List T) (n : ByteArray) : Bool := match l[spotT l n]? with | some t => decide (t.name = n) | none => false
def hasK (l : List K) (n : Int) : Bool := match l[spotK l n]? with | some k => decide (k.num = n) | none => false
def zeroT (n : ByteArray) : T := ⟨n, 0, 0, []⟩
def doTen (s : S) (e : E) : R :=
  if hasT s.tens e.ten = false ∧ s.tens.length = 16 then .bad 3
  else
    let l := if hasT s.tens e.ten = true then s.tens else ins s.tens (spotT s.tens e.ten) (zeroT e.ten)
    match l[spotT s.tens e.ten]? with
    | some t => if e.epoch < t.epoch ∨ e.num < t.next then .bad 7 else .ok ⟨l.set (spotT s.tens e.ten) ⟨t.name, e.epoch, e.num, t.keys⟩, s.serial⟩
    | none => .bad 7
def doKey (s : S) (e : E) : R :=
  if hasT s.tens e.ten = false then .bad 6
  else match s.tens[spotT s.tens e.ten]? with
    | none => .bad 6
    | some t =>
      if e.kind = 3 then (if hasK t.keys e.num = false then .bad 6 else .ok ⟨s.tens.set (spotT s.tens e.ten) ⟨t.name, t.epoch, t.next, del t.keys (spotK t.keys e.num)⟩, s.serial⟩)
      else if t.next ≤ e.num then .bad 7
      else if hasK t.keys e.num = true then .bad 5
      else if t.keys.length = 8 then .bad 3
      else .ok ⟨s.tens.set (spotT s.tens e.ten) ⟨t.name, t.epoch, t.next, ins t.keys (spotK t.keys e.num) ⟨e.num, e.txt⟩⟩, s.serial⟩
def doE (s : S) (e : E) : R :=
  if e.kind = 1 then doTen s e else if e.kind = 2 ∨ e.kind = 3 then doKey s e else if e.num < s.serial then .bad 7 else .ok ⟨s.tens, e.num⟩
def zeroS : S := ⟨[], 0⟩
/-- changes, one behind the other, of a state that may be -/
def run : S → List E → R
  | s, [] => .ok s
  | s, e :: r => if form e = false then .bad 2 else match doE s e with | .ok t => run t r | .bad x => .bad x
def all (s : S) (l : List E) : R := if right s = false then .bad 7 else run s l
def apply (s : S) (e : E) : R := all s [e]
def state : R → S
  | .ok s => s
  | .bad _ => zeroS
def err : R → Int
  | .ok _ => 0
  | .bad e => e
end Rn
end Go.Proofs.Ytgcgilcalmefgaa
