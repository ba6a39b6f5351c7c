/- Texts that the proof leans on. -/
import Derived.Laws.BitsAllLaws
import Derived.Lib.DecodeN
import Derived.Sort.Walk0
import Derived.Test.YtpplemjjeefpdaaGreatDoorK130
import Derived.Test.YtpplemjjeefpdaaGreatDoorK116
import Derived.ChangeKeysEq
import Derived.WalkKit
import Derived.KernelRfl
import Derived.Lib.TrailingZeros
import Derived.Shelf.Unicode.DecodeSlow
import Derived.Laws.Tables
import Derived.Laws.MakeOwn
import Derived.Maps.AppendAt
import Derived.Laws.BytesString
import Derived.Laws.IdiomStrings
import Derived.Laws.StructEq
import Derived.Lib.OthersKept
import Derived.Lib.AppendStr
import Derived.Laws.CopyRow
import Derived.Still
import Derived.StillTail
import Derived.LoopN
import Derived.Test.YtpplemjjeefpdaaGreatDoorProg
import Derived.Below
import Derived.Calls
import Derived.Deep.Draws
import Derived.WalkSpells
import Derived.Deep.QuietTactic
import Derived.BigQuiet
import Derived.BigRegion
import Derived.RegionTactic
import Derived.WalkLawsBesides
import Derived.Shelf.Spec.TrailingZeros
import Derived.Defers
import Derived.Recover
import Derived.Laws.Pointers
import Derived.Lib.Builder
import Derived.Lib.UnsafeStr
import Derived.Shelf.RegionOpenPlain
import Derived.Laws.Externs
import Derived.Shelf.Small.Bits
import Derived.Shelf.Small.Strs
import Derived.Shelf.Strconv.Itoa0
import Derived.Shelf.Strings.Search1
import Derived.Shelf.Sort.Plain
import Derived.Shelf.Unicode.Decode
import Derived.Shelf.Unicode.DecodeAny
import Derived.Shelf.Slices.CompactS
import Derived.Ground.Names2Prog
import Derived.Shelf.Slices.SearchI
import Derived.Shelf.Slices.Cells
import Derived.Shelf.Slices.In.SortNone
import Derived.Test.YtpplemjjeefpdaaGreatDoorK129
import Derived.Test.YtpplemjjeefpdaaGreatDoorK128
import Derived.Test.YtpplemjjeefpdaaGreatDoorK127
import Derived.Test.YtpplemjjeefpdaaGreatDoorK123
import Derived.Test.YtpplemjjeefpdaaGreatDoorK114
import Derived.Test.YtpplemjjeefpdaaGreatDoorK113
import Derived.Test.YtpplemjjeefpdaaGreatDoorK112
import Derived.Test.YtpplemjjeefpdaaGreatDoorK111
import Derived.Test.YtpplemjjeefpdaaGreatDoorK110
import Derived.Test.YtpplemjjeefpdaaGreatDoorK109
import Derived.Test.YtpplemjjeefpdaaGreatDoorK108
import Derived.Test.YtpplemjjeefpdaaGreatDoorK107
import Derived.Test.YtpplemjjeefpdaaGreatDoorK106
import Derived.Test.YtpplemjjeefpdaaGreatDoorK105
import Derived.Test.YtpplemjjeefpdaaGreatDoorK104
import Derived.Test.YtpplemjjeefpdaaGreatDoorK103
import Derived.Test.YtpplemjjeefpdaaGreatDoorK102
import Derived.Test.YtpplemjjeefpdaaGreatDoorK101
import Derived.Test.YtpplemjjeefpdaaGreatDoorK122
import Derived.Test.YtpplemjjeefpdaaGreatDoorK121
import Derived.Test.YtpplemjjeefpdaaGreatDoorK120
import Derived.Test.YtpplemjjeefpdaaGreatDoorK117
import Derived.Test.YtpplemjjeefpdaaGreatDoorK115
import Derived.Test.YtpplemjjeefpdaaGreatDoorK119
import Derived.Test.YtpplemjjeefpdaaGreatDoorK118
import Derived.Test.YtpplemjjeefpdaaGreatDoorK126
import Derived.Test.YtpplemjjeefpdaaGreatDoorK125
import Derived.Test.YtpplemjjeefpdaaGreatDoorK124
import Derived.Sort.EncStr
import Derived.Sort.Grow
namespace Go.Proofs.YtpplemjjeefpdaaGreatDoor
open Go
namespace Mt
def ofL (l : List UInt8) : ByteArray := ⟨l.toArray⟩
structure M where
  name : ByteArray
  op : Int
  val : ByteArray
def right (m : M) : Int :=
  if Nm.labelB m.name.data.toList = false then 4 else if m.op < 1 ∨ 4 < m.op then 7 else if m.op ≤ 2 then (if 1024 < m.val.size then 3 else 0) else (Rx.parse m.val.data.toList).2.1
structure L where
  name : ByteArray
  val : ByteArray
def cmpL (a b : List UInt8) : Int := if Op.bytesLess a b = true then -1 else if a = b then 0 else 1
def cmpI (a b : Int) : Int := if a < b then -1 else if a = b then 0 else 1
def cmp (a b : M) : Int := if cmpL a.name.data.toList b.name.data.toList ≠ 0 then cmpL a.name.data.toList b.name.data.toList else if cmpI a.op b.op ≠ 0 then cmpI a.op b.op else cmpL a.val.data.toList b.val.data.toList
def sgn (o : Int) : List UInt8 := if o = 1 then [61] else if o = 2 then [33, 61] else if o = 3 then [61, 126] else if o = 4 then [33, 126] else [63]
def text (m : M) : List UInt8 := m.name.data.toList ++ sgn m.op ++ Qu.text m.val.data.toList
def opAt (l : List UInt8) (k : Nat) : Nat :=
  if Qu.bt l k = 61 then (if Qu.bt l (k + 1) = 126 then 3 else 1) else if Qu.bt l k = 33 then (if Qu.bt l (k + 1) = 61 then 2 else if Qu.bt l (k + 1) = 126 then 4 else 0) else 0
def opBad (l : List UInt8) (k : Nat) : Nat × Nat := if k = l.length then (1, k) else if Qu.bt l k = 33 ∧ k + 1 = l.length then (1, k + 1) else (2, k)
inductive Got where
  | ok (m : M) (p : Nat)
  | bad (e : Int) (p : Nat)
def take (l : List UInt8) (at_ : Int) : Got :=
  if at_ < 0 ∨ (l.length : Int) < at_ then .bad 7 0
  else if at_ = l.length then .bad 1 at_.toNat
  else if Nm.run Nm.signB true (l.drop at_.toNat) < 1 ∨ 32 < Nm.run Nm.signB true (l.drop at_.toNat) then .bad 4 at_.toNat
  else if opAt l (at_.toNat + Nm.run Nm.signB true (l.drop at_.toNat)) = 0 then .bad (opBad l (at_.toNat + Nm.run Nm.signB true (l.drop at_.toNat))).1 (opBad l (at_.toNat + Nm.run Nm.signB true (l.drop at_.toNat))).2
  else match Qu.read l (at_.toNat + Nm.run Nm.signB true (l.drop at_.toNat) + (sgn (opAt l (at_.toNat + Nm.run Nm.signB true (l.drop at_.toNat)))).length : Nat) with
    | .bad e p => .bad e p
    | .ok v p =>
      if right ⟨ofL ((l.drop at_.toNat).take (Nm.run Nm.signB true (l.drop at_.toNat))), opAt l (at_.toNat + Nm.run Nm.signB true (l.drop at_.toNat)), ofL v⟩ ≠ 0
      then .bad (right ⟨ofL ((l.drop at_.toNat).take (Nm.run Nm.signB true (l.drop at_.toNat))), opAt l (at_.toNat + Nm.run Nm.signB true (l.drop at_.toNat)), ofL v⟩) (at_.toNat + Nm.run Nm.signB true (l.drop at_.toNat) + (sgn (opAt l (at_.toNat + Nm.run Nm.signB true (l.drop at_.toNat)))).length)
      else .ok ⟨ofL ((l.drop at_.toNat).take (Nm.run Nm.signB true (l.drop at_.toNat))), opAt l (at_.toNat + Nm.run Nm.signB true (l.drop at_.toNat)), ofL v⟩ p
end Mt
end Go.Proofs.YtpplemjjeefpdaaGreatDoor
namespace Go.Proofs.YtpplemjjeefpdaaGreatDoor
open Go
set_option linter.unusedVariables false
set_option linter.unusedSimpArgs false
set_option maxRecDepth 10000
open Sh Gn
namespace Pl
def toM (g : GMatcher) : Mt.M := ⟨g.Name, g.Op, g.Value⟩
theorem lab_eq {s : ByteArray} : lab s = Nm.labelB s.data.toList := by
  unfold lab Nm.labelB Nm.allB runAt
  rw [size_list, List.drop_zero, Bool.eq_iff_iff]
  simp [and_assoc]
theorem mright_p {N : Nat} (hN : 1000 ≤ N) (g : GMatcher) : matcher_Right_g N g = some (Mt.right (toM g)) := by
  unfold matcher_Right_g Mt.right toM
  rw [label_p hN, lab_eq]
  simp only [Option.bind_some, cond_not, cm_lss, cm_gtr, cm_eql, cm_neq, cond_dec, ite_or, sl_eq]
  cases Nm.labelB g.Name.data.toList with
  | false => rfl
  | true =>
    simp only [_root_.cond_true, Bool.true_eq_false, if_false]
    by_cases c1 : g.Op < 1 ∨ 4 < g.Op
    · simp only [c1, if_true]
    · simp only [c1, if_false]
      by_cases c2 : g.Op ≤ 2
      · have c2' : g.Op = 1 ∨ g.Op = 2 := by omega
        simp only [c2, c2', if_true]
        by_cases c3 : 1024 < g.Value.size
        · have c3' : (1024 : Int) < (g.Value.size : Int) := by omega
          simp only [c3, c3', if_true]
        · have c3' : ¬ (1024 : Int) < (g.Value.size : Int) := by omega
          simp only [c3, c3', if_false]
      · have c2' : ¬ (g.Op = 1 ∨ g.Op = 2) := by omega
        simp only [c2, c2', if_false]
        unfold regex_Parse_g
        simp only [Option.bind_some]
        by_cases c3 : (Rx.parse g.Value.data.toList).2.1 = 0
        · simp only [c3, if_true]
        · simp only [c3, if_false]
theorem rright_p {N : Nat} (hN : 1000 ≤ N) (g : GMatcher) : r22_Right_g N g = some (Mt.right (toM g)) := by
  unfold r22_Right_g Mt.right toM
  rw [rlabel_p hN, lab_eq]
  simp only [Option.bind_some, cond_not, cm_lss, cm_gtr, cm_eql, cm_neq, cond_dec, ite_or, ite_and, sl_eq]
  cases Nm.labelB g.Name.data.toList with
  | false => rfl
  | true =>
    simp only [_root_.cond_true, Bool.true_eq_false, if_false]
    by_cases c1 : g.Op < 1 ∨ 4 < g.Op
    · simp only [c1, if_true]
    · simp only [c1, if_false]
      by_cases c2 : g.Op ≤ 2
      · have c2' : ¬ 2 < g.Op := by omega
        have c2'' : g.Op < 3 := by omega
        simp only [c2, c2', c2'', if_true, if_false, true_and]
        by_cases c3 : 1024 < g.Value.size
        · have c3' : (1024 : Int) < (g.Value.size : Int) := by omega
          simp only [c3, c3', if_true]
        · have c3' : ¬ (1024 : Int) < (g.Value.size : Int) := by omega
          simp only [c3, c3', if_false]
      · have c2' : 2 < g.Op := by omega
        have c2'' : ¬ g.Op < 3 := by omega
        simp only [c2, c2', c2'', if_true, if_false, false_and, parse_p hN, Option.bind_some]
theorem ba_eq {s t : ByteArray} : s = t ↔ s.data.toList = t.data.toList :=
  ⟨fun h => by rw [h], fun h => ByteArray.ext (Array.ext' h)⟩
end Pl
end Go.Proofs.YtpplemjjeefpdaaGreatDoor
namespace Go.Proofs.YtpplemjjeefpdaaGreatDoor
open Go
set_option linter.unusedVariables false
set_option linter.unusedSimpArgs false
set_option maxRecDepth 100000
open Sh Gn
namespace Pl
theorem conj2 {a b : Bool} : conj [a, b] = (a && b) := by show (a && (b && true)) = _; rw [Bool.and_true]
theorem eql_self (x : Int) : cm .eql x x = true := by rw [cm_eql]; exact decide_eq_true rfl
end Pl
end Go.Proofs.YtpplemjjeefpdaaGreatDoor
namespace Go.Proofs.YtpplemjjeefpdaaGreatDoor
open Go
set_option linter.unusedVariables false
set_option linter.unusedSimpArgs false
set_option maxRecDepth 100000
open Sh Gn
namespace Pl
theorem at_get {α : Type} {l : List α} {k : Nat} (h : k < l.length) : at_ l (k : Int) = some l[k] := by
  unfold at_
  rw [if_pos (by omega), Int.toNat_natCast, List.getElem?_eq_getElem h]
theorem kid_size {n c : Node} (h : c ∈ n.kids) : c.size + 1 ≤ n.size := by
  rw [Node.size_eq n]
  have key : ∀ l : List Node, c ∈ l → c.size ≤ Node.sizes l := by
    intro l
    induction l with
    | nil => intro h; cases h
    | cons a r ih =>
      intro h
      rw [Node.sizes_cons]
      rcases List.mem_cons.1 h with rfl | h
      · omega
      · have := ih h; omega
  have := key _ h
  omega
end Pl
end Go.Proofs.YtpplemjjeefpdaaGreatDoor
namespace Go.Proofs.YtpplemjjeefpdaaGreatDoor
open Go
set_option linter.unusedVariables false
set_option linter.unusedSimpArgs false
set_option maxRecDepth 100000
open Sh Gn
namespace Pl
open Mx (Pos orP zr iter upto more Sup Adds Keeps sp)
def tab (M : Nat) (x : Pos) : List Bool := (List.range M).map x
def jn (a b : Pos) (k : Nat) : Pos := fun j => if j < k then a j || b j else a j
def fr (a b : Pos) (k : Nat) : Bool := (List.range k).any fun j => b j && !a j
end Pl
end Go.Proofs.YtpplemjjeefpdaaGreatDoor
namespace Go.Proofs.YtpplemjjeefpdaaGreatDoor
open Go
set_option linter.unusedVariables false
set_option linter.unusedSimpArgs false
set_option maxRecDepth 100000
open Sh Gn
namespace Pl
theorem parse_size (l : List UInt8) : (Rx.parse l).1.size ≤ 1000 := by
  have hz : Rx.zero.size ≤ 1000 := by simp [Rx.zero, Node.size_eq, Node.kids, Node.sizes_nil]
  unfold Rx.parse
  split
  · exact hz
  · cases hr : Rx.alt l (Rx.atom l 16) 0 with
    | bad e p => exact hz
    | out => exact hz
    | ok n p =>
      have h1 := Rx.size_alt (Rx.size_atom l 16) (fine_atom l 16) (Nat.zero_le _) hr
      have hfi := fine_alt l (Rx.atom l 16) (fine_atom l 16) 0 (Nat.zero_le _)
      rw [hr] at hfi
      have h2 : p ≤ l.length := hfi.2
      dsimp only
      split
      · split <;> exact hz
      · show n.size ≤ 1000; omega
theorem cost_l (rec : Node → Int → Option Int) (n : Node) (x : Int) (hl : n.kids.length ≤ 10000) (hr : ∀ c ∈ n.kids, ∃ r, rec c x = some r) : ∀ (m k : Nat) (v : Int), k ≤ n.kids.length → n.kids.length < k + m → ∃ r, r15_cost_l1 rec n x m v k = some r := by
  intro m
  induction m with
  | zero => intro k v h1 h2; omega
  | succ m ih =>
    intro k v h1 h2
    rw [r15_cost_l1, cm_lss, cond_dec, ll_eq]
    by_cases c : k < n.kids.length
    · obtain ⟨r, h⟩ := hr _ (List.getElem_mem c)
      rw [if_pos (by omega), at_get c, inc1 (by omega), Option.bind_some, h, Option.bind_some, cm_gtr, cond_dec]
      split
      · exact ⟨_, rfl⟩
      · exact ih (k + 1) _ (by omega) (by omega)
    · rw [if_neg (by omega)]
      simp only [cm_lss, cm_eql, cm_leq, cm_geq, cm_gtr, cond_dec, ite_and, Option.bind_some]
      (repeat' split) <;> exact ⟨_, rfl⟩
theorem cost_p (x : Int) : ∀ (m : Nat) (n : Node), n.size ≤ m → m ≤ 1000 → ∀ N, m + 10000 ≤ N → ∃ r, r15_cost_g N n x = some r := by
  intro m
  induction m with
  | zero => intro n h; have := n.size_pos; omega
  | succ m ih =>
    intro n h hm N hN
    obtain ⟨N, rfl⟩ : ∃ M, N = M + 1 := ⟨N - 1, by omega⟩
    have hk := n.kids_le
    rw [r15_cost_g]
    exact cost_l (r15_cost_g N) n x (by omega) (fun c hc => ih c (by have := kid_size hc; omega) (by omega) N (by omega)) N 0 1 (by omega) (by omega)
end Pl
end Go.Proofs.YtpplemjjeefpdaaGreatDoor
namespace Go.Proofs.YtpplemjjeefpdaaGreatDoor
open Go
set_option linter.unusedVariables false
set_option linter.unusedSimpArgs false
namespace Sl
open Mt (M)
def tl : List M → List UInt8
  | [] => []
  | m :: r => 44 :: 32 :: (Mt.text m ++ tl r)
inductive Got where
  | ok (l : List M) (p : Nat)
  | bad (e : Int) (p : Nat)
def other (s : List UInt8) (p : Nat) : Got := if s.length ≤ p then .bad 1 s.length else .bad 2 p
def loop (s : List UInt8) : Nat → List M → Nat → Got
  | 0, _, _ => .bad 1 s.length
  | f + 1, out, i =>
    if out.length = 64 ∧ i < s.length then .bad 3 i
    else match Mt.take s i with
      | .bad e p => .bad e p
      | .ok m p =>
        if Qu.bt s p = 125 then .ok (out ++ [m]) (p + 1)
        else if Qu.bt s p ≠ 44 then other s p
        else if Qu.bt s (p + 1) ≠ 32 then other s (p + 1)
        else loop s f (out ++ [m]) (p + 2)
def take (s : List UInt8) (at_ : Int) : Got :=
  if at_ < 0 ∨ (s.length : Int) < at_ then .bad 7 0
  else if Qu.bt s at_.toNat ≠ 123 then other s at_.toNat
  else if Qu.bt s (at_.toNat + 1) = 125 then .ok [] (at_.toNat + 2)
  else loop s (s.length + 1) [] (at_.toNat + 1)
end Sl
end Go.Proofs.YtpplemjjeefpdaaGreatDoor
namespace Go.Proofs.YtpplemjjeefpdaaGreatDoor
open Go Go.RowKit Go.Sort
set_option linter.unusedVariables false
set_option linter.unusedSimpArgs false
open Ab
namespace Sh
def sortS (l : List ByteArray) : List ByteArray := ((l.map fun s => s.data.toList).mergeSort fun x y => decide (x ≤ y)).map fun b => ⟨b.toArray⟩
theorem sortS_len (l : List ByteArray) : (sortS l).length = l.length := by unfold sortS; rw [List.length_map, List.length_mergeSort, List.length_map]
def ins (a : ByteArray) : List ByteArray → List ByteArray
  | [] => [a]
  | b :: l => if a.data.toList ≤ b.data.toList then a :: b :: l else b :: ins a l
def isort : List ByteArray → List ByteArray
  | [] => []
  | a :: l => ins a (isort l)
theorem ins_perm (a : ByteArray) : ∀ l, (ins a l).Perm (a :: l)
  | [] => List.Perm.refl _
  | b :: l => by
    unfold ins
    split
    · exact List.Perm.refl _
    · exact ((ins_perm a l).cons b).trans (List.Perm.swap a b l)
theorem isort_perm : ∀ l, (isort l).Perm l
  | [] => List.Perm.refl _
  | a :: l => (ins_perm a (isort l)).trans ((isort_perm l).cons a)
theorem ins_rise (a : ByteArray) : ∀ l : List ByteArray, l.Pairwise (fun x y => x.data.toList ≤ y.data.toList) → (ins a l).Pairwise fun x y => x.data.toList ≤ y.data.toList
  | [], _ => by unfold ins; exact List.pairwise_singleton _ _
  | b :: l, h => by
    have h' := List.pairwise_cons.1 h
    unfold ins
    split
    · rename_i hab
      refine List.pairwise_cons.2 ⟨fun x hx => ?_, h⟩
      rcases List.mem_cons.1 hx with e | hx
      · subst e; exact hab
      · exact List.le_trans hab (h'.1 x hx)
    · rename_i hab
      have hba : b.data.toList ≤ a.data.toList := (List.le_total _ _).resolve_left hab
      refine List.pairwise_cons.2 ⟨fun x hx => ?_, ins_rise a l h'.2⟩
      rcases List.mem_cons.1 ((ins_perm a l).mem_iff.1 hx) with e | hx
      · subst e; exact hba
      · exact h'.1 x hx
theorem isort_rise : ∀ l : List ByteArray, (isort l).Pairwise fun x y => x.data.toList ≤ y.data.toList
  | [] => List.Pairwise.nil
  | a :: l => ins_rise a _ (isort_rise l)
theorem perm_uniq {α : Type} {le : α → α → Prop} (anti : ∀ a b, le a b → le b a → a = b) : ∀ (l m : List α), l.Perm m → l.Pairwise le → m.Pairwise le → l = m
  | [], m, p, _, _ => (List.Perm.eq_nil p.symm).symm
  | a :: l, [], p, _, _ => absurd (List.Perm.eq_nil p) (by simp)
  | a :: l, b :: m, p, hl, hm => by
    have hl' := List.pairwise_cons.1 hl
    have hm' := List.pairwise_cons.1 hm
    have hab : a = b := by
      rcases List.mem_cons.1 (p.mem_iff.1 (List.mem_cons_self (a := a) (l := l))) with e | h1
      · exact e
      · rcases List.mem_cons.1 (p.mem_iff.2 (List.mem_cons_self (a := b) (l := m))) with e | h2
        · exact e.symm
        · exact anti _ _ (hl'.1 b h2) (hm'.1 a h1)
    subst hab
    rw [perm_uniq anti l m (List.perm_cons a |>.1 p) hl'.2 hm'.2]
theorem sortS_eq (l : List ByteArray) : sortS l = isort l := by
  have h : (l.map fun s => s.data.toList).mergeSort (fun x y => decide (x ≤ y)) = (isort l).map fun s => s.data.toList := by
    refine perm_uniq (le := fun x y : List UInt8 => x ≤ y) (fun a b h1 h2 => List.le_antisymm h1 h2) _ _ ?_ ?_ ?_
    · exact (List.mergeSort_perm _ _).trans ((isort_perm l).map _).symm
    · have := List.pairwise_mergeSort (le := fun x y : List UInt8 => decide (x ≤ y)) (fun a b c h1 h2 => by simpa using List.le_trans (by simpa using h1) (by simpa using h2)) (fun a b => by simpa using List.le_total a b) (l.map fun s => s.data.toList)
      simpa using this
    · rw [List.pairwise_map]; exact isort_rise l
  unfold sortS
  rw [h, List.map_map]
  conv => rhs; rw [← List.map_id (isort l)]
  apply List.map_congr_left
  intro s _
  cases s; simp
theorem row_of {l : List ByteArray} {i j : Nat} {t : Ab.T} (h : ((rw _ cS l)[i]?).bind (fun r => r[j]?) = some t) : j = 0 ∧ ∃ s, l[i]? = some s ∧ t = .flat (.string s) := by
  unfold rw at h
  rw [List.getElem?_map] at h
  cases hx : l[i]? with
  | none => rw [hx] at h; cases h
  | some s =>
    rw [hx] at h
    simp only [Option.map_some, Option.bind_some, cS] at h
    cases j with
    | zero => simp at h; exact ⟨rfl, s, rfl, h.symm⟩
    | succ j => simp at h
theorem sort_methL {P : Program} {f : FuncId} (hcall : Callable P f)
    (hC : ∀ (blk cap : Nat) (ss : List (List UInt8)) (w : World), Holds encStr w blk 0 ss.toArray → blk < w.heap.size → ss.length < 4611686018427387904 →
      Calls P f #[.slice (some ⟨blk, 0, none⟩) ss.length cap] w fun e w' => e = .returned (.tuple #[]) ∧ ∃ n os, w' = grow (putRow encStr (Sort.ahead w n) blk 0 (ss.mergeSort fun x y => decide (x ≤ y)).toArray) os)
    (l : List ByteArray) (hlen : l.length ≤ 1000000000) (ty : TypeId) : MethL P f ty 1 (rw _ cS l) [] (.tup []) (rw _ cS (sortS l)) := by
  refine ⟨hcall, fun G w b cap cargs hG hT hrow hargs => ?_⟩
  have hl : (rw _ cS l).length = l.length := by unfold rw; rw [List.length_map]
  have hl2 : (rw _ cS (sortS l)).length = l.length := by unfold rw; rw [List.length_map, sortS_len]
  obtain rfl : cargs = #[] := by have := hargs.1; simpa using this
  generalize hrows : rw _ cS l = rows at hrow
  cases hrow with
  | listN _ _ hat => cases hat
  | list _ _ _ b' cap' vs hat hb hGb hcap hmax hsz hes hr =>
    subst hrows
    have hat : some (Blk.at b cap 1 (rw _ cS l).length) = some (Blk.at b' cap' 1 (rw _ cS l).length) := hat
    cases hat
    rw [hl] at hcap ⊢
    have hblt : b < w.heap.size := (Array.getElem?_eq_some_iff.1 hb).1
    have cell : ∀ j (h : j < l.length), vs[j]? = some (.string l[j]) := fun j h => by
      obtain ⟨u, h1, h2⟩ := hr j 0 (.flat (.string l[j])) (by unfold rw; simp [h, cS])
      cases h2
      simpa using h1
    have hH : Holds encStr w b 0 (l.map fun s => s.data.toList).toArray := fun j hj => by
      have hj' : j < l.length := by simpa using hj
      refine ⟨?_, ?_⟩
      · have e : encStr (l.map fun s => s.data.toList).toArray[j]! = .string l[j] := by
          have : (l.map fun s => s.data.toList).toArray[j]! = l[j].data.toList := by
            rw [getElem!_pos (l.map fun s => s.data.toList).toArray j hj]; simp
          rw [this]
        rw [e, Nat.zero_add]
        simp only [World.cell?, hb]
        exact cell j hj'
      · simp [World.frozen?, hb, Nat.zero_add]
    have key := hC b cap (l.map fun s => s.data.toList) w hH hblt (by rw [List.length_map]; omega)
    rw [List.length_map] at key
    refine key.mono ?_
    rintro e w' ⟨rfl, n, os, rfl⟩
    obtain ⟨d, hd⟩ : ∃ d, d = (((l.map fun s => s.data.toList).mergeSort fun x y => decide (x ≤ y)).toArray) := ⟨_, rfl⟩
    rw [← hd]
    have hdl : d.size = l.length := by rw [hd, List.size_toArray, List.length_mergeSort, List.length_map]
    have hds : ∀ j (h : j < l.length), encStr d[j]! = .string ((sortS l)[j]'(by rw [sortS_len]; exact h)) := fun j h => by
      have h1 : j < d.size := by omega
      rw [getElem!_pos d j h1]
      unfold sortS
      rw [List.getElem_map]
      subst hd
      rfl
    have hh : (grow (putRow encStr (Sort.ahead w n) b 0 d) os).heap[b]? = some (.cells (putCells encStr 0 d vs) ty (0, 0)) := by
      unfold grow putRow mapBlock
      dsimp only
      rw [Array.getElem?_append_left (by simpa using hblt), Array.getElem?_modify, if_pos rfl]
      show (w.heap[b]?).map _ = _
      rw [hb]; rfl
    have hsz2 : (putCells encStr 0 d vs).size = vs.size := by unfold putCells; rw [Array.size_mapIdx]
    have hws : w.heap.size ≤ (grow (putRow encStr (Sort.ahead w n) b 0 d) os).heap.size := by
      unfold grow putRow mapBlock
      simp
    refine ⟨⟨rfl, rfl, rfl, hws, fun k hk hne => ?_⟩, .tuple #[], rfl, hl2, ?_, .tup _ _ rfl (fun i c u h => by simp at h)⟩
    · unfold grow putRow mapBlock
      dsimp only
      rw [Array.getElem?_append_left (by simpa using hk), Array.getElem?_modify, if_neg (Ne.symm hne)]
      rfl
    · refine .list ty 1 (rw _ cS (sortS l)) b cap (putCells encStr 0 d vs) (by rw [hl2]; rfl) hh ?_ (by rw [hl2]; exact hcap) hmax (by rw [hsz2]; exact hsz) (fun row hrow => ?_) (fun i j t ht => ?_)
      · rintro (h | ⟨h1, h2⟩)
        · exact hGb h
        · omega
      · unfold rw at hrow
        obtain ⟨s, _, rfl⟩ := List.mem_map.1 hrow
        rfl
      · obtain ⟨rfl, s, hs, rfl⟩ := row_of ht
        obtain ⟨hi, rfl⟩ := List.getElem?_eq_some_iff.1 hs
        have hi' : i < l.length := by rwa [sortS_len] at hi
        refine ⟨_, ?_, .flat _ rfl⟩
        rw [Nat.mul_one, Nat.add_zero, ← hds i hi']
        have hvl : i < vs.size := (Array.getElem?_eq_some_iff.1 (cell i hi')).1
        unfold putCells
        rw [Array.getElem?_mapIdx, Array.getElem?_eq_getElem hvl]
        simp only [Option.map_some]
        rw [if_pos ⟨Nat.zero_le _, by omega⟩, Nat.sub_zero]
theorem sort_methI {P : Program} {f : FuncId} (hcall : Callable P f)
    (hC : ∀ (blk cap : Nat) (ss : List (List UInt8)) (w : World), Holds encStr w blk 0 ss.toArray → blk < w.heap.size → ss.length < 4611686018427387904 →
      Calls P f #[.slice (some ⟨blk, 0, none⟩) ss.length cap] w fun e w' => e = .returned (.tuple #[]) ∧ ∃ n os, w' = grow (putRow encStr (Sort.ahead w n) blk 0 (ss.mergeSort fun x y => decide (x ≤ y)).toArray) os)
    (l : List ByteArray) (hlen : l.length ≤ 1000000000) (ty : TypeId) : MethL P f ty 1 (rw _ cS l) [] (.tup []) (rw _ cS (isort l)) := by
  rw [← sortS_eq]; exact sort_methL hcall hC l hlen ty
def sortS_g (l : List ByteArray) : Option (List ByteArray) := if 1 ≤ l.length ∧ l.length ≤ 1000000000 then some (isort l) else none
theorem L_sort {P : Program} {A : Run} {W : Wd} {E : Env} (hE : dom P A = mkE W E) {R : RF} (hR : R = rw) {f : FuncId} {ty id : Nat} {l : List ByteArray} {β : Type} {v : β} {X : List ByteArray → Option β} {s : St} {K : V → St → Prop} (h : (sortS_g l).bind X = some v)
    (hM : ∀ (l : List ByteArray), l.length ≤ 1000000000 → ∀ ty, MethL P f ty 1 (rw _ cS l) [] (.tup []) (rw _ cS (isort l))) (hrow : s.heap.getD id none = some (.list ty 1 (R _ cS l))) (hK : ∀ x, X x = some v → K (.tup []) (s.setRow id (.list ty 1 (R _ cS x)))) : E.call f [.lst id] s K := by
  unfold sortS_g at h
  split at h
  case isFalse => cases h
  rename_i hc
  have hcall : (mkE W E).call f [.lst id] s K := by
    rw [← hE]
    subst hR
    refine use_methL rfl (hM l hc.2 ty) hrow (fun e => ?_) rfl rfl (hK _ h)
    have hz : (rw ByteArray cS l).length = 0 := by rw [e]; rfl
    unfold rw at hz
    rw [List.length_map] at hz
    omega
  exact hcall
end Sh
end Go.Proofs.YtpplemjjeefpdaaGreatDoor
namespace Go.Proofs.YtpplemjjeefpdaaGreatDoor
open Go Go.RowKit
set_option linter.unusedVariables false
set_option linter.unusedSimpArgs false
set_option maxRecDepth 100000
set_option maxHeartbeats 4000000
open Ab Sh
namespace Gn
def r23_Great_s (R : RF) (r : Bool) : V := fB r
def r23_Great_l2 (N : Nat) (k1 : Int → Option Bool) (p0 : List GMatcher) (p1 : List GLabel) (v1 : Int) : Nat → Int → Option Bool
| 0, _ => none
| m + 1, v4 =>
 cond (cm .lss v4 (ll (rw _ cLabel p1)))
 ((at_ p1 v4).bind fun r5 =>
 (at_ p0 v1).bind fun r6 =>
 cond (sc .eql r5.Name r6.Name)
 (cond (sc .eql r5.Name r6.Name)
 (cond (sc .eql r5.Name r6.Name)
 ((at_ p0 v1).bind fun r7 =>
 cond (sc .eql r5.Name r6.Name)
 (cond (sc .eql r5.Name r6.Name)
 (cond (sc .eql r5.Name r6.Name)
 (cond (sc .eql r5.Name r6.Name)
 ((at_ p1 v4).bind fun r8 =>
 cond (sc .eql r5.Name r6.Name)
 (cond (sc .eql r5.Name r6.Name)
 (cond (sc .eql r5.Name r6.Name)
 (cond (sc .eql r5.Name r6.Name)
 ((r22_Great_g N r7 (sl r8.Value)).bind fun a9 =>
 cond (sc .eql r5.Name r6.Name)
 (cond (a9)
 (some true)
 ((r23_Great_l2 N k1 p0 p1 v1 m) (ar .add .i64 v4 1)))
 (none))
 (none))
 (none))
 (none))
 (none))
 (none))
 (none))
 (none))
 (none))
 (none))
 (none))
 (cond (sc .eql r5.Name r6.Name)
 (none)
 (cond (sc .eql r5.Name r6.Name)
 (none)
 (cond (sc .eql r5.Name r6.Name)
 (none)
 (cond (sc .eql r5.Name r6.Name)
 (none)
 (cond (sc .eql r5.Name r6.Name)
 (none)
 (cond (sc .eql r5.Name r6.Name)
 (none)
 (cond (sc .eql r5.Name r6.Name)
 (none)
 (cond (sc .eql r5.Name r6.Name)
 (none)
 (cond (sc .eql r5.Name r6.Name)
 (none)
 (cond (sc .eql r5.Name r6.Name)
 (none)
 (cond (sc .eql r5.Name r6.Name)
 (none)
 ((r23_Great_l2 N k1 p0 p1 v1 m) (ar .add .i64 v4 1))))))))))))))
 (k1 (ar .add .i64 v1 1))
def r23_Great_l1 (N : Nat) (p0 : List GMatcher) (p1 : List GLabel) : Nat → Int → Option Bool
| 0, _ => none
| m + 1, v1 =>
 cond (cm .lss v1 (ll (rw _ cMatcher p0)))
 ((at_ p0 v1).bind fun r2 =>
 (r22_Great_g N r2 0).bind fun a3 =>
 cond (a3)
 (some true)
 (r23_Great_l2 N (r23_Great_l1 N p0 p1 m) p0 p1 v1 N 0))
 (some false)
def r23_Great_g (N : Nat) (p0 : List GMatcher) (p1 : List GLabel) : Option Bool :=
 (cond (cm .gtr (ll (rw _ cMatcher p0)) 70)
 (some true)
 (some (cm .gtr (ll (rw _ cLabel p1)) 40)) : Option Bool).bind fun j1 =>
 cond (j1)
 (some true)
 (r23_Great_l1 N p0 p1 N 0)
def selector_wrong_s (R : RF) (r : GFault) : V := .agg [fI .i64 r.E, fI .i64 r.At]
def selector_wrong_g (p0 : ByteArray) (p1 : Int) : Option GFault :=
 cond (cm .geq p1 (sl p0))
 (some (⟨1, sl p0⟩ : GFault))
 (some (⟨2, p1⟩ : GFault))
def selector_Take_s (R : RF) (r : (List GMatcher) × Int × GFault) : V := .tup [.t (.slc (R _ cMatcher r.1)), fI .i64 r.2.1, .agg [fI .i64 r.2.2.E, fI .i64 r.2.2.At]]
def selector_Take_l1 (N : Nat) (p0 : ByteArray) : Nat → Int → List GMatcher → Option ((List GMatcher) × Int × GFault)
| 0, _, _ => none
| m + 1, v4, v5 =>
 (cond (cm .eql (ll (rw _ cMatcher v5)) 64)
 (some (cm .lss v4 (sl p0)))
 (some false) : Option Bool).bind fun j3 =>
 cond (j3)
 (some ([], 0, (⟨3, v4⟩ : GFault)))
 ((matcher_Take_g N p0 v4).bind fun a6 =>
 cond (cm .neq a6.2.2.E 0)
 (some ([], 0, a6.2.2))
 ((app cMatcher v5 [a6.1]).bind fun l7 =>
 cond (ssinB p0 a6.2.1 (sl p0)) ((strings_HasPrefix_g (ss p0 a6.2.1 (sl p0)) (ByteArray.mk #[125])).bind fun a8 =>
 cond (a8)
 (some (l7, ar .add .i64 a6.2.1 1, (⟨0, 0⟩ : GFault)))
 (cond (ssinB p0 a6.2.1 (sl p0)) ((strings_HasPrefix_g (ss p0 a6.2.1 (sl p0)) (ByteArray.mk #[44])).bind fun a9 =>
 cond (!a9)
 ((selector_wrong_g p0 a6.2.1).bind fun a10 =>
 some ([], 0, a10))
 (cond (ssinB p0 (ar .add .i64 a6.2.1 1) (sl p0)) ((strings_HasPrefix_g (ss p0 (ar .add .i64 a6.2.1 1) (sl p0)) (ByteArray.mk #[32])).bind fun a11 =>
 cond (!a11)
 ((selector_wrong_g p0 (ar .add .i64 a6.2.1 1)).bind fun a12 =>
 some ([], 0, a12))
 ((selector_Take_l1 N p0 m) (ar .add .i64 a6.2.1 2) l7)) none)) none)) none))
def selector_Take_g (N : Nat) (p0 : ByteArray) (p1 : Int) : Option ((List GMatcher) × Int × GFault) :=
 (cond (cm .lss p1 0)
 (some true)
 (some (cm .gtr p1 (sl p0))) : Option Bool).bind fun j1 =>
 cond (j1)
 (some ([], 0, (⟨7, 0⟩ : GFault)))
 (cond (ssinB p0 p1 (sl p0)) ((strings_HasPrefix_g (ss p0 p1 (sl p0)) (ByteArray.mk #[123])).bind fun a1 =>
 cond (!a1)
 ((selector_wrong_g p0 p1).bind fun a2 =>
 some ([], 0, a2))
 (cond (ssinB p0 p1 (sl p0)) ((strings_HasPrefix_g (ss p0 p1 (sl p0)) (ByteArray.mk #[123, 125])).bind fun a3 =>
 cond (a3)
 (some ([], ar .add .i64 p1 2, (⟨0, 0⟩ : GFault)))
 (selector_Take_l1 N p0 N (ar .add .i64 p1 1) [])) none)) none)
def selector_Parse_s (R : RF) (r : (List GMatcher) × GFault) : V := .tup [.t (.slc (R _ cMatcher r.1)), .agg [fI .i64 r.2.E, fI .i64 r.2.At]]
def selector_Parse_g (N : Nat) (p0 : ByteArray) : Option ((List GMatcher) × GFault) :=
 (selector_Take_g N p0 0).bind fun a1 =>
 cond (cm .neq a1.2.2.E 0)
 (some ([], a1.2.2))
 (cond (cm .lss a1.2.1 (sl p0))
 ((selector_wrong_g p0 a1.2.1).bind fun a2 =>
 some ([], a2))
 (some (a1.1, (⟨0, 0⟩ : GFault))))
def selector_Text_s (R : RF) (r : ByteArray) : V := fS r
def selector_Text_l1 (N : Nat) (p0 : List GMatcher) : Nat → Int → List Int → Option ByteArray
| 0, _, _ => none
| m + 1, v4, v5 =>
 cond (cm .lss v4 (ll (rw _ cMatcher p0)))
 ((at_ p0 v4).bind fun r6 =>
 (cond (cm .gtr v4 0)
 ((app (cI .u8) v5 (Sh.bytes (ByteArray.mk #[44, 32]))).bind fun l7 =>
 some l7)
 (some v5) : Option (List Int)).bind fun j4 =>
 (matcher_Text_g N r6).bind fun a8 =>
 (app (cI .u8) j4 (Sh.bytes a8)).bind fun l9 =>
 (selector_Text_l1 N p0 m) (ar .add .i64 v4 1) l9)
 ((strB v5).bind fun s10 =>
 cond (ctB (ByteArray.mk #[123]) s10) (cond (ctB (ct (ByteArray.mk #[123]) s10) (ByteArray.mk #[125])) (some (ct (ct (ByteArray.mk #[123]) s10) (ByteArray.mk #[125]))) none) none)
def selector_Text_g (N : Nat) (p0 : List GMatcher) : Option ByteArray :=
 cond (cm .lss 0 (ll (rw _ cMatcher p0)))
 ((at_ p0 0).bind fun r1 =>
 cond (cm .gtr 0 0)
 (none)
 ((matcher_Text_g N r1).bind fun a2 =>
 (app (cI .u8) [] (Sh.bytes a2)).bind fun l3 =>
 selector_Text_l1 N p0 N (ar .add .i64 0 1) l3))
 (cond (ctB (ByteArray.mk #[123]) ByteArray.empty) (cond (ctB (ct (ByteArray.mk #[123]) ByteArray.empty) (ByteArray.mk #[125])) (some (ct (ct (ByteArray.mk #[123]) ByteArray.empty) (ByteArray.mk #[125]))) none) none)
def porterbase_SameSel_s (R : RF) (r : Bool) : V := fB r
def porterbase_SameSel_l1 (p0 : List GMatcher) (p1 : List GMatcher) : Nat → Int → Option Bool
| 0, _ => none
| m + 1, v1 =>
 cond (cm .lss v1 (ll (rw _ cMatcher p0)))
 ((at_ p0 v1).bind fun r2 =>
 (at_ p1 v1).bind fun r3 =>
 cond (!(conj [sc .eql r2.Name r3.Name, cm .eql r2.Op r3.Op, sc .eql r2.Value r3.Value]))
 (some false)
 ((porterbase_SameSel_l1 p0 p1 m) (ar .add .i64 v1 1)))
 (some true)
def porterbase_SameSel_g (N : Nat) (p0 : List GMatcher) (p1 : List GMatcher) : Option Bool :=
 cond (cm .neq (ll (rw _ cMatcher p0)) (ll (rw _ cMatcher p1)))
 (some false)
 (porterbase_SameSel_l1 p0 p1 N 0)
def selector_Holds_s (R : RF) (r : Bool) : V := fB r
def selector_Holds_l3 (N : Nat) (p0 : List GMatcher) (p1 : List GLabel) : Nat → Int → Option Bool
| 0, _ => none
| m + 1, v1 =>
 cond (cm .lss v1 (ll (rw _ cMatcher p0)))
 ((at_ p0 v1).bind fun r2 =>
 (matcher_Holds_g N r2 p1).bind fun a3 =>
 cond (!a3)
 (some (!(cm .geq v1 0)))
 ((selector_Holds_l3 N p0 p1 m) (ar .add .i64 v1 1)))
 (some (!(cm .geq (-1) 0)))
def selector_Holds_g (N : Nat) (p0 : List GMatcher) (p1 : List GLabel) : Option Bool :=
 selector_Holds_l3 N p0 p1 N 0
def selector_Names_l3 (l5 : List ByteArray) : Nat → Int → Option (List ByteArray)
| 0, _ => none
| m + 1, v6 =>
 cond (cm .lss v6 (ll (rw _ cS l5)))
 ((at_ l5 v6).bind fun r7 =>
 (at_ l5 v6).bind fun r8 =>
 (at_ l5 (ar .sub .i64 v6 1)).bind fun r9 =>
 (at_ l5 (ar .sub .i64 v6 1)).bind fun r10 =>
 cond (sc .eql r8 r10)
 (none)
 ((selector_Names_l3 l5 m) (ar .add .i64 v6 1)))
 (some l5)
def selector_Names_l1 (N : Nat) (p0 : List GMatcher) : Nat → Int → List ByteArray → Option (List ByteArray)
| 0, _, _ => none
| m + 1, v1, v2 =>
 cond (cm .lss v1 (ll (rw _ cMatcher p0)))
 ((at_ p0 v1).bind fun r3 =>
 (app cS v2 [r3.Name]).bind fun l4 =>
 (selector_Names_l1 N p0 m) (ar .add .i64 v1 1) l4)
 ((sortS_g v2).bind fun l5 =>
 cond (cm .lss (ll (rw _ cS l5)) 2)
 (some l5)
 (selector_Names_l3 l5 N 1))
def selector_Names_g (N : Nat) (p0 : List GMatcher) : Option (List ByteArray) :=
 selector_Names_l1 N p0 N 0 []
def l23_works_s (R : RF) (r : Bool) : V := fB r
def l23_works_g (N : Nat) : Option Bool :=
 (selector_Parse_g N (ByteArray.mk #[123, 97, 61, 34, 49, 34, 44, 32, 98, 33, 126, 34, 50, 34, 125])).bind fun a1 =>
 ((selector_Text_g N [(⟨(ByteArray.mk #[97]), 1, (ByteArray.mk #[49])⟩ : GMatcher), (⟨(ByteArray.mk #[98]), 4, (ByteArray.mk #[50])⟩ : GMatcher)]).bind fun a2 =>
 cond (sc .eql a2 (ByteArray.mk #[123, 97, 61, 34, 49, 34, 44, 32, 98, 33, 126, 34, 50, 34, 125]))
 ((porterbase_SameSel_g N a1.1 [(⟨(ByteArray.mk #[97]), 1, (ByteArray.mk #[49])⟩ : GMatcher), (⟨(ByteArray.mk #[98]), 4, (ByteArray.mk #[50])⟩ : GMatcher)]).bind fun a3 =>
 cond (a3)
 (cond (conj [cm .eql a1.2.E 0, cm .eql a1.2.At 0])
 ((selector_Holds_g N [(⟨(ByteArray.mk #[97]), 1, (ByteArray.mk #[49])⟩ : GMatcher), (⟨(ByteArray.mk #[98]), 4, (ByteArray.mk #[50])⟩ : GMatcher)] [(⟨(ByteArray.mk #[97]), (ByteArray.mk #[49])⟩ : GLabel)]).bind fun a4 =>
 cond (a4)
 ((selector_Holds_g N [(⟨(ByteArray.mk #[97]), 1, (ByteArray.mk #[49])⟩ : GMatcher), (⟨(ByteArray.mk #[98]), 4, (ByteArray.mk #[50])⟩ : GMatcher)] []).bind fun a5 =>
 cond (!a5)
 ((selector_Holds_g N [] []).bind fun a6 =>
 cond (a6)
 ((selector_Names_g N [(⟨(ByteArray.mk #[97]), 1, (ByteArray.mk #[49])⟩ : GMatcher), (⟨(ByteArray.mk #[98]), 4, (ByteArray.mk #[50])⟩ : GMatcher)]).bind fun l7 =>
 some (cm .eql (ll (rw _ cS l7)) 2))
 (some false))
 (some false))
 (some false))
 (some false))
 (some false))
 (some false) : Option Bool).bind fun j1 =>
 some j1
end Gn
end Go.Proofs.YtpplemjjeefpdaaGreatDoor
namespace Go.Proofs.YtpplemjjeefpdaaGreatDoor
open Go
set_option linter.unusedVariables false
set_option linter.unusedSimpArgs false
set_option maxRecDepth 100000
open Sh Gn
namespace Pl
def toMs (l : List GMatcher) : List Mt.M := l.map toM
def Mild (p : List GLabel) (x : GMatcher) : Prop := x.Value.size ≤ 1200 ∧ x.Name.size ≤ 100 ∧ (x.Op ≤ 2 ∨ ∀ y ∈ p, y.Name = x.Name → y.Value.size ≤ 12)
theorem great2_p {N : Nat} (hN : 30000 ≤ N) (g : GMatcher) (k : Nat) : ∃ b, r22_Great_g N g k = some b ∧ (b = false → g.Value.size ≤ 1200 ∧ g.Name.size ≤ 100 ∧ (g.Op ≤ 2 ∨ k ≤ 12)) := by
  unfold r22_Great_g
  simp only [cm_lss, cm_gtr, cm_eql, cond_dec, ite_or, sl_eq, Option.bind_some]
  by_cases c1 : g.Op < 3
  · rw [if_pos c1]
    refine ⟨_, rfl, fun h => ?_⟩
    have := of_decide_eq_false h
    omega
  rw [if_neg c1]
  by_cases c2 : (60 : Int) < g.Value.size ∨ (100 : Int) < g.Name.size ∨ (12 : Int) < k
  · rw [if_pos c2]
    exact ⟨_, rfl, fun h => by cases h⟩
  rw [if_neg c2, parse_p (by omega), Option.bind_some]
  unfold r15_Great_g
  obtain ⟨r, hr⟩ := cost_p k 1000 (Rx.parse g.Value.data.toList).1 (parse_size _) (by omega) N (by omega)
  rw [hr]
  simp only [Option.bind_some, cm_gtr, bind_self]
  split
  · exact ⟨_, rfl, fun _ => by omega⟩
  · exact ⟨_, rfl, fun _ => by omega⟩
theorem sgreat_in {N : Nat} (hN : 30000 ≤ N) (l : List GMatcher) (p : List GLabel) (hp : p.length ≤ 10000) (k1 : Int → Option Bool) (i : Nat) (hi : i < l.length) (hi2 : i ≤ 10000) : ∀ (m k : Nat), k ≤ p.length → p.length < k + m →
    r23_Great_l2 N k1 l p i m k = some true ∨ (r23_Great_l2 N k1 l p i m k = k1 ((i + 1 : Nat) : Int) ∧ ∀ j (h : j < p.length), k ≤ j → p[j].Name = l[i].Name → l[i].Op ≤ 2 ∨ p[j].Value.size ≤ 12) := by
  intro m
  induction m with
  | zero => intro k h1 h2; omega
  | succ m ih =>
    intro k h1 h2
    rw [r23_Great_l2]
    by_cases c : k < p.length
    · obtain ⟨b, hb, hb2⟩ := great2_p hN l[i] p[k].Value.size
      rw [cm_lss, cond_dec, ll_eq, if_pos (by omega), at_get c, at_get hi, inc1 (by omega)]
      simp only [Option.bind_some, sc_eql, sl_eq, hb]
      by_cases e : p[k].Name = l[i].Name
      · simp only [e, decide_true, _root_.cond_true]
        cases b with
        | true => exact .inl rfl
        | false =>
          rw [_root_.cond_false]
          rcases ih (k + 1) (by omega) (by omega) with h | ⟨h, h'⟩
          · exact .inl h
          · refine .inr ⟨h, fun j hj hkj hn => ?_⟩
            rcases Nat.lt_or_ge k j with h3 | h3
            · exact h' j hj h3 hn
            · obtain rfl : j = k := by omega
              exact (hb2 rfl).2.2
      · simp only [e, decide_false, _root_.cond_false]
        rcases ih (k + 1) (by omega) (by omega) with h | ⟨h, h'⟩
        · exact .inl h
        · refine .inr ⟨h, fun j hj hkj hn => ?_⟩
          rcases Nat.lt_or_ge k j with h3 | h3
          · exact h' j hj h3 hn
          · obtain rfl : j = k := by omega
            exact absurd hn e
    · rw [cm_lss, cond_dec, ll_eq, if_neg (by omega), inc1 (by omega)]
      exact .inr ⟨rfl, fun j hj hkj _ => by omega⟩
theorem sgreat_from {N : Nat} (hN : 30000 ≤ N) (l : List GMatcher) (p : List GLabel) (hl : l.length ≤ 10000) (hp : p.length ≤ 10000) : ∀ (m k : Nat), k ≤ l.length → l.length < k + m →
    ∃ b, r23_Great_l1 N l p m k = some b ∧ (b = false → ∀ j (h : j < l.length), k ≤ j → Mild p l[j]) := by
  intro m
  induction m with
  | zero => intro k h1 h2; omega
  | succ m ih =>
    intro k h1 h2
    rw [r23_Great_l1]
    by_cases c : k < l.length
    · obtain ⟨b, hb, hb2⟩ := great2_p hN l[k] 0
      rw [show ((0 : Nat) : Int) = 0 from rfl] at hb
      rw [cm_lss, cond_dec, ll_eq, if_pos (by omega), at_get c, Option.bind_some, hb, Option.bind_some]
      cases b with
      | true => exact ⟨true, rfl, fun h => by cases h⟩
      | false =>
        rw [_root_.cond_false]
        rcases sgreat_in hN l p hp (r23_Great_l1 N l p m) k c (by omega) N 0 (by omega) (by omega) with h | ⟨h, h'⟩
        · exact ⟨true, h, fun h => by cases h⟩
        · rw [show ((0 : Nat) : Int) = 0 from rfl] at h
          rw [h]
          obtain ⟨b, q1, q2⟩ := ih (k + 1) (by omega) (by omega)
          refine ⟨b, q1, fun e j hj hkj => ?_⟩
          rcases Nat.lt_or_ge k j with h3 | h3
          · exact q2 e j hj h3
          · obtain rfl : j = k := by omega
            obtain ⟨s1, s2, s3⟩ := hb2 rfl
            refine ⟨s1, s2, ?_⟩
            by_cases h4 : l[j].Op ≤ 2
            · exact .inl h4
            · refine .inr fun y hy hn => ?_
              obtain ⟨q, hq, rfl⟩ := List.mem_iff_getElem.1 hy
              rcases h' q hq (by omega) hn with h5 | h5
              · omega
              · exact h5
    · rw [cm_lss, cond_dec, ll_eq, if_neg (by omega)]
      exact ⟨false, rfl, fun _ j hj hkj => by omega⟩
theorem sgreat_p {N : Nat} (hN : 30000 ≤ N) (l : List GMatcher) (p : List GLabel) : ∃ b, r23_Great_g N l p = some b ∧ (b = false → l.length ≤ 70 ∧ p.length ≤ 40 ∧ ∀ x ∈ l, Mild p x) := by
  unfold r23_Great_g
  simp only [cm_gtr, cond_dec, ll_eq, ite_or, Option.bind_some]
  by_cases c : (70 : Int) < l.length ∨ (40 : Int) < p.length
  · rw [if_pos c]; exact ⟨true, rfl, fun h => by cases h⟩
  · rw [if_neg c]
    obtain ⟨b, h1, h2⟩ := sgreat_from hN l p (by omega) (by omega) N 0 (by omega) (by omega)
    refine ⟨b, h1, fun e => ⟨by omega, by omega, fun x hx => ?_⟩⟩
    obtain ⟨j, hj, rfl⟩ := List.mem_iff_getElem.1 hx
    exact h2 e j hj (by omega)
theorem sworks_p : l23_works_g 200000 = some true := by decide +kernel
end Pl
end Go.Proofs.YtpplemjjeefpdaaGreatDoor
namespace Go.Proofs.YtpplemjjeefpdaaGreatDoor
open Go Go.RowKit
open Ab
namespace Sh
theorem sort_w (l : List ByteArray) (hl : l.length ≤ 1000000000) (ty : TypeId) : MethL Tryz.prog 49 ty 1 (rw _ cS l) [] (.tup []) (rw _ cS (isort l)) :=
  sort_methI (Tryz.call49) (fun blk cap ss w hH hb hn => Tryz.slices_Sort_string blk 0 cap ss w hH hb hn) l hl ty
end Sh
end Go.Proofs.YtpplemjjeefpdaaGreatDoor
