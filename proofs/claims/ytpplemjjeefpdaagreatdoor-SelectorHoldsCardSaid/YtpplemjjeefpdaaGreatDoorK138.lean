/- Texts that the proof leans on. -/
import Derived.ChangeKeysEq
import Derived.WalkKit
import Derived.KernelRfl
import Derived.Lib.TrailingZeros
import Derived.Shelf.Unicode.DecodeSlow
import Derived.Laws.Tables
import Derived.Laws.MakeOwn
import Derived.Maps.AppendAt
import Derived.Laws.BytesString
import Derived.Laws.IdiomStrings
import Derived.Laws.StructEq
import Derived.Lib.OthersKept
import Derived.Lib.AppendStr
import Derived.Laws.CopyRow
import Derived.Still
import Derived.StillTail
import Derived.LoopN
import Derived.Test.YtpplemjjeefpdaaGreatDoorK114
import Derived.Test.YtpplemjjeefpdaaGreatDoorK113
import Derived.Test.YtpplemjjeefpdaaGreatDoorK112
import Derived.Test.YtpplemjjeefpdaaGreatDoorK111
import Derived.Test.YtpplemjjeefpdaaGreatDoorK110
import Derived.Test.YtpplemjjeefpdaaGreatDoorK109
import Derived.Test.YtpplemjjeefpdaaGreatDoorK108
import Derived.Test.YtpplemjjeefpdaaGreatDoorK107
import Derived.Test.YtpplemjjeefpdaaGreatDoorK106
import Derived.Test.YtpplemjjeefpdaaGreatDoorK105
import Derived.Test.YtpplemjjeefpdaaGreatDoorK104
import Derived.Test.YtpplemjjeefpdaaGreatDoorK103
import Derived.Test.YtpplemjjeefpdaaGreatDoorK102
import Derived.Test.YtpplemjjeefpdaaGreatDoorK101
import Derived.Below
import Derived.Calls
import Derived.Deep.Draws
import Derived.WalkSpells
import Derived.Test.YtpplemjjeefpdaaGreatDoorProg
import Derived.Laws.BitsAllLaws
import Derived.Deep.QuietTactic
import Derived.BigQuiet
import Derived.BigRegion
import Derived.RegionTactic
import Derived.WalkLawsBesides
import Derived.Shelf.Spec.TrailingZeros
import Derived.Test.YtpplemjjeefpdaaGreatDoorK119
import Derived.Test.YtpplemjjeefpdaaGreatDoorK117
import Derived.Test.YtpplemjjeefpdaaGreatDoorK115
import Derived.Test.YtpplemjjeefpdaaGreatDoorK118
import Derived.Test.YtpplemjjeefpdaaGreatDoorK116
import Derived.Defers
import Derived.Recover
import Derived.Laws.Pointers
import Derived.Lib.Builder
import Derived.Lib.UnsafeStr
import Derived.Shelf.RegionOpenPlain
import Derived.Laws.Externs
import Derived.Shelf.Small.Bits
import Derived.Shelf.Small.Strs
import Derived.Shelf.Strconv.Itoa0
import Derived.Shelf.Strings.Search1
import Derived.Shelf.Sort.Plain
import Derived.Shelf.Unicode.Decode
import Derived.Shelf.Unicode.DecodeAny
import Derived.Shelf.Slices.CompactS
import Derived.Ground.Names2Prog
import Derived.Shelf.Slices.SearchI
import Derived.Shelf.Slices.Cells
import Derived.Shelf.Slices.In.SortNone
import Derived.Test.YtpplemjjeefpdaaGreatDoorK127
import Derived.Test.YtpplemjjeefpdaaGreatDoorK123
import Derived.Test.YtpplemjjeefpdaaGreatDoorK122
import Derived.Test.YtpplemjjeefpdaaGreatDoorK121
import Derived.Test.YtpplemjjeefpdaaGreatDoorK120
import Derived.Test.YtpplemjjeefpdaaGreatDoorK126
import Derived.Test.YtpplemjjeefpdaaGreatDoorK125
import Derived.Test.YtpplemjjeefpdaaGreatDoorK124
import Derived.Test.YtpplemjjeefpdaaGreatDoorK128
import Derived.Test.YtpplemjjeefpdaaGreatDoorK130
import Derived.Lib.DecodeN
import Derived.Sort.Walk0
import Derived.Test.YtpplemjjeefpdaaGreatDoorK131
import Derived.Test.YtpplemjjeefpdaaGreatDoorK129
namespace Go.Proofs.YtpplemjjeefpdaaGreatDoor
open Go Go.RowKit
set_option linter.unusedVariables false
set_option linter.unusedSimpArgs false
open Ab
namespace Sh
section
variable {β : Type} {x y : Int} {s t : ByteArray} {i j : Int}
theorem sc_neq : sc .neq s t = !decide (s = t) := by rw [← sc_eql]; rfl
end
end Sh
end Go.Proofs.YtpplemjjeefpdaaGreatDoor
namespace Go.Proofs.YtpplemjjeefpdaaGreatDoor
open Go Go.RowKit Ab
set_option linter.unusedVariables false
set_option maxRecDepth 100000
section
variable (S T : CSet) {x y : Int} {lo hi b : Nat}
theorem f_rhas (hx : x = b) (h : b < 256) : FunS Tryz.prog 158 [setV S, fI .i64 x] shB (S.has b) := by
  subst hx
  exact fun_elder (Tryz.call158) rfl rfl fun G w _ _ => rhas_any S b h w
end
end Go.Proofs.YtpplemjjeefpdaaGreatDoor
namespace Go.Proofs.YtpplemjjeefpdaaGreatDoor
open Go Go.RowKit
set_option linter.unusedVariables false
set_option linter.unusedSimpArgs false
open Ab Sh
namespace Gn
def r12_Has_g (x : CSet) (b : Int) : Option Bool := if 0 ≤ b ∧ b < 256 then some (x.has b.toNat) else none
theorem r12_Has_w {x : CSet} {b : Int} {r : Bool} (h : r12_Has_g x b = some r) : FunS Tryz.prog 158 [setV x, fI .i64 b] (boolS rw) r := by
  unfold r12_Has_g at h
  split at h
  · cases h; exact f_rhas x (by omega) (by omega)
  · cases h
end Gn
end Go.Proofs.YtpplemjjeefpdaaGreatDoor
namespace Go.Proofs.YtpplemjjeefpdaaGreatDoor
open Go Go.RowKit
set_option linter.unusedVariables false
set_option linter.unusedSimpArgs false
set_option maxRecDepth 100000
set_option maxHeartbeats 4000000
open Ab Sh
namespace Gn
def r13_times_s (R : RF) (r : Bool) : V := fB r
def r13_times_g (p0 : Int) (p1 : Int) : Option Bool :=
 (cond (cm .lss p0 0)
 (some true)
 (cond (cm .gtr p0 16)
 (some true)
 (cond (cm .gtr p1 16)
 (some true)
 (cond (cm .lss p1 (-1))
 (some true)
 (some (cm .eql p1 0))))) : Option Bool).bind fun j1 =>
 cond (j1)
 (some false)
 ((cond (cm .eql p1 (-1))
 (some true)
 (some (cm .geq p1 p0)) : Option Bool).bind fun j2 =>
 some j2)
def r13_Right_s (R : RF) (r : Bool) : V := fB r
def r13_Right_l1 (rec : Node → Option Bool) (p0 : Node) : Nat → Int → Option Bool
| 0, _ => none
| m + 1, v9 =>
 cond (cm .lss v9 (ll (rw _ nodeRow p0.kids)))
 ((at_ p0.kids v9).bind fun r10 =>
 (rec r10).bind fun a11 =>
 cond (!a11)
 (cond (!a11)
 (cond (!a11)
 (cond (!a11)
 (cond (!a11)
 (cond (!a11)
 (cond (!a11)
 (cond (!a11)
 (cond (!a11)
 (cond (!a11)
 (cond (!a11)
 (cond (!a11)
 (some false)
 (none))
 (none))
 (none))
 (none))
 (none))
 (none))
 (none))
 (none))
 (none))
 (none))
 (none))
 (cond (!a11)
 (none)
 (cond (!a11)
 (none)
 (cond (!a11)
 (none)
 ((at_ p0.kids v9).bind fun r12 =>
 cond (!a11)
 (none)
 (cond (!a11)
 (none)
 (cond (!a11)
 (none)
 (cond (!a11)
 (none)
 (cond (!a11)
 (none)
 (cond (!a11)
 (none)
 (cond (cm .eql r12.kind p0.kind)
 (cond (cm .eql r12.kind p0.kind)
 (cond (cm .eql r12.kind p0.kind)
 (cond (!a11)
 (none)
 (cond (cm .eql r12.kind p0.kind)
 (cond (!a11)
 (none)
 (cond (cm .lss p0.kind 4)
 (some false)
 ((r13_Right_l1 rec p0 m) (ar .add .i64 v9 1))))
 (none)))
 (none))
 (none))
 (cond (cm .eql r12.kind p0.kind)
 (none)
 (cond (cm .eql r12.kind p0.kind)
 (none)
 (cond (!a11)
 (none)
 (cond (cm .eql r12.kind p0.kind)
 (none)
 (cond (!a11)
 (none)
 ((r13_Right_l1 rec p0 m) (ar .add .i64 v9 1))))))))))))))))))
 (some true)
def r13_Right_g : Nat → Node → Option Bool
| 0 => fun _ => none
| N + 1 => fun p0 =>
 (cond (cm .lss p0.kind 1)
 (some true)
 (some (cm .gtr p0.kind 4)) : Option Bool).bind fun j1 =>
 cond (j1)
 (some false)
 ((cond (cm .neq p0.kind 1)
 (cond (!(conj [cm .eql (p0.set.a.toNat : Int) 0, cm .eql (p0.set.b.toNat : Int) 0, cm .eql (p0.set.c.toNat : Int) 0, cm .eql (p0.set.d.toNat : Int) 0]))
 (some true)
 (cond (cm .neq p0.kind 4)
 (cond (cm .neq p0.min 0)
 (some true)
 (some (cm .neq p0.max 0)))
 (some false)))
 (cond (cm .neq p0.kind 4)
 (cond (cm .neq p0.min 0)
 (some true)
 (some (cm .neq p0.max 0)))
 (some false)) : Option Bool).bind fun j2 =>
 cond (j2)
 (some false)
 ((cond (cm .eql p0.kind 1)
 (cond (cm .neq (ll (rw _ nodeRow p0.kids)) 0)
 (some true)
 (cond (cm .eql p0.kind 2)
 (cond (cm .eql (ll (rw _ nodeRow p0.kids)) 1)
 (some true)
 (cond (cm .eql p0.kind 3)
 (cond (cm .lss (ll (rw _ nodeRow p0.kids)) 2)
 (some true)
 (cond (cm .eql p0.kind 4)
 (cond (cm .neq (ll (rw _ nodeRow p0.kids)) 1)
 (some true)
 ((r13_times_g p0.min p0.max).bind fun a1 =>
 some !a1))
 (some false)))
 (cond (cm .eql p0.kind 4)
 (cond (cm .neq (ll (rw _ nodeRow p0.kids)) 1)
 (some true)
 ((r13_times_g p0.min p0.max).bind fun a2 =>
 some !a2))
 (some false))))
 (cond (cm .eql p0.kind 3)
 (cond (cm .lss (ll (rw _ nodeRow p0.kids)) 2)
 (some true)
 (cond (cm .eql p0.kind 4)
 (cond (cm .neq (ll (rw _ nodeRow p0.kids)) 1)
 (some true)
 ((r13_times_g p0.min p0.max).bind fun a3 =>
 some !a3))
 (some false)))
 (cond (cm .eql p0.kind 4)
 (cond (cm .neq (ll (rw _ nodeRow p0.kids)) 1)
 (some true)
 ((r13_times_g p0.min p0.max).bind fun a4 =>
 some !a4))
 (some false)))))
 (cond (cm .eql p0.kind 2)
 (cond (cm .eql (ll (rw _ nodeRow p0.kids)) 1)
 (some true)
 (cond (cm .eql p0.kind 3)
 (cond (cm .lss (ll (rw _ nodeRow p0.kids)) 2)
 (some true)
 (cond (cm .eql p0.kind 4)
 (cond (cm .neq (ll (rw _ nodeRow p0.kids)) 1)
 (some true)
 ((r13_times_g p0.min p0.max).bind fun a5 =>
 some !a5))
 (some false)))
 (cond (cm .eql p0.kind 4)
 (cond (cm .neq (ll (rw _ nodeRow p0.kids)) 1)
 (some true)
 ((r13_times_g p0.min p0.max).bind fun a6 =>
 some !a6))
 (some false))))
 (cond (cm .eql p0.kind 3)
 (cond (cm .lss (ll (rw _ nodeRow p0.kids)) 2)
 (some true)
 (cond (cm .eql p0.kind 4)
 (cond (cm .neq (ll (rw _ nodeRow p0.kids)) 1)
 (some true)
 ((r13_times_g p0.min p0.max).bind fun a7 =>
 some !a7))
 (some false)))
 (cond (cm .eql p0.kind 4)
 (cond (cm .neq (ll (rw _ nodeRow p0.kids)) 1)
 (some true)
 ((r13_times_g p0.min p0.max).bind fun a8 =>
 some !a8))
 (some false)))) : Option Bool).bind fun j3 =>
 cond (j3)
 (some false)
 (r13_Right_l1 (r13_Right_g N) p0 N 0)))
def r15_from_l2 (l5 : List Bool) : Nat → Int → List Bool → Option (List Bool)
| 0, _, _ => none
| m + 1, v6, v7 =>
 cond (cm .lss v6 (ll (rw _ cB l5)))
 (((at_ v7 v6).bind fun r8 =>
 (at_ v7 v6).bind fun r9 =>
 cond (r9)
 ((at_ v7 v6).bind fun r10 =>
 (at_ v7 v6).bind fun r11 =>
 put cB v7 v6 true fun l12 =>
 some l12)
 ((at_ l5 v6).bind fun r13 =>
 (at_ l5 v6).bind fun r14 =>
 (at_ v7 v6).bind fun r15 =>
 (at_ v7 v6).bind fun r16 =>
 put cB v7 v6 r14 fun l17 =>
 some l17) : Option (List Bool)).bind fun j5 =>
 (r15_from_l2 l5 m) (ar .add .i64 v6 1) j5)
 (some v7)
def r15_from_l1 (rec : Node → ByteArray → Int → Option (List Bool)) (N : Nat) (p0 : Node) (p1 : ByteArray) (p2 : List Bool) : Nat → Int → List Bool → Option (List Bool)
| 0, _, _ => none
| m + 1, v2, v3 =>
 cond (cm .lss v2 (ll (rw _ cB p2)))
 ((at_ p2 v2).bind fun r4 =>
 (cond (r4)
 ((rec p0 p1 v2).bind fun l5 =>
 r15_from_l2 l5 N 0 v3)
 (some v3) : Option (List Bool)).bind fun j6 =>
 (r15_from_l1 rec N p0 p1 p2 m) (ar .add .i64 v2 1) j6)
 (some v3)
def r15_from_g (rec : Node → ByteArray → Int → Option (List Bool)) (N : Nat) (p0 : Node) (p1 : ByteArray) (p2 : List Bool) : Option (List Bool) :=
 (zro cB false (ll (rw _ cB p2)) (ll (rw _ cB p2))).bind fun l1 =>
 r15_from_l1 rec N p0 p1 p2 N 0 l1
def r15_ends_l1 (rec : Node → ByteArray → Int → Option (List Bool)) (N : Nat) (p0 : Node) (p1 : ByteArray) : Nat → Int → List Bool → Option (List Bool)
| 0, _, _ => none
| m + 1, v10, v11 =>
 cond (cm .lss v10 (ll (rw _ nodeRow p0.kids)))
 ((at_ p0.kids v10).bind fun r12 =>
 (r15_from_g rec N r12 p1 v11).bind fun l13 =>
 (r15_ends_l1 rec N p0 p1 m) (ar .add .i64 v10 1) l13)
 (some v11)
def r15_ends_l3 (k2 : Int → List Bool → Option (List Bool)) (v14 : Int) (l17 : List Bool) : Nat → Int → List Bool → Option (List Bool)
| 0, _, _ => none
| m + 1, v18, v19 =>
 cond (cm .lss v18 (ll (rw _ cB l17)))
 (((at_ v19 v18).bind fun r20 =>
 (at_ v19 v18).bind fun r21 =>
 cond (r21)
 ((at_ v19 v18).bind fun r22 =>
 (at_ v19 v18).bind fun r23 =>
 put cB v19 v18 true fun l24 =>
 some l24)
 ((at_ l17 v18).bind fun r25 =>
 (at_ l17 v18).bind fun r26 =>
 (at_ v19 v18).bind fun r27 =>
 (at_ v19 v18).bind fun r28 =>
 put cB v19 v18 r26 fun l29 =>
 some l29) : Option (List Bool)).bind fun j5 =>
 (r15_ends_l3 k2 v14 l17 m) (ar .add .i64 v18 1) j5)
 (k2 (ar .add .i64 v14 1) v19)
def r15_ends_l2 (rec : Node → ByteArray → Int → Option (List Bool)) (N : Nat) (p0 : Node) (p1 : ByteArray) (p2 : Int) : Nat → Int → List Bool → Option (List Bool)
| 0, _, _ => none
| m + 1, v14, v15 =>
 cond (cm .lss v14 (ll (rw _ nodeRow p0.kids)))
 ((at_ p0.kids v14).bind fun r16 =>
 (rec r16 p1 p2).bind fun l17 =>
 r15_ends_l3 (r15_ends_l2 rec N p0 p1 p2 m) v14 l17 N 0 v15)
 (some v15)
def r15_ends_l5 (v32 : List Bool) : Nat → Int → List Bool → Option (List Bool)
| 0, _, _ => none
| m + 1, v33, v34 =>
 cond (cm .lss v33 (ll (rw _ cB v32)))
 (((at_ v34 v33).bind fun r35 =>
 (at_ v34 v33).bind fun r36 =>
 cond (r36)
 ((at_ v34 v33).bind fun r37 =>
 (at_ v34 v33).bind fun r38 =>
 put cB v34 v33 true fun l39 =>
 some l39)
 ((at_ v32 v33).bind fun r40 =>
 (at_ v32 v33).bind fun r41 =>
 (at_ v34 v33).bind fun r42 =>
 (at_ v34 v33).bind fun r43 =>
 put cB v34 v33 r41 fun l44 =>
 some l44) : Option (List Bool)).bind fun j11 =>
 (r15_ends_l5 v32 m) (ar .add .i64 v33 1) j11)
 (some v34)
def r15_ends_l4 (rec : Node → ByteArray → Int → Option (List Bool)) (N : Nat) (p0 : Node) (p1 : ByteArray) (j6 : Int) : Nat → Int → List Bool → List Bool → Option (List Bool)
| 0, _, _, _ => none
| m + 1, v30, v31, v32 =>
 cond (cm .leq v30 j6)
 ((cond (cm .geq v30 p0.min)
 (r15_ends_l5 v32 N 0 v31)
 (some v31) : Option (List Bool)).bind fun j12 =>
 (at_ p0.kids 0).bind fun r45 =>
 (r15_from_g rec N r45 p1 v32).bind fun l46 =>
 (r15_ends_l4 rec N p0 p1 j6 m) (ar .add .i64 v30 1) j12 l46)
 (some v31)
def r15_ends_g : Nat → Node → ByteArray → Int → Option (List Bool)
| 0 => fun _ _ _ => none
| N + 1 => fun p0 p1 p2 =>
 (zro cB false (ar .add .i64 (sl p1) 1) (ar .add .i64 (sl p1) 1)).bind fun l1 =>
 (zro cB false (ar .add .i64 (sl p1) 1) (ar .add .i64 (sl p1) 1)).bind fun _ =>
 (at_ l1 p2).bind fun r3 =>
 (at_ l1 p2).bind fun r4 =>
 put cB l1 p2 true fun l5 =>
 cond (cm .eql p0.kind 1)
 (cond (cm .lss p2 (sl p1))
 (cond (cm .lss p2 (sl p1))
 (cond (cm .lss p2 (sl p1))
 (cond (cm .lss p2 (sl p1))
 (cond (cm .lss p2 (sl p1))
 (cond (sinB p1 p2) (cond (cm .lss p2 (sl p1))
 (cond (cm .lss p2 (sl p1))
 ((r12_Has_g p0.set (cv .i64 (sa p1 p2))).bind fun a6 =>
 cond (cm .lss p2 (sl p1))
 ((cond (a6)
 ((at_ l1 (ar .add .i64 p2 1)).bind fun r7 =>
 (at_ l1 (ar .add .i64 p2 1)).bind fun r8 =>
 put cB l1 (ar .add .i64 p2 1) true fun l9 =>
 some l9)
 (some l1) : Option (List Bool)).bind fun j1 =>
 some j1)
 (none))
 (none))
 (none)) none)
 (none))
 (none))
 (none))
 (none))
 (cond (cm .lss p2 (sl p1))
 (none)
 (cond (cm .lss p2 (sl p1))
 (none)
 (cond (cm .lss p2 (sl p1))
 (none)
 (cond (cm .lss p2 (sl p1))
 (none)
 (cond (cm .lss p2 (sl p1))
 (none)
 (cond (cm .lss p2 (sl p1))
 (none)
 (cond (cm .lss p2 (sl p1))
 (none)
 (some l1)))))))))
 (cond (cm .eql p0.kind 2)
 (r15_ends_l1 (r15_ends_g N) N p0 p1 N 0 l5)
 (cond (cm .eql p0.kind 3)
 (r15_ends_l2 (r15_ends_g N) N p0 p1 p2 N 0 l1)
 ((cond (cm .eql p0.max (-1))
 (some (ar .add .i64 p0.min (sl p1)))
 (some p0.max) : Option Int).bind fun j6 =>
 r15_ends_l4 (r15_ends_g N) N p0 p1 j6 N 0 l1 l5)))
def r15_Match_s (R : RF) (r : Bool) : V := fB r
def r15_Match_g (N : Nat) (p0 : Node) (p1 : ByteArray) : Option Bool :=
 (r13_Right_g N p0).bind fun a1 =>
 cond (!a1)
 (some false)
 ((r15_ends_g N p0 p1 0).bind fun l2 =>
 (at_ l2 (sl p1)).bind fun r3 =>
 (at_ l2 (sl p1)).bind fun r4 =>
 some r4)
def r22_Test_s (R : RF) (r : Bool) : V := fB r
def r22_Test_g (N : Nat) (p0 : GMatcher) (p1 : ByteArray) : Option Bool :=
 (r22_Right_g N p0).bind fun a1 =>
 cond (cm .neq a1 0)
 (some false)
 (cond (cm .eql p0.Op 1)
 (some (sc .eql p1 p0.Value))
 (cond (cm .eql p0.Op 2)
 (some (sc .neq p1 p0.Value))
 ((r13_Parse_g N p0.Value).bind fun a2 =>
 cond (cm .eql p0.Op 3)
 ((r15_Match_g N a2.1 p1).bind fun a3 =>
 some a3)
 ((r15_Match_g N a2.1 p1).bind fun a4 =>
 some !a4))))
def r11_Get_s (R : RF) (r : ByteArray) : V := fS r
def r11_Get_l1 (p0 : List GLabel) (p1 : ByteArray) : Nat → Int → Option ByteArray
| 0, _ => none
| m + 1, v1 =>
 cond (cm .lss v1 (ll (rw _ cLabel p0)))
 ((at_ p0 v1).bind fun r2 =>
 cond (sc .eql r2.Name p1)
 ((at_ p0 v1).bind fun r3 =>
 some r3.Value)
 ((r11_Get_l1 p0 p1 m) (ar .add .i64 v1 1)))
 (some ByteArray.empty)
def r11_Get_g (N : Nat) (p0 : List GLabel) (p1 : ByteArray) : Option ByteArray :=
 r11_Get_l1 p0 p1 N 0
def r22_Holds_s (R : RF) (r : Bool) : V := fB r
def r22_Holds_g (N : Nat) (p0 : GMatcher) (p1 : List GLabel) : Option Bool :=
 (r11_Get_g N p1 p0.Name).bind fun a1 =>
 (r22_Test_g N p0 a1).bind fun a2 =>
 some a2
end Gn
end Go.Proofs.YtpplemjjeefpdaaGreatDoor
namespace Go.Proofs.YtpplemjjeefpdaaGreatDoor
open Go
namespace Mx
def single (i : Nat) : Pos := fun j => j == i
theorem or_none (a : Pos) : orP a zr = a := by funext j; simp [orP, zr]
theorem none_or (a : Pos) : orP zr a = a := by funext j; simp [orP, zr]
theorem or_self (a : Pos) : orP a a = a := by funext j; simp [orP]
theorem or_assoc (a b c : Pos) : orP (orP a b) c = orP a (orP b c) := by funext j; simp [orP, Bool.or_assoc]
theorem or_four (a b c d : Pos) : orP (orP a b) (orP c d) = orP (orP a c) (orP b d) := by
  funext j; simp only [orP]; cases a j <;> cases b j <;> cases c j <;> cases d j <;> rfl
theorem adds_one (S : CSet) (s : List UInt8) : Adds (one S s) where
  or_ a b := by
    funext j
    cases j with
    | zero => rfl
    | succ i => simp only [one, orP]; cases a i <;> cases b i <;> simp
  none_ := by funext j; cases j <;> simp [one, zr]
theorem Adds.zr : Adds (fun _ => zr) := ⟨fun _ _ => (or_self _).symm, rfl⟩
theorem Adds.orP {f g : Pos → Pos} (hf : Adds f) (hg : Adds g) : Adds (fun x => orP (f x) (g x)) := ⟨fun a b => by rw [hf.or_, hg.or_, or_four], by rw [hf.none_, hg.none_, or_self]⟩
theorem Adds.upto {f : Pos → Pos} (hf : Adds f) : ∀ k, Adds (upto f k)
  | 0 => Adds.id
  | k + 1 => Adds.orP Adds.id ((Adds.upto hf k).comp hf)
mutual
theorem adds_sp (s : List UInt8) : ∀ n, Adds (sp s n)
  | .mk k S kids mn mx => by
    unfold sp
    by_cases h1 : k = 1
    · simp only [h1, if_true]; exact adds_one S s
    · by_cases h2 : k = 2
      · simp only [h2]; exact adds_cat s kids
      · by_cases h3 : k = 3
        · simp only [h3]; exact adds_alt s kids
        · simp only [h1, h2, h3, if_false]; exact adds_rep s kids mn mx
theorem adds_cat (s : List UInt8) : ∀ l, Adds (spCat s l)
  | [] => by unfold spCat; exact Adds.id
  | n :: r => by unfold spCat; exact (adds_sp s n).comp (adds_cat s r)
theorem adds_alt (s : List UInt8) : ∀ l, Adds (spAlt s l)
  | [] => by unfold spAlt; exact Adds.zr
  | n :: r => by unfold spAlt; exact Adds.orP (adds_sp s n) (adds_alt s r)
theorem adds_rep (s : List UInt8) : ∀ (kids : List Node) (mn mx : Int), Adds (spRep s kids mn mx)
  | [], _, _ => by unfold spRep; exact Adds.zr
  | n :: _, mn, mx => by unfold spRep; exact ((adds_sp s n).iter _).comp ((adds_sp s n).upto _)
end
theorem sup_none (N : Nat) : Sup N zr := fun _ _ => rfl
theorem Sup.orP {N : Nat} {a b : Pos} (ha : Sup N a) (hb : Sup N b) : Sup N (orP a b) := fun j hj => by simp [Mx.orP, ha j hj, hb j hj]
theorem sup_single {N i : Nat} (h : i < N) : Sup N (single i) := fun j hj => by simp [single]; omega
theorem keeps_one (S : CSet) (s : List UInt8) : Keeps (s.length + 1) (one S s) := fun x _ j hj => by
  cases j with
  | zero => omega
  | succ i => simp only [one]; rw [List.getElem?_eq_none (by omega)]; simp
theorem Keeps.upto {N : Nat} {f : Pos → Pos} (hf : Keeps N f) : ∀ k, Keeps N (upto f k)
  | 0 => fun _ h => h
  | k + 1 => fun x h => h.orP (hf _ (Keeps.upto hf k x h))
mutual
theorem keeps_sp (s : List UInt8) : ∀ n, Keeps (s.length + 1) (sp s n)
  | .mk k S kids mn mx => by
    unfold sp
    by_cases h1 : k = 1
    · simp only [h1, if_true]; exact keeps_one S s
    · by_cases h2 : k = 2
      · simp only [h2]; exact keeps_cat s kids
      · by_cases h3 : k = 3
        · simp only [h3]; exact keeps_alt s kids
        · simp only [h1, h2, h3, if_false]; exact keeps_rep s kids mn mx
theorem keeps_cat (s : List UInt8) : ∀ l, Keeps (s.length + 1) (spCat s l)
  | [] => by unfold spCat; exact fun _ h => h
  | n :: r => by unfold spCat; exact fun x h => keeps_cat s r _ (keeps_sp s n x h)
theorem keeps_alt (s : List UInt8) : ∀ l, Keeps (s.length + 1) (spAlt s l)
  | [] => by unfold spAlt; exact fun _ _ => sup_none _
  | n :: r => by unfold spAlt; exact fun x h => (keeps_sp s n x h).orP (keeps_alt s r x h)
theorem keeps_rep (s : List UInt8) : ∀ (kids : List Node) (mn mx : Int), Keeps (s.length + 1) (spRep s kids mn mx)
  | [], _, _ => by unfold spRep; exact fun _ _ => sup_none _
  | n :: _, mn, mx => by unfold spRep; exact fun x h => (keeps_sp s n).upto _ _ ((keeps_sp s n).iter _ _ h)
end
def Le (a b : Pos) : Prop := ∀ j, a j = true → b j = true
theorem le_or_left (a b : Pos) : Le a (orP a b) := fun j h => by simp [orP, h]
theorem or_of_le {a b : Pos} (h : Le b a) : orP a b = a := by
  funext j
  simp only [orP]
  cases hb : b j
  · simp
  · simp [h j hb]
theorem Le.antisymm {a b : Pos} (h : Le a b) (h' : Le b a) : a = b := by
  funext j
  cases ha : a j
  · cases hb : b j
    · rfl
    · rw [h' j hb] at ha; cases ha
  · rw [h j ha]
theorem iter_succ (f : Pos → Pos) : ∀ k x, iter f (k + 1) x = f (iter f k x)
  | 0, _ => rfl
  | k + 1, x => iter_succ f k (f x)
theorem upto_succ {f : Pos → Pos} (hf : Adds f) : ∀ k x, upto f (k + 1) x = orP (upto f k x) (iter f (k + 1) x)
  | 0, x => rfl
  | k + 1, x => by
    show orP x (f (upto f (k + 1) x)) = orP (orP x (f (upto f k x))) (iter f (k + 2) x)
    rw [upto_succ hf k x, hf.or_, ← or_assoc, ← iter_succ f (k + 1) x]
theorem upto_le {f : Pos → Pos} (hf : Adds f) (k : Nat) (x : Pos) : Le (upto f k x) (upto f (k + 1) x) := by rw [upto_succ hf]; exact le_or_left _ _
theorem upto_stop {f : Pos → Pos} {k : Nat} {x : Pos} (h : upto f (k + 1) x = upto f k x) : ∀ m, k ≤ m → upto f m x = upto f k x := by
  intro m hm
  induction m with
  | zero => obtain rfl : k = 0 := by omega
            rfl
  | succ m ih =>
    rcases Nat.lt_or_ge k (m + 1) with h1 | h1
    · have h2 := ih (by omega)
      show orP x (f (upto f m x)) = _
      rw [h2]
      exact h
    · obtain rfl : k = m + 1 := by omega
      rfl
def cnt (N : Nat) (x : Pos) : Nat := (List.range N).countP x
theorem cnt_le (N : Nat) (x : Pos) : cnt N x ≤ N := by unfold cnt; have := List.countP_le_length (p := x) (l := List.range N); simpa using this
theorem cnt_lt {N : Nat} {a b : Pos} (h : Le a b) (hb : Sup N b) (hne : a ≠ b) : cnt N a < cnt N b := by
  have hex : ∃ j, a j = false ∧ b j = true := Classical.byContradiction fun hno => hne (h.antisymm fun j hj => by
    cases ha : a j
    · exact absurd ⟨j, ha, hj⟩ hno
    · rfl)
  obtain ⟨j, h1, h2⟩ := hex
  have hj : j < N := Nat.lt_of_not_le fun h3 => by rw [hb j h3] at h2; cases h2
  unfold cnt
  have key : ∀ (l : List Nat), l.countP a ≤ l.countP b ∧ (j ∈ l → l.countP a < l.countP b) := by
    intro l
    induction l with
    | nil => exact ⟨Nat.le_refl _, fun h => by cases h⟩
    | cons i r ih =>
      rw [List.countP_cons, List.countP_cons]
      refine ⟨?_, fun hm => ?_⟩
      · cases hai : a i
        · have := ih.1; simp; omega
        · rw [h i hai]; have := ih.1; simp; omega
      · rcases List.mem_cons.1 hm with rfl | hm
        · rw [h1, h2]; have := ih.1; simp; omega
        · have := ih.2 hm
          cases hai : a i
          · simp; omega
          · rw [h i hai]; simp; omega
  exact (key _).2 (by simpa using hj)
theorem cnt_upto {f : Pos → Pos} {N : Nat} (hf : Adds f) (hk : Keeps N f) {x : Pos} (hx : Sup N x) (hne : x ≠ zr) : ∀ k, upto f (k + 1) x ≠ upto f k x → k + 2 ≤ cnt N (upto f (k + 1) x)
  | 0, h => by
    have h1 : 0 < cnt N x := by have := cnt_lt (a := zr) (b := x) (fun j h => by cases h) hx (Ne.symm hne); omega
    have h2 := cnt_lt (upto_le hf 0 x) (hk.upto 1 x hx) (Ne.symm h)
    have h3 : upto f 0 x = x := rfl
    rw [h3] at h2
    omega
  | k + 1, h => by
    by_cases h0 : upto f (k + 1) x = upto f k x
    · exact absurd ((upto_stop h0 (k + 2) (by omega)).trans (upto_stop h0 (k + 1) (by omega)).symm) h
    · have h1 := cnt_upto hf hk hx hne k h0
      have h2 := cnt_lt (upto_le hf (k + 1) x) (hk.upto (k + 2) x hx) (Ne.symm h)
      omega
theorem sp_any {f : Pos → Pos} (hf : Adds f) {N : Nat} {x : Pos} (hx : Sup N x) (j : Nat) : f x j = (List.range N).any (fun i => x i && f (single i) j) := by
  have key : ∀ k, f (fun i => decide (i < k) && x i) j = (List.range k).any (fun i => x i && f (single i) j) := by
    intro k
    induction k with
    | zero => rw [show (fun i => decide (i < 0) && x i) = zr by funext i; simp [zr], hf.none_]; rfl
    | succ k ih =>
      rw [List.range_succ, List.any_append, ← ih]
      have e : (fun i => decide (i < k + 1) && x i) = orP (fun i => decide (i < k) && x i) (if x k then single k else zr) := by
        funext i
        simp only [orP]
        by_cases h1 : i = k
        · subst h1; cases hx : x i <;> simp [single, zr]
        · have h2 : decide (i < k + 1) = decide (i < k) := by rw [decide_eq_decide]; omega
          rw [h2]
          cases hx : x k <;> simp [single, zr, h1]
      rw [e, hf.or_]
      simp only [orP, List.any_cons, List.any_nil, Bool.or_false]
      cases x k
      · simp [hf.none_, zr]
      · simp
  rw [← key N]
  congr 1
  funext i
  by_cases h : i < N
  · simp [h]
  · simp [h, hx i (by omega)]
end Mx
end Go.Proofs.YtpplemjjeefpdaaGreatDoor
namespace Go.Proofs.YtpplemjjeefpdaaGreatDoor
set_option linter.unusedSimpArgs false
open Go
namespace Rx
def timesB (lo hi : Int) : Bool := if lo < 0 || lo > 16 || hi > 16 || hi < -1 || hi == 0 then false else hi == -1 || hi ≥ lo
def topB (kind : Int) (S : CSet) (many : Nat) (mn mx : Int) : Bool :=
  (kind == 1 || kind == 2 || kind == 3 || kind == 4) && (kind == 1 || decide (S = CSet.empty)) && (kind == 4 || mn == 0 && mx == 0) &&
  (if kind == 1 then many == 0 else if kind == 2 then many != 1 else if kind == 3 then decide (many > 1) else many == 1 && timesB mn mx)
mutual
def right : Node → Bool
  | .mk kind S kids mn mx => topB kind S kids.length mn mx && rights kind kids
def rights (kind : Int) : List Node → Bool
  | [] => true
  | n :: r => (right n && !(n.kind == kind && kind != 4)) && rights kind r
end
theorem right_eq (n : Node) : right n = (topB n.kind n.set n.kids.length n.min n.max && rights n.kind n.kids) := by cases n; rw [right] <;> rfl
theorem rights_iff (kind : Int) (ns : List Node) : rights kind ns = true ↔ ∀ n ∈ ns, right n = true ∧ ¬ (n.kind = kind ∧ kind ≠ 4) := by
  induction ns with
  | nil => simp [rights]
  | cons a r ih => rw [rights, Bool.and_eq_true, ih]; simp; intro _; omega
variable {l : List UInt8}
end Rx
end Go.Proofs.YtpplemjjeefpdaaGreatDoor
namespace Go.Proofs.YtpplemjjeefpdaaGreatDoor
open Go
namespace Mt
def hits (n : Node) (l : List UInt8) : Bool := Rx.right n && Mx.sp l n (Mx.single 0) l.length
def test (m : M) (v : ByteArray) : Bool :=
  if right m ≠ 0 then false else if m.op = 1 then decide (v.data.toList = m.val.data.toList) else if m.op = 2 then !decide (v.data.toList = m.val.data.toList)
  else if m.op = 3 then hits (Rx.parse m.val.data.toList).1 v.data.toList else !hits (Rx.parse m.val.data.toList).1 v.data.toList
def get : List L → ByteArray → ByteArray
  | [], _ => ⟨#[]⟩
  | x :: r, n => if x.name.data.toList = n.data.toList then x.val else get r n
def holds (m : M) (l : List L) : Bool := test m (get l m.name)
theorem right_ok {m : M} (h : right m = 0) : Nm.labelB m.name.data.toList = true ∧ 1 ≤ m.op ∧ m.op ≤ 4 := by
  unfold right at h
  by_cases c : Nm.labelB m.name.data.toList = false
  · rw [if_pos c] at h; omega
  · rw [if_neg c] at h
    by_cases d : m.op < 1 ∨ 4 < m.op
    · rw [if_pos d] at h; omega
    · exact ⟨by simpa using c, by omega, by omega⟩
end Mt
end Go.Proofs.YtpplemjjeefpdaaGreatDoor
namespace Go.Proofs.YtpplemjjeefpdaaGreatDoor
open Go
set_option linter.unusedVariables false
set_option linter.unusedSimpArgs false
set_option maxRecDepth 100000
open Sh Gn
namespace Pl
theorem setz_p (S : CSet) : conj [cm .eql (S.a.toNat : Int) 0, cm .eql (S.b.toNat : Int) 0, cm .eql (S.c.toNat : Int) 0, cm .eql (S.d.toNat : Int) 0] = decide (S = CSet.empty) := by
  have h : ∀ x : BitVec 64, ((x.toNat : Int) = 0) = (x = 0) := fun x => propext ⟨fun h => by
    apply BitVec.eq_of_toNat_eq
    have : x.toNat = 0 := by omega
    rw [this]; rfl, fun h => by rw [h]; rfl⟩
  rw [cm_eql, cm_eql, cm_eql, cm_eql]
  simp only [h]
  cases S
  rw [Bool.eq_iff_iff]
  simp [conj, CSet.empty]
theorem times_p (lo hi : Int) : regex_times_g lo hi = some (Rx.timesB lo hi) := by
  unfold regex_times_g Rx.timesB mx
  simp only [cm_lss, cm_gtr, cm_eql, cm_geq, cm_leq, cond_dec, ite_or, ite_and, Option.bind_some]
  by_cases c : lo < 0 ∨ 16 < lo
  · rw [if_pos c]
    have : lo < 0 ∨ lo > 16 := c
    congr 1
    rcases this with h | h <;> simp [h]
  · rw [if_neg c]
    have e : ∃ M : Int, (if (1 : Int) > lo then (1 : Int) else lo) = M ∧ (lo = 0 ∧ M = 1 ∨ lo ≠ 0 ∧ M = lo) := by
      refine ⟨_, rfl, ?_⟩
      split <;> omega
    obtain ⟨M, e, hM⟩ := e
    rw [e]
    congr 1
    have c1 : ¬ lo < 0 := fun h => c (.inl h)
    have c2 : ¬ lo > 16 := fun h => c (.inr h)
    simp only [c1, c2, decide_false, Bool.false_or]
    by_cases h : (hi > 16 ∨ hi < -1) ∨ hi = 0
    · have hd : (decide (hi > 16) || decide (hi < -1) || hi == 0) = true := by simpa using h
      rw [hd, if_pos rfl]
      exact decide_eq_false (by omega)
    · have hd : (decide (hi > 16) || decide (hi < -1) || hi == 0) = false := by
        rw [Bool.eq_false_iff]; intro h'; exact h (by simpa using h')
      rw [hd, if_neg (by simp), Bool.eq_iff_iff]
      simp only [Bool.or_eq_true, beq_iff_eq, decide_eq_true_eq]
      omega
theorem rtimes_p (lo hi : Int) : r13_times_g lo hi = some (Rx.timesB lo hi) := by
  unfold r13_times_g Rx.timesB
  simp only [cm_lss, cm_gtr, cm_eql, cm_geq, cm_leq, cond_dec, ite_or, ite_and, Option.bind_some]
  by_cases c : lo < 0 ∨ 16 < lo ∨ 16 < hi ∨ hi < -1 ∨ hi = 0
  · rw [if_pos c, if_pos (by simpa [or_assoc] using c)]
  · rw [if_neg c, if_neg (by simpa [or_assoc] using c)]
    congr 1
    rw [Bool.eq_iff_iff]
    simp
theorem mkids_p (rec : Node → Option Bool) (n : Node) (hl : n.kids.length ≤ 100000) (hr : ∀ c ∈ n.kids, rec c = some (Rx.right c)) : ∀ (m k : Nat), k ≤ n.kids.length → n.kids.length < k + m → regex_Right_l1 rec n m k = some (Rx.topB n.kind n.set n.kids.length n.min n.max && Rx.rights n.kind (n.kids.drop k)) := by
  intro m
  induction m with
  | zero => intro k h1 h2; omega
  | succ m ih =>
    intro k h1 h2
    rw [regex_Right_l1]
    simp only [setz_p]
    simp only [cm_lss, cm_eql, cm_neq, cm_gtr, cond_not, cond_dec, ll_eq, setz_p, not_dec, times_p, ite_or, ite_and, ite_gen, Option.bind_some, bind_self]
    by_cases c : k < n.kids.length
    · rw [if_pos (by omega), at_get c, inc1 (by omega), Option.bind_some, hr _ (List.getElem_mem c), Option.bind_some, ih (k + 1) (by omega) (by omega)]
      rw [List.drop_eq_getElem_cons c, Rx.rights]
      generalize n.kids[k] = y
      cases Rx.right y with
      | false => simp
      | true =>
        have e1 : (y.kind == n.kind) = decide (y.kind = n.kind) := Bool.beq_eq_decide_eq _ _
        have e2 : (n.kind != 4) = !decide (n.kind = 4) := by rw [← Bool.beq_eq_decide_eq]; rfl
        rw [e1, e2]
        by_cases g : y.kind = n.kind <;> by_cases g4 : n.kind = 4 <;> simp [g, g4]
    · rw [if_neg (by omega), List.drop_of_length_le (by omega), Rx.rights, Bool.and_true]
      obtain ⟨kind, S, kids, mn, mx⟩ := n
      simp only [Node.kind, Node.set, Node.kids, Node.min, Node.max] at *
      unfold Rx.topB
      generalize kids.length = L
      have q0 : ((L : Int) = 0) = (L = 0) := propext (by omega)
      have q1 : ((L : Int) = 1) = (L = 1) := propext (by omega)
      have q2 : ((1 : Int) < L) = (1 < L) := propext (by omega)
      simp only [q0, q1, q2]
      generalize Rx.timesB mn mx = T
      by_cases k1 : kind = 1
      · subst k1
        by_cases a1 : mn = 0 <;> by_cases a2 : mx = 0 <;> by_cases a3 : L = 0 <;> simp [a1, a2, a3]
      by_cases k2 : kind = 2
      · subst k2
        by_cases a0 : S = CSet.empty <;> by_cases a1 : mn = 0 <;> by_cases a2 : mx = 0 <;> by_cases a3 : L = 1 <;> simp [a0, a1, a2, a3]
      by_cases k3 : kind = 3
      · subst k3
        by_cases a0 : S = CSet.empty <;> by_cases a1 : mn = 0 <;> by_cases a2 : mx = 0 <;> by_cases a3 : 1 < L <;> simp [a0, a1, a2, a3]
      by_cases k4 : kind = 4
      · subst k4
        by_cases a0 : S = CSet.empty <;> by_cases a3 : L = 1 <;> cases T <;> simp [a0, a3]
      by_cases a0 : S = CSet.empty <;> by_cases a1 : mn = 0 <;> by_cases a2 : mx = 0 <;> simp [k1, k2, k3, k4, a0, a1, a2]
theorem xright_p : ∀ (m : Nat) (n : Node), n.size ≤ m → m ≤ 1000 → ∀ N, m + 2000 ≤ N → regex_Right_g N n = some (Rx.right n) := by
  intro m
  induction m with
  | zero => intro n h; have := n.size_pos; omega
  | succ m ih =>
    intro n h hm N hN
    obtain ⟨N, rfl⟩ : ∃ M, N = M + 1 := ⟨N - 1, by omega⟩
    have hk := n.kids_le
    rw [regex_Right_g]
    have := mkids_p (regex_Right_g N) n (by omega) (fun c hc => ih c (by have := kid_size hc; omega) (by omega) N (by omega)) N 0 (by omega) (by omega)
    rw [Rx.right_eq]
    exact this
theorem rkids_p (rec : Node → Option Bool) (n : Node) (hl : n.kids.length ≤ 100000) (h14 : 1 ≤ n.kind ∧ n.kind ≤ 4) (hr : ∀ c ∈ n.kids, rec c = some (Rx.right c)) : ∀ (m k : Nat), k ≤ n.kids.length → n.kids.length < k + m → r13_Right_l1 rec n m k = some (Rx.rights n.kind (n.kids.drop k)) := by
  intro m
  induction m with
  | zero => intro k h1 h2; omega
  | succ m ih =>
    intro k h1 h2
    rw [r13_Right_l1]
    simp only [cm_lss, cm_eql, cm_neq, cm_gtr, cond_dec, ll_eq]
    by_cases c : k < n.kids.length
    · rw [if_pos (by omega), at_get c, inc1 (by omega), Option.bind_some, hr _ (List.getElem_mem c), Option.bind_some, ih (k + 1) (by omega) (by omega)]
      rw [List.drop_eq_getElem_cons c, Rx.rights]
      generalize n.kids[k] = y
      cases Rx.right y with
      | false => simp
      | true =>
        by_cases g : y.kind = n.kind <;> by_cases g4 : n.kind = 4
        · have : ¬ n.kind < 4 := by omega
          simp [g, g4]
        · have : n.kind < 4 := by omega
          simp [g, g4, this]
        · have g' : ¬ y.kind = 4 := by omega
          simp [g, g4, g']
        · simp [g, g4]
    · rw [if_neg (by omega), List.drop_of_length_le (by omega), Rx.rights]
theorem rright13_p : ∀ (m : Nat) (n : Node), n.size ≤ m → m ≤ 1000 → ∀ N, m + 2000 ≤ N → r13_Right_g N n = some (Rx.right n) := by
  intro m
  induction m with
  | zero => intro n h; have := n.size_pos; omega
  | succ m ih =>
    intro n h hm N hN
    obtain ⟨N, rfl⟩ : ∃ M, N = M + 1 := ⟨N - 1, by omega⟩
    have hk := n.kids_le
    rw [r13_Right_g, Rx.right_eq]
    simp only [setz_p]
    simp only [cm_lss, cm_eql, cm_neq, cm_gtr, cond_not, cond_dec, ll_eq, setz_p, not_dec, rtimes_p, ite_or, ite_and, Option.bind_some, bind_self]
    by_cases h14 : 1 ≤ n.kind ∧ n.kind ≤ 4
    case neg =>
      rw [if_pos (by omega)]
      unfold Rx.topB
      have a1 : ¬ n.kind = 1 := by omega
      have a2 : ¬ n.kind = 2 := by omega
      have a3 : ¬ n.kind = 3 := by omega
      have a4 : ¬ n.kind = 4 := by omega
      simp [a1, a2, a3, a4]
    rw [if_neg (by omega)]
    have key := rkids_p (r13_Right_g N) n (by omega) h14 (fun c hc => ih c (by have := kid_size hc; omega) (by omega) N (by omega)) N 0 (by omega) (by omega)
    rw [List.drop_zero] at key
    rw [show ((0 : Nat) : Int) = 0 from rfl] at key
    rw [key]
    generalize Rx.rights n.kind n.kids = U
    obtain ⟨kind, S, kids, mn, mx⟩ := n
    simp only [Node.kind, Node.set, Node.kids, Node.min, Node.max] at *
    unfold Rx.topB
    generalize kids.length = L
    have q0 : ((L : Int) = 0) = (L = 0) := propext (by omega)
    have q1 : ((L : Int) = 1) = (L = 1) := propext (by omega)
    have q3 : ((L : Int) < 2) = ¬ (1 < L) := propext (by omega)
    simp only [q0, q1, q3]
    generalize Rx.timesB mn mx = T
    have h4 : kind = 1 ∨ kind = 2 ∨ kind = 3 ∨ kind = 4 := by omega
    rcases h4 with rfl | rfl | rfl | rfl
    · by_cases a1 : mn = 0 <;> by_cases a2 : mx = 0 <;> by_cases a3 : L = 0 <;> simp [a1, a2, a3]
    · by_cases a0 : S = CSet.empty <;> by_cases a1 : mn = 0 <;> by_cases a2 : mx = 0 <;> by_cases a3 : L = 1 <;> simp [a0, a1, a2, a3]
    · by_cases a0 : S = CSet.empty <;> by_cases a1 : mn = 0 <;> by_cases a2 : mx = 0 <;> by_cases a3 : 1 < L <;> simp [a0, a1, a2, a3]
    · by_cases a0 : S = CSet.empty <;> by_cases a3 : L = 1 <;> cases T <;> simp [a0, a3]
end Pl
end Go.Proofs.YtpplemjjeefpdaaGreatDoor
