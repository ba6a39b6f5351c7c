/- Texts that the proof leans on. -/
import Derived.ChangeKeysEq
import Derived.WalkKit
import Derived.KernelRfl
import Derived.Lib.TrailingZeros
import Derived.Shelf.Unicode.DecodeSlow
import Derived.Laws.Tables
import Derived.Laws.MakeOwn
import Derived.Maps.AppendAt
import Derived.Laws.BytesString
import Derived.Laws.IdiomStrings
import Derived.Laws.StructEq
import Derived.Lib.OthersKept
import Derived.Lib.AppendStr
import Derived.Laws.CopyRow
import Derived.Still
import Derived.StillTail
import Derived.LoopN
import Derived.Test.YtpplemjjeefpdaaGreatDoorK114
import Derived.Test.YtpplemjjeefpdaaGreatDoorK113
import Derived.Test.YtpplemjjeefpdaaGreatDoorK112
import Derived.Test.YtpplemjjeefpdaaGreatDoorK111
import Derived.Test.YtpplemjjeefpdaaGreatDoorK110
import Derived.Test.YtpplemjjeefpdaaGreatDoorK109
import Derived.Test.YtpplemjjeefpdaaGreatDoorK108
import Derived.Test.YtpplemjjeefpdaaGreatDoorK107
import Derived.Test.YtpplemjjeefpdaaGreatDoorK106
import Derived.Test.YtpplemjjeefpdaaGreatDoorK105
import Derived.Test.YtpplemjjeefpdaaGreatDoorK104
import Derived.Test.YtpplemjjeefpdaaGreatDoorK103
import Derived.Test.YtpplemjjeefpdaaGreatDoorK102
import Derived.Test.YtpplemjjeefpdaaGreatDoorK101
import Derived.Test.YtpplemjjeefpdaaGreatDoorProg
import Derived.Laws.BitsAllLaws
import Derived.Below
import Derived.Calls
import Derived.Deep.Draws
import Derived.WalkSpells
import Derived.Deep.QuietTactic
import Derived.BigQuiet
import Derived.BigRegion
import Derived.RegionTactic
import Derived.WalkLawsBesides
import Derived.Shelf.Spec.TrailingZeros
import Derived.Defers
import Derived.Recover
import Derived.Laws.Pointers
import Derived.Lib.Builder
import Derived.Lib.UnsafeStr
import Derived.Shelf.RegionOpenPlain
import Derived.Laws.Externs
import Derived.Shelf.Small.Bits
import Derived.Shelf.Small.Strs
import Derived.Shelf.Strconv.Itoa0
import Derived.Shelf.Strings.Search1
import Derived.Shelf.Sort.Plain
import Derived.Shelf.Unicode.Decode
import Derived.Shelf.Unicode.DecodeAny
import Derived.Shelf.Slices.CompactS
import Derived.Ground.Names2Prog
import Derived.Shelf.Slices.SearchI
import Derived.Shelf.Slices.Cells
import Derived.Shelf.Slices.In.SortNone
import Derived.Test.YtpplemjjeefpdaaGreatDoorRows
import Derived.Lib.LaidU8
import Derived.Lib.LaidTab
import Derived.Test.YtpplemjjeefpdaaGreatDoorK127
import Derived.Test.YtpplemjjeefpdaaGreatDoorK123
import Derived.Test.YtpplemjjeefpdaaGreatDoorK122
import Derived.Test.YtpplemjjeefpdaaGreatDoorK121
import Derived.Test.YtpplemjjeefpdaaGreatDoorK120
import Derived.Test.YtpplemjjeefpdaaGreatDoorK117
import Derived.Test.YtpplemjjeefpdaaGreatDoorK115
import Derived.Test.YtpplemjjeefpdaaGreatDoorK116
import Derived.Test.YtpplemjjeefpdaaGreatDoorK119
import Derived.Test.YtpplemjjeefpdaaGreatDoorK118
import Derived.Test.YtpplemjjeefpdaaGreatDoorK126
import Derived.Test.YtpplemjjeefpdaaGreatDoorK125
import Derived.Test.YtpplemjjeefpdaaGreatDoorK124
import Derived.Test.YtpplemjjeefpdaaGreatDoorK128
import Derived.Lib.DecodeN
import Derived.Test.YtpplemjjeefpdaaGreatDoorK130
import Derived.Test.YtpplemjjeefpdaaGreatDoorK129
namespace Go.Proofs.YtpplemjjeefpdaaGreatDoor
open Go Go.RowKit
set_option linter.unusedVariables false
set_option linter.unusedSimpArgs false
open Ab
namespace Sh
def ne0B (y : Int) : Bool := !decide (y = 0)
section
variable {P : Program} {A : Run} {W : Wd} {E : Env} {L : TypeId → Option Lt}
variable (hE : dom P A = mkE W E)
include hE
section
variable {β : Type} {v : β} {c : Prop} {s t : ByteArray} {i j : Int}
theorem L_ne0 {X : Option β} (h : cond (ne0B i) X none = some v) (k : X = some v → c) : E.ne0 i ∧ c := by
  obtain ⟨h1, h2⟩ := cond_true h
  refine ⟨?_, k h2⟩
  show (mkE W E).ne0 i
  rw [← hE]; exact (show ¬ i = 0 by simpa [ne0B] using h1)
end
end
end Sh
end Go.Proofs.YtpplemjjeefpdaaGreatDoor
namespace Go.Proofs.YtpplemjjeefpdaaGreatDoor
open Go Go.RowKit Go.Lib
set_option linter.unusedVariables false
set_option linter.unusedSimpArgs false
set_option maxRecDepth 100000
open Ab Sh
namespace Lw
theorem flat_rep {x : Value} (h : oneV x = true) (cx : Cx) (w : World) : VRep cx w (.t (.flat x)) x := .t _ _ (.flat _ h)
end Lw
end Go.Proofs.YtpplemjjeefpdaaGreatDoor
namespace Go.Proofs.YtpplemjjeefpdaaGreatDoor
open Go Go.RowKit
set_option linter.unusedVariables false
set_option linter.unusedSimpArgs false
set_option maxRecDepth 100000
set_option maxHeartbeats 4000000
open Ab Sh
namespace Gn
def r22_bad_s (R : RF) (r : GMatcher × Int × GFault) : V := .tup [.agg [fS r.1.Name, fI .i64 r.1.Op, fS r.1.Value], fI .i64 r.2.1, .agg [fI .i64 r.2.2.E, fI .i64 r.2.2.At]]
def r22_bad_g (p0 : Int) (p1 : Int) : Option (GMatcher × Int × GFault) :=
 some ((⟨ByteArray.empty, 0, ByteArray.empty⟩ : GMatcher), 0, (⟨p0, p1⟩ : GFault))
def r09_Signs_s (R : RF) (r : Int) : V := fI .i64 r
def r09_Signs_l1 (p0 : ByteArray) (p1 : Int) : Nat → Int → Option Int
| 0, _ => none
| m + 1, v1 =>
 (cond (cm .lss (ar .add .i64 p1 v1) (sl p0))
 (cond (sinB p0 (ar .add .i64 p1 v1)) ((r09_sign_g (sa p0 (ar .add .i64 p1 v1)) (cm .eql v1 0)).bind fun a2 =>
 some a2) none)
 (some false) : Option Bool).bind fun j1 =>
 cond (j1)
 ((r09_Signs_l1 p0 p1 m) (ar .add .i64 v1 1))
 (some v1)
def r09_Signs_g (N : Nat) (p0 : ByteArray) (p1 : Int) : Option Int :=
 r09_Signs_l1 p0 p1 N 0
def r22_is_s (R : RF) (r : Bool) : V := fB r
def r22_is_g (p0 : ByteArray) (p1 : Int) (p2 : Int) : Option Bool :=
 (cond (cm .lss p1 (sl p0))
 (cond (sinB p0 p1) (some (cm .eql (sa p0 p1) p2)) none)
 (some false) : Option Bool).bind fun j1 =>
 some j1
def r22_Op_s (R : RF) (r : Int) : V := fI .i64 r
def r22_Op_g (p0 : ByteArray) (p1 : Int) : Option Int :=
 ((r22_is_g p0 p1 61).bind fun a1 =>
 cond (a1)
 ((r22_is_g p0 (ar .add .i64 p1 1) 126).bind fun a2 =>
 some a2)
 (some false) : Option Bool).bind fun j1 =>
 cond (j1)
 (some 3)
 ((r22_is_g p0 p1 61).bind fun a3 =>
 cond (a3)
 (some 1)
 (((r22_is_g p0 p1 33).bind fun a4 =>
 cond (a4)
 ((r22_is_g p0 (ar .add .i64 p1 1) 61).bind fun a5 =>
 some a5)
 (some false) : Option Bool).bind fun j2 =>
 cond (j2)
 (some 2)
 (((r22_is_g p0 p1 33).bind fun a6 =>
 cond (a6)
 ((r22_is_g p0 (ar .add .i64 p1 1) 126).bind fun a7 =>
 some a7)
 (some false) : Option Bool).bind fun j3 =>
 cond (j3)
 (some 4)
 (some 0))))
def r22_Sign_s (R : RF) (r : ByteArray) : V := fS r
def r22_Sign_g (p0 : Int) : Option ByteArray :=
 cond (cm .eql p0 1)
 (some (ByteArray.mk #[61]))
 (cond (cm .eql p0 2)
 (some (ByteArray.mk #[33, 61]))
 (cond (cm .eql p0 3)
 (some (ByteArray.mk #[61, 126]))
 (cond (cm .eql p0 4)
 (some (ByteArray.mk #[33, 126]))
 (some (ByteArray.mk #[63])))))
def r10_digit_s (R : RF) (r : Int) : V := fI .i64 r
def r10_digit_g (p0 : Int) : Option Int :=
 (cond (cm .geq p0 48)
 (some (cm .leq p0 57))
 (some false) : Option Bool).bind fun j1 =>
 cond (j1)
 (some (ar .sub .i64 (cv .i64 p0) 48))
 ((cond (cm .geq p0 97)
 (some (cm .leq p0 102))
 (some false) : Option Bool).bind fun j2 =>
 cond (j2)
 (some (ar .sub .i64 (cv .i64 p0) 87))
 (some (-1)))
def r02_Byte_s (R : RF) (r : ByteArray) : V := fS r
def r02_Byte_g (p0 : Int) : Option ByteArray :=
 (some [cv .u8 p0]).bind fun l1 =>
 (strB l1).bind fun s2 =>
 some s2
def r10_Escape_s (R : RF) (r : ByteArray × Int) : V := .tup [fS r.1, fI .i64 r.2]
def r10_Escape_g (p0 : ByteArray) (p1 : Int) : Option (ByteArray × Int) :=
 cond (cm .lss (ar .sub .i64 (sl p0) p1) 2)
 (some (ByteArray.empty, (-1)))
 ((cond (sinB p0 (ar .add .i64 p1 1)) (cond (cm .eql (sa p0 (ar .add .i64 p1 1)) 34)
 (some true)
 (cond (sinB p0 (ar .add .i64 p1 1)) (some (cm .eql (sa p0 (ar .add .i64 p1 1)) 92)) none)) none : Option Bool).bind fun j1 =>
 cond (j1)
 (cond (ssinB p0 (ar .add .i64 p1 1) (ar .add .i64 p1 2)) (some (ss p0 (ar .add .i64 p1 1) (ar .add .i64 p1 2), 2)) none)
 (cond (sinB p0 (ar .add .i64 p1 1)) (cond (cm .neq (sa p0 (ar .add .i64 p1 1)) 120)
 (some (ByteArray.empty, 0))
 (cond (cm .lss (ar .sub .i64 (sl p0) p1) 3)
 (some (ByteArray.empty, (-1)))
 (cond (sinB p0 (ar .add .i64 p1 2)) ((r10_digit_g (sa p0 (ar .add .i64 p1 2))).bind fun a1 =>
 cond (cm .lss a1 0)
 (some (ByteArray.empty, 0))
 (cond (cm .lss (ar .sub .i64 (sl p0) p1) 4)
 (some (ByteArray.empty, (-1)))
 (cond (sinB p0 (ar .add .i64 p1 3)) ((r10_digit_g (sa p0 (ar .add .i64 p1 3))).bind fun a2 =>
 cond (cm .lss a2 0)
 (some (ByteArray.empty, 0))
 ((r02_Byte_g (ar .add .i64 (ar .mul .i64 16 a1) a2)).bind fun a3 =>
 some (a3, 4))) none))) none))) none))
def r10_trail_s (R : RF) (r : Bool) : V := fB r
def r10_trail_l1 (p0 : ByteArray) (p1 : Int) (p2 : Int) : Nat → Int → Option Bool
| 0, _ => none
| m + 1, v1 =>
 cond (cm .lss v1 (ar .add .i64 p1 p2))
 ((cond (sinB p0 v1) (cond (cm .lss (sa p0 v1) 128)
 (some true)
 (cond (sinB p0 v1) (some (cm .gtr (sa p0 v1) 191)) none)) none : Option Bool).bind fun j2 =>
 cond (j2)
 (some false)
 ((r10_trail_l1 p0 p1 p2 m) (ar .add .i64 v1 1)))
 (some true)
def r10_trail_g (N : Nat) (p0 : ByteArray) (p1 : Int) (p2 : Int) : Option Bool :=
 cond (cm .gtr p2 (ar .sub .i64 (sl p0) p1))
 (some false)
 (r10_trail_l1 p0 p1 p2 N p1)
def r10_Rune_s (R : RF) (r : Int) : V := fI .i64 r
def r10_Rune_g (N : Nat) (p0 : ByteArray) (p1 : Int) : Option Int :=
 cond (sinB p0 p1) (cond (cm .lss (cv .i64 (sa p0 p1)) 128)
 (some 1)
 ((cond (cm .lss (ar .add .i64 p1 1) (sl p0))
 (cond (sinB p0 (ar .add .i64 p1 1)) (some (cv .i64 (sa p0 (ar .add .i64 p1 1)))) none)
 (some 0) : Option Int).bind fun j1 =>
 (cond (cm .geq (cv .i64 (sa p0 p1)) 194)
 (cond (cm .leq (cv .i64 (sa p0 p1)) 223)
 ((r10_trail_g N p0 (ar .add .i64 p1 1) 1).bind fun a1 =>
 some a1)
 (some false))
 (some false) : Option Bool).bind fun j2 =>
 cond (j2)
 (some 2)
 ((cond (cm .geq (cv .i64 (sa p0 p1)) 224)
 (cond (cm .leq (cv .i64 (sa p0 p1)) 239)
 ((r10_trail_g N p0 (ar .add .i64 p1 1) 2).bind fun a2 =>
 cond (a2)
 (cond (cm .neq (cv .i64 (sa p0 p1)) 224)
 (cond (cm .neq (cv .i64 (sa p0 p1)) 237)
 (some true)
 (some (cm .lss j1 160)))
 (cond (cm .geq j1 160)
 (cond (cm .neq (cv .i64 (sa p0 p1)) 237)
 (some true)
 (some (cm .lss j1 160)))
 (some false)))
 (some false))
 (some false))
 (some false) : Option Bool).bind fun j3 =>
 cond (j3)
 (some 3)
 ((cond (cm .geq (cv .i64 (sa p0 p1)) 240)
 (cond (cm .leq (cv .i64 (sa p0 p1)) 244)
 ((r10_trail_g N p0 (ar .add .i64 p1 1) 3).bind fun a3 =>
 cond (a3)
 (cond (cm .neq (cv .i64 (sa p0 p1)) 240)
 (cond (cm .neq (cv .i64 (sa p0 p1)) 244)
 (some true)
 (some (cm .lss j1 144)))
 (cond (cm .geq j1 144)
 (cond (cm .neq (cv .i64 (sa p0 p1)) 244)
 (some true)
 (some (cm .lss j1 144)))
 (some false)))
 (some false))
 (some false))
 (some false) : Option Bool).bind fun j4 =>
 cond (j4)
 (some 4)
 (some 0))))) none
def r10_safe_s (R : RF) (r : Bool) : V := fB r
def r10_safe_g (N : Nat) (p0 : ByteArray) (p1 : Int) : Option Bool :=
 ((r10_Rune_g N p0 p1).bind fun a1 =>
 cond (cm .gtr a1 0)
 (cond (sinB p0 p1) (cond (cm .geq (sa p0 p1) 32)
 (cond (sinB p0 p1) (some (cm .neq (sa p0 p1) 127)) none)
 (some false)) none)
 (some false) : Option Bool).bind fun j1 =>
 some j1
def r10_Read_s (R : RF) (r : ByteArray × Int × GFault) : V := .tup [fS r.1, fI .i64 r.2.1, .agg [fI .i64 r.2.2.E, fI .i64 r.2.2.At]]
def r10_Read_l1 (N : Nat) (p0 : ByteArray) : Nat → ByteArray → Int → Option (ByteArray × Int × GFault)
| 0, _, _ => none
| m + 1, v1, v2 =>
 cond (cm .lss v2 (sl p0))
 (cond (sinB p0 v2) (cond (cm .eql (sa p0 v2) 34)
 (some (v1, ar .add .i64 v2 1, (⟨0, 0⟩ : GFault)))
 (cond (ssinB p0 v2 v2) (cond (sinB p0 v2) ((cond (cm .eql (sa p0 v2) 92)
 ((r10_Escape_g p0 v2).bind fun a3 =>
 some (a3.1, a3.2))
 ((r10_safe_g N p0 v2).bind fun a4 =>
 (cond (a4)
 ((r10_Rune_g N p0 v2).bind fun a5 =>
 cond (ssinB p0 v2 (ar .add .i64 v2 a5)) (some (ss p0 v2 (ar .add .i64 v2 a5), a5)) none)
 (some (ss p0 v2 v2, 0)) : Option (ByteArray × Int)).bind fun j4 =>
 some (j4.1, j4.2)) : Option (ByteArray × Int)).bind fun j5 =>
 cond (cm .lss j5.2 0)
 (some (ByteArray.empty, 0, (⟨1, sl p0⟩ : GFault)))
 (cond (cm .eql j5.2 0)
 (some (ByteArray.empty, 0, (⟨2, v2⟩ : GFault)))
 (cond (ctB v1 j5.1) ((r10_Read_l1 N p0 m) (ct v1 j5.1) (ar .add .i64 v2 j5.2)) none))) none) none)) none)
 (some (ByteArray.empty, 0, (⟨1, sl p0⟩ : GFault)))
def r10_Read_g (N : Nat) (p0 : ByteArray) (p1 : Int) : Option (ByteArray × Int × GFault) :=
 (cond (cm .lss p1 0)
 (some true)
 (some (cm .gtr p1 (sl p0))) : Option Bool).bind fun j1 =>
 cond (j1)
 (some (ByteArray.empty, 0, (⟨7, 0⟩ : GFault)))
 (cond (cm .eql p1 (sl p0))
 (some (ByteArray.empty, 0, (⟨1, p1⟩ : GFault)))
 (cond (sinB p0 p1) (cond (cm .neq (sa p0 p1) 34)
 (some (ByteArray.empty, 0, (⟨2, p1⟩ : GFault)))
 (r10_Read_l1 N p0 N ByteArray.empty (ar .add .i64 p1 1))) none))
def r22_Take_s (R : RF) (r : GMatcher × Int × GFault) : V := .tup [.agg [fS r.1.Name, fI .i64 r.1.Op, fS r.1.Value], fI .i64 r.2.1, .agg [fI .i64 r.2.2.E, fI .i64 r.2.2.At]]
def r22_Take_g (N : Nat) (p0 : ByteArray) (p1 : Int) : Option (GMatcher × Int × GFault) :=
 (cond (cm .lss p1 0)
 (some true)
 (some (cm .gtr p1 (sl p0))) : Option Bool).bind fun j1 =>
 cond (j1)
 ((r22_bad_g 7 0).bind fun a1 =>
 some (a1.1, a1.2.1, a1.2.2))
 (cond (cm .eql p1 (sl p0))
 ((r22_bad_g 1 p1).bind fun a2 =>
 some (a2.1, a2.2.1, a2.2.2))
 ((r09_Signs_g N p0 p1).bind fun a3 =>
 (cond (cm .lss a3 1)
 (some true)
 (some (cm .gtr a3 32)) : Option Bool).bind fun j2 =>
 cond (j2)
 ((r22_bad_g 4 p1).bind fun a4 =>
 some (a4.1, a4.2.1, a4.2.2))
 ((r22_Op_g p0 (ar .add .i64 p1 a3)).bind fun a5 =>
 (cond (cm .eql a5 0)
 (some (cm .eql (ar .add .i64 p1 a3) (sl p0)))
 (some false) : Option Bool).bind fun j3 =>
 cond (j3)
 ((r22_bad_g 1 (ar .add .i64 p1 a3)).bind fun a6 =>
 some (a6.1, a6.2.1, a6.2.2))
 ((cond (cm .eql a5 0)
 ((r22_is_g p0 (ar .add .i64 p1 a3) 33).bind fun a7 =>
 cond (a7)
 (some (cm .eql (ar .add .i64 (ar .add .i64 p1 a3) 1) (sl p0)))
 (some false))
 (some false) : Option Bool).bind fun j4 =>
 cond (j4)
 ((r22_bad_g 1 (ar .add .i64 (ar .add .i64 p1 a3) 1)).bind fun a8 =>
 some (a8.1, a8.2.1, a8.2.2))
 (cond (cm .eql a5 0)
 ((r22_bad_g 2 (ar .add .i64 p1 a3)).bind fun a9 =>
 some (a9.1, a9.2.1, a9.2.2))
 ((r22_Sign_g a5).bind fun a10 =>
 (r10_Read_g N p0 (ar .add .i64 (ar .add .i64 p1 a3) (sl a10))).bind fun a11 =>
 cond (cm .neq a11.2.2.E 0)
 ((r22_bad_g a11.2.2.E a11.2.2.At).bind fun a12 =>
 some (a12.1, a12.2.1, a12.2.2))
 (cond (ssinB p0 p1 (ar .add .i64 p1 a3)) ((r22_Right_g N (⟨ss p0 p1 (ar .add .i64 p1 a3), a5, a11.1⟩ : GMatcher)).bind fun a13 =>
 cond (cm .neq a13 0)
 ((r22_Right_g N (⟨ss p0 p1 (ar .add .i64 p1 a3), a5, a11.1⟩ : GMatcher)).bind fun a14 =>
 (r22_bad_g a14 (ar .add .i64 (ar .add .i64 p1 a3) (sl a10))).bind fun a15 =>
 some (a15.1, a15.2.1, a15.2.2))
 (some ((⟨ss p0 p1 (ar .add .i64 p1 a3), a5, a11.1⟩ : GMatcher), a11.2.1, (⟨0, 0⟩ : GFault)))) none)))))))
def r10_Unit_s (R : RF) (r : Int) : V := fI .i64 r
def r10_Unit_g (N : Nat) (p0 : ByteArray) (p1 : Int) : Option Int :=
 (cond (cm .lss p1 0)
 (some true)
 (some (cm .geq p1 (sl p0))) : Option Bool).bind fun j1 =>
 cond (j1)
 (some 0)
 ((r10_Rune_g N p0 p1).bind fun a1 =>
 cond (cm .eql a1 0)
 (some 1)
 (some a1))
def r02_Hex_s (R : RF) (r : ByteArray) : V := fS r
def r02_Hex_l1 (p0 : ByteArray) : Nat → ByteArray → Int → Option ByteArray
| 0, _, _ => none
| m + 1, v1, v2 =>
 cond (cm .lss v2 (sl p0))
 (cond (sinB p0 v2) (cond (ne0B 16) (cond (sinB p0 v2) (cond (ne0B 16) (cond (ssinB (ByteArray.mk #[48, 49, 50, 51, 52, 53, 54, 55, 56, 57, 97, 98, 99, 100, 101, 102]) (ar .quo .i64 (cv .i64 (sa p0 v2)) 16) (ar .add .i64 (ar .quo .i64 (cv .i64 (sa p0 v2)) 16) 1)) (cond (ctB v1 (ss (ByteArray.mk #[48, 49, 50, 51, 52, 53, 54, 55, 56, 57, 97, 98, 99, 100, 101, 102]) (ar .quo .i64 (cv .i64 (sa p0 v2)) 16) (ar .add .i64 (ar .quo .i64 (cv .i64 (sa p0 v2)) 16) 1))) (cond (ssinB (ByteArray.mk #[48, 49, 50, 51, 52, 53, 54, 55, 56, 57, 97, 98, 99, 100, 101, 102]) (ar .rem .i64 (cv .i64 (sa p0 v2)) 16) (ar .add .i64 (ar .rem .i64 (cv .i64 (sa p0 v2)) 16) 1)) (cond (ctB (ct v1 (ss (ByteArray.mk #[48, 49, 50, 51, 52, 53, 54, 55, 56, 57, 97, 98, 99, 100, 101, 102]) (ar .quo .i64 (cv .i64 (sa p0 v2)) 16) (ar .add .i64 (ar .quo .i64 (cv .i64 (sa p0 v2)) 16) 1))) (ss (ByteArray.mk #[48, 49, 50, 51, 52, 53, 54, 55, 56, 57, 97, 98, 99, 100, 101, 102]) (ar .rem .i64 (cv .i64 (sa p0 v2)) 16) (ar .add .i64 (ar .rem .i64 (cv .i64 (sa p0 v2)) 16) 1))) ((r02_Hex_l1 p0 m) (ct (ct v1 (ss (ByteArray.mk #[48, 49, 50, 51, 52, 53, 54, 55, 56, 57, 97, 98, 99, 100, 101, 102]) (ar .quo .i64 (cv .i64 (sa p0 v2)) 16) (ar .add .i64 (ar .quo .i64 (cv .i64 (sa p0 v2)) 16) 1))) (ss (ByteArray.mk #[48, 49, 50, 51, 52, 53, 54, 55, 56, 57, 97, 98, 99, 100, 101, 102]) (ar .rem .i64 (cv .i64 (sa p0 v2)) 16) (ar .add .i64 (ar .rem .i64 (cv .i64 (sa p0 v2)) 16) 1))) (ar .add .i64 v2 1)) none) none) none) none) none) none) none) none)
 (some v1)
def r02_Hex_g (N : Nat) (p0 : ByteArray) : Option ByteArray :=
 r02_Hex_l1 p0 N ByteArray.empty 0
def r10_Text_s (R : RF) (r : ByteArray) : V := fS r
def r10_Text_l1 (N : Nat) (p0 : ByteArray) : Nat → ByteArray → Int → Option ByteArray
| 0, _, _ => none
| m + 1, v1, v2 =>
 cond (cm .lss v2 (sl p0))
 ((r10_Unit_g N p0 v2).bind fun a3 =>
 (cond (sinB p0 v2) (cond (cm .eql (sa p0 v2) 34)
 (some true)
 (cond (sinB p0 v2) (some (cm .eql (sa p0 v2) 92)) none)) none : Option Bool).bind fun j1 =>
 (cond (j1)
 (cond (ctB v1 (ByteArray.mk #[92])) (cond (ssinB p0 v2 (ar .add .i64 v2 1)) (cond (ctB (ct v1 (ByteArray.mk #[92])) (ss p0 v2 (ar .add .i64 v2 1))) (some (ct (ct v1 (ByteArray.mk #[92])) (ss p0 v2 (ar .add .i64 v2 1)))) none) none) none)
 ((r10_safe_g N p0 v2).bind fun a4 =>
 (cond (a4)
 (cond (ssinB p0 v2 (ar .add .i64 v2 a3)) (cond (ctB v1 (ss p0 v2 (ar .add .i64 v2 a3))) (some (ct v1 (ss p0 v2 (ar .add .i64 v2 a3)))) none) none)
 (cond (ctB v1 (ByteArray.mk #[92, 120])) (cond (ssinB p0 v2 (ar .add .i64 v2 1)) ((r02_Hex_g N (ss p0 v2 (ar .add .i64 v2 1))).bind fun a5 =>
 cond (ctB (ct v1 (ByteArray.mk #[92, 120])) a5) (some (ct (ct v1 (ByteArray.mk #[92, 120])) a5)) none) none) none) : Option ByteArray).bind fun j2 =>
 some j2) : Option ByteArray).bind fun j3 =>
 (r10_Text_l1 N p0 m) j3 (ar .add .i64 v2 a3))
 (cond (ctB v1 (ByteArray.mk #[34])) (some (ct v1 (ByteArray.mk #[34]))) none)
def r10_Text_g (N : Nat) (p0 : ByteArray) : Option ByteArray :=
 r10_Text_l1 N p0 N (ByteArray.mk #[34]) 0
def r22_Text_s (R : RF) (r : ByteArray) : V := fS r
def r22_Text_g (N : Nat) (p0 : GMatcher) : Option ByteArray :=
 (r22_Sign_g p0.Op).bind fun a1 =>
 cond (ctB p0.Name a1) ((r10_Text_g N p0.Value).bind fun a2 =>
 cond (ctB (ct p0.Name a1) a2) (some (ct (ct p0.Name a1) a2)) none) none
end Gn
end Go.Proofs.YtpplemjjeefpdaaGreatDoor
namespace Go.Proofs.YtpplemjjeefpdaaGreatDoor
open Go Go.Lib
namespace Qu
theorem decode_rune (n b0 b1 b2 b3 : Nat) (h0 : b0 < 256) (h1 : b1 < 256) (h2 : b2 < 256) (h3 : b3 < 256) :
    (runeN n b0 b1 b2 b3 = 0 ∧ decodeN n b0 b1 b2 b3 = (65533, 1)) ∨ (runeN n b0 b1 b2 b3 = 1 ∧ b0 < 128 ∧ decodeN n b0 b1 b2 b3 = (b0, 1)) ∨
    (2 ≤ runeN n b0 b1 b2 b3 ∧ 128 ≤ b0 ∧ 128 ≤ (decodeN n b0 b1 b2 b3).1 ∧ (decodeN n b0 b1 b2 b3).2 = runeN n b0 b1 b2 b3) := by
  by_cases c1 : b0 < 128
  · right; left
    exact ⟨by unfold runeN; rw [if_pos c1], c1, by unfold decodeN; rw [if_pos c1]⟩
  by_cases c2 : 194 ≤ b0 ∧ b0 ≤ 223 ∧ 1 < n ∧ 128 ≤ b1 ∧ b1 ≤ 191
  · right; right
    have e1 : runeN n b0 b1 b2 b3 = 2 := by unfold runeN; rw [if_neg c1, if_pos c2]
    have e2 : decodeN n b0 b1 b2 b3 = (b0 % 32 * 64 + b1 % 64, 2) := by
      unfold decodeN
      rw [if_neg c1, if_pos (by omega), if_pos (by omega)]
    rw [e1, e2]
    exact ⟨by omega, by omega, by dsimp only; omega, rfl⟩
  by_cases c3 : 224 ≤ b0 ∧ b0 ≤ 239 ∧ (2 < n ∧ 128 ≤ b1 ∧ b1 ≤ 191 ∧ 128 ≤ b2 ∧ b2 ≤ 191) ∧ (b0 ≠ 224 ∨ 160 ≤ b1) ∧ (b0 ≠ 237 ∨ b1 < 160)
  · right; right
    have e1 : runeN n b0 b1 b2 b3 = 3 := by unfold runeN; rw [if_neg c1, if_neg c2, if_pos c3]
    have e2 : decodeN n b0 b1 b2 b3 = (b0 % 16 * 4096 + b1 % 64 * 64 + b2 % 64, 3) := by
      unfold decodeN
      rw [if_neg c1, if_neg (by omega), if_pos (by omega), if_pos (by omega)]
    rw [e1, e2]
    exact ⟨by omega, by omega, by dsimp only; omega, rfl⟩
  by_cases c4 : 240 ≤ b0 ∧ b0 ≤ 244 ∧ (3 < n ∧ 128 ≤ b1 ∧ b1 ≤ 191 ∧ 128 ≤ b2 ∧ b2 ≤ 191 ∧ 128 ≤ b3 ∧ b3 ≤ 191) ∧ (b0 ≠ 240 ∨ 144 ≤ b1) ∧ (b0 ≠ 244 ∨ b1 < 144)
  · right; right
    have e1 : runeN n b0 b1 b2 b3 = 4 := by unfold runeN; rw [if_neg c1, if_neg c2, if_neg c3, if_pos c4]
    have e2 : decodeN n b0 b1 b2 b3 = (b0 % 8 * 262144 + b1 % 64 * 4096 + b2 % 64 * 64 + b3 % 64, 4) := by
      unfold decodeN
      rw [if_neg c1, if_neg (by omega), if_neg (by omega), if_pos (by omega), if_pos (by omega)]
    rw [e1, e2]
    exact ⟨by omega, by omega, by dsimp only; omega, rfl⟩
  · left
    refine ⟨by unfold runeN; rw [if_neg c1, if_neg c2, if_neg c3, if_neg c4], ?_⟩
    unfold decodeN
    rw [if_neg c1]
    by_cases d2 : b0 / 32 = 6 ∧ (1 < n ∧ b1 / 64 = 2)
    · rw [if_pos d2, if_neg (by omega)]
    rw [if_neg d2]
    by_cases d3 : b0 / 16 = 14 ∧ (1 < n ∧ b1 / 64 = 2) ∧ (2 < n ∧ b2 / 64 = 2)
    · rw [if_pos d3, if_neg (by omega)]
    rw [if_neg d3]
    by_cases d4 : b0 / 8 = 30 ∧ (1 < n ∧ b1 / 64 = 2) ∧ (2 < n ∧ b2 / 64 = 2) ∧ (3 < n ∧ b3 / 64 = 2)
    · rw [if_pos d4, if_neg (by omega)]
    rw [if_neg d4]
theorem unit_pos (l : List UInt8) (i : Nat) : 1 ≤ unit l i := by unfold unit; split <;> omega
theorem runeN_le (n b0 b1 b2 b3 : Nat) (hn : 0 < n) : runeN n b0 b1 b2 b3 ≤ n := by
  unfold runeN
  repeat' split
  all_goals omega
theorem unit_le {l : List UInt8} {i : Nat} (h : i < l.length) : i + unit l i ≤ l.length := by
  have := runeN_le (l.length - i) (bt l i) (bt l (i + 1)) (bt l (i + 2)) (bt l (i + 3)) (by omega)
  unfold unit rune
  split <;> omega
def cp (l : List UInt8) (i : Nat) : Nat := (decodeN (l.length - i) (bt l i) (bt l (i + 1)) (bt l (i + 2)) (bt l (i + 3))).1
theorem cp_unit (l : List UInt8) (i : Nat) : decodeN (l.length - i) (bt l i) (bt l (i + 1)) (bt l (i + 2)) (bt l (i + 3)) = (cp l i, unit l i) := by
  have h := decode_rune (l.length - i) (bt l i) (bt l (i + 1)) (bt l (i + 2)) (bt l (i + 3)) (bt_lt _ _) (bt_lt _ _) (bt_lt _ _) (bt_lt _ _)
  refine Prod.ext rfl ?_
  show _ = unit l i
  unfold unit rune
  rcases h with ⟨h1, h2⟩ | ⟨h1, _, h2⟩ | ⟨h1, _, _, h2⟩
  · rw [if_pos h1, h2]
  · rw [if_neg (by omega), h1, h2]
  · rw [if_neg (by omega), h2]
theorem cp_small (l : List UInt8) (i b : Nat) (hb : b < 128) : cp l i = b ↔ bt l i = b := by
  have h := decode_rune (l.length - i) (bt l i) (bt l (i + 1)) (bt l (i + 2)) (bt l (i + 3)) (bt_lt _ _) (bt_lt _ _) (bt_lt _ _) (bt_lt _ _)
  unfold cp
  by_cases c : bt l i < 128
  · have e : decodeN (l.length - i) (bt l i) (bt l (i + 1)) (bt l (i + 2)) (bt l (i + 3)) = (bt l i, 1) := by unfold decodeN; rw [if_pos c]
    rw [e]
  · rcases h with ⟨h1, h2⟩ | ⟨h1, h3, h2⟩ | ⟨h1, h3, h4, h2⟩
    · rw [h2]; dsimp only; omega
    · omega
    · omega
theorem plain_safe (l : List UInt8) (i : Nat) : (32 ≤ cp l i ∧ cp l i ≠ 127 ∧ (cp l i ≠ 65533 ∨ 1 < unit l i)) ↔ safe l i = true := by
  have h := decode_rune (l.length - i) (bt l i) (bt l (i + 1)) (bt l (i + 2)) (bt l (i + 3)) (bt_lt _ _) (bt_lt _ _) (bt_lt _ _) (bt_lt _ _)
  have hu := cp_unit l i
  have e : cp l i = (decodeN (l.length - i) (bt l i) (bt l (i + 1)) (bt l (i + 2)) (bt l (i + 3))).1 := rfl
  unfold safe unit rune
  simp only [Bool.and_eq_true, decide_eq_true_eq]
  rcases h with ⟨h1, h2⟩ | ⟨h1, h3, h2⟩ | ⟨h1, h3, h4, h2⟩
  · rw [e, h2, h1]; simp
  · rw [e, h2, h1]; simp; omega
  · rw [e, if_neg (by omega)]
    constructor
    · rintro ⟨a, b, c⟩; exact ⟨⟨by omega, by omega⟩, by omega⟩
    · rintro ⟨⟨a, b⟩, c⟩; exact ⟨by omega, by omega, Or.inr (by omega)⟩
theorem encs_fuel (l : List UInt8) : ∀ (f g i : Nat), l.length < i + f → l.length < i + g → encs l f i = encs l g i
  | 0, 0, _, _, _ => rfl
  | 0, g + 1, i, h, _ => by rw [encs, encs, if_neg (by omega)]
  | f + 1, 0, i, _, h => by rw [encs, encs, if_neg (by omega)]
  | f + 1, g + 1, i, h, h' => by
    rw [encs, encs]
    by_cases c : i < l.length
    · rw [if_pos c, if_pos c, encs_fuel l f g (i + unit l i) (by have := unit_pos l i; omega) (by have := unit_pos l i; omega)]
    · rw [if_neg c, if_neg c]
theorem rest_in {l : List UInt8} {i : Nat} (h : i < l.length) : rest l i = enc l i ++ rest l (i + unit l i) := by
  have hp := unit_pos l i
  unfold rest
  rw [encs, if_pos h, encs_fuel l l.length (l.length + 1) _ (by omega) (by omega)]
theorem rest_end {l : List UInt8} {i : Nat} (h : l.length ≤ i) : rest l i = [] := by unfold rest; rw [encs, if_neg (by omega)]
theorem text_eq (l : List UInt8) : text l = 34 :: (rest l 0 ++ [34]) := rfl
theorem esc_two {l : List UInt8} {i b n : Nat} (h : esc l i = .ok b n) : 2 ≤ n ∧ i + n ≤ l.length ∧ b < 256 := by
  have h1 := bt_lt l (i + 1)
  have hd : ∀ b, dig b ≤ 16 := fun b => by unfold dig; (repeat' split) <;> omega
  have h2 := hd (bt l (i + 2))
  have h3 := hd (bt l (i + 3))
  unfold esc at h
  (repeat' split at h) <;> first | (cases h; done) | (obtain ⟨rfl, rfl⟩ := Esc.ok.inj h; omega)
theorem un_pos {l : List UInt8} {i n : Nat} {t : List UInt8} (hi : i < l.length) (h : un l i = .ok t n) : 1 ≤ n ∧ i + n ≤ l.length := by
  unfold un at h
  split at h
  · cases he : esc l i with
    | ok b m =>
      rw [he] at h
      obtain ⟨rfl, rfl⟩ := Un.ok.inj h
      have := esc_two he
      omega
    | bad e => rw [he] at h; cases h
  · split at h
    · obtain ⟨rfl, rfl⟩ := Un.ok.inj h
      exact ⟨unit_pos l i, unit_le hi⟩
    · cases h
theorem body_fuel (l : List UInt8) : ∀ (f g : Nat) (out : List UInt8) (i : Nat), l.length < i + f → l.length < i + g → body l f out i = body l g out i
  | 0, 0, _, _, _, _ => rfl
  | 0, g + 1, out, i, h, _ => by rw [body, body, if_neg (by omega)]
  | f + 1, 0, out, i, _, h => by rw [body, body, if_neg (by omega)]
  | f + 1, g + 1, out, i, h, h' => by
    rw [body, body]
    by_cases c : i < l.length
    · rw [if_pos c, if_pos c]
      by_cases d : bt l i = 34
      · rw [if_pos d, if_pos d]
      · rw [if_neg d, if_neg d]
        cases hu : un l i with
        | ok t n =>
          have := un_pos c hu
          exact body_fuel l f g (out ++ t) (i + n) (by omega) (by omega)
        | bad e p => rfl
    · rw [if_neg c, if_neg c]
theorem go_in {l out : List UInt8} {i : Nat} (h : i < l.length) : go l out i = if bt l i = 34 then .ok out (i + 1) else match un l i with | .ok t n => go l (out ++ t) (i + n) | .bad e p => .bad e p := by
  unfold go
  rw [body, if_pos h]
  split
  · rfl
  · cases hu : un l i with
    | ok t n =>
      have := un_pos h hu
      exact body_fuel l l.length (l.length + 1) _ _ (by omega) (by omega)
    | bad e p => rfl
theorem go_end {l out : List UInt8} {i : Nat} (h : l.length ≤ i) : go l out i = .bad 1 l.length := by unfold go; rw [body, if_neg (by omega)]
end Qu
end Go.Proofs.YtpplemjjeefpdaaGreatDoor
namespace Go.Proofs.YtpplemjjeefpdaaGreatDoor
open Go Go.Lib
namespace Qu
theorem bt_drop (l : List UInt8) (p j : Nat) : bt l (p + j) = bt (l.drop p) j := by unfold bt; rw [List.getElem?_drop]
theorem take_byte {l : List UInt8} {i : Nat} (h : i < l.length) : (l.drop i).take 1 = [UInt8.ofNat (bt l i)] := by
  have e : bt l i = l[i].toNat := by unfold bt; rw [List.getElem?_eq_getElem h]
  rw [e, List.drop_eq_getElem_cons h]
  show [l[i]] = _
  simp
end Qu
end Go.Proofs.YtpplemjjeefpdaaGreatDoor
namespace Go.Proofs.YtpplemjjeefpdaaGreatDoor
open Go
set_option linter.unusedVariables false
set_option linter.unusedSimpArgs false
set_option maxRecDepth 10000
open Sh Gn
namespace Pl
section
variable {s : ByteArray} {i : Nat}
theorem get_bt : (s.get! i).toNat = Qu.bt s.data.toList i := by
  unfold Qu.bt
  rw [Array.getElem?_toList]
  show (s.data[i]!).toNat = _
  rw [getElem!_def]
  cases s.data[i]? <;> rfl
theorem ss_list {j : Nat} (h : i ≤ j) (hj : j ≤ s.size) : (ss s i j).data.toList = (s.data.toList.drop i).take (j - i) := by
  show (s.extract _ _).data.toList = _
  rw [Int.toNat_natCast, Int.toNat_natCast, ByteArray.data_extract, Array.toList_extract, List.extract]
theorem ss_end (hj : i ≤ s.size) : (ss s i (sl s)).data.toList = s.data.toList.drop i := by
  rw [sl_eq, ss_list hj (Nat.le_refl _), List.take_of_length_le (by rw [List.length_drop, size_list]; exact Nat.le_refl _)]
theorem size_end (hj : i ≤ s.size) : (ss s i (sl s)).size = s.size - i := by
  rw [← size_list, ss_end hj, List.length_drop, size_list]
theorem ssin_end (hj : i ≤ s.size) : ssinB s i (sl s) = true := by simp [ssinB, sl_eq]; omega
theorem ssin_nat {j : Nat} (h : i ≤ j) (hj : j ≤ s.size) : ssinB s i j = true := by simp [ssinB]; omega
theorem dec_cp (h : i < s.size) : utf8_Decode_g (ss s i (sl s)) = some ((Qu.cp s.data.toList i : Int), (Qu.unit s.data.toList i : Int)) := by
  have hz := size_end (s := s) (i := i) (by omega)
  have hb : ∀ j, (((ss s i (sl s))).get! j).toNat = Qu.bt s.data.toList (i + j) := fun j => by rw [get_bt, ss_end (by omega), Qu.bt_drop]
  have e : Lib.decodeGo (ss s i (sl s)) = (Qu.cp s.data.toList i, Qu.unit s.data.toList i) := by
    unfold Lib.decodeGo
    rw [if_neg (by omega), Lib.decode_at, hb, hb, hb, hb, hz, Nat.sub_zero, ← Qu.cp_unit, size_list]
    rfl
  unfold utf8_Decode_g
  rw [e]
theorem index_dig : ∀ c : Fin 256, Lib.indexByte [48, 49, 50, 51, 52, 53, 54, 55, 56, 57, 97, 98, 99, 100, 101, 102] (UInt8.ofNat c.val) = if Qu.dig c.val = 16 then -1 else (Qu.dig c.val : Int) := by decide +kernel
theorem index_p {c : Nat} (h : c < 256) : strings_IndexByte_g (ByteArray.mk #[48, 49, 50, 51, 52, 53, 54, 55, 56, 57, 97, 98, 99, 100, 101, 102]) (c : Int) = some (if Qu.dig c = 16 then -1 else (Qu.dig c : Int)) := by
  unfold strings_IndexByte_g
  rw [← index_dig ⟨c, h⟩]
  rfl
theorem dig_le (c : Nat) : Qu.dig c ≤ 16 := by unfold Qu.dig; (repeat' split) <;> omega
def escI (e : Qu.Esc) : Int × Int × Int := match e with | .ok b n => ((b : Int), (n : Int), 0) | .bad e => (0, 0, (e : Int))
theorem qesc_p {N : Nat} (hN : 20 ≤ N) (hs : s.size ≤ 100000) (hi : i ≤ s.size) : quote_escape_g N (ss s i (sl s)) = some (escI (Qu.esc s.data.toList i)) := by
  obtain ⟨N, rfl⟩ : ∃ M, N = M + 3 := ⟨N - 3, by omega⟩
  have hz := size_end (s := s) (i := i) hi
  have hb : ∀ j : Nat, sa (ss s i (sl s)) (j : Int) = (Qu.bt s.data.toList (i + j) : Int) := fun j => by rw [sa_bt, ss_end hi, Qu.bt_drop]
  have h1 := hb 1
  have h2 := hb 2
  have h3 := hb 3
  have hin : ∀ j : Nat, i + j < s.size → sinB (ss s i (sl s)) (j : Int) = true := fun j hj => sin_in (by omega)
  unfold quote_escape_g Qu.esc
  simp only [cm_lss, cm_eql, cm_neq, cond_not, cond_dec, sl_eq]
  rw [show ((ss s i s.size).size) = s.size - i from hz, size_list]
  by_cases c : s.size < i + 2
  · have c' : ((s.size - i : Nat) : Int) < 2 := by omega
    simp only [c, c', if_true]; rfl
  have c' : ¬ ((s.size - i : Nat) : Int) < 2 := by omega
  simp only [c, c', if_false]
  have i1 : sinB (ss s i (s.size : Int)) 1 = true := hin 1 (by omega)
  have h1 : sa (ss s i (s.size : Int)) 1 = (Qu.bt s.data.toList (i + 1) : Int) := h1
  simp only [i1, h1, _root_.cond_true]
  have b1 := Qu.bt_lt s.data.toList (i + 1)
  have b2 := Qu.bt_lt s.data.toList (i + 2)
  have b3 := Qu.bt_lt s.data.toList (i + 3)
  by_cases c1 : Qu.bt s.data.toList (i + 1) = 34
  · simp only [c1, true_or, if_true, Option.bind_some, _root_.cond_true]; simp; rfl
  by_cases c2 : Qu.bt s.data.toList (i + 1) = 92
  · simp only [c2, or_true, if_true]; simp; rfl
  have c1' : ¬ (Qu.bt s.data.toList (i + 1) : Int) = 34 := by omega
  have c2' : ¬ (Qu.bt s.data.toList (i + 1) : Int) = 92 := by omega
  simp only [c1, c2, c1', c2', or_false, if_false, Option.bind_some, decide_false, cond_false]
  by_cases c3 : Qu.bt s.data.toList (i + 1) = 120
  · have c3' : (Qu.bt s.data.toList (i + 1) : Int) = 120 := by omega
    simp only [c3', if_true, c3, ne_eq, not_true_eq_false, if_false]
    unfold quote_escape_l1
    simp only [cm_lss, cm_geq, cond_dec, sl_eq]
    simp only [show ((2 : Int) < 4) from by decide, if_true, show ((ss s i s.size).size) = s.size - i from hz]
    by_cases d : s.size < i + 3
    · have d' : ((s.size - i : Nat) : Int) ≤ 2 := by omega
      simp only [d, d', if_true]; rfl
    have d' : ¬ ((s.size - i : Nat) : Int) ≤ 2 := by omega
    simp only [d, d', if_false]
    have i2 : sinB (ss s i (s.size : Int)) 2 = true := hin 2 (by omega)
    have h2 : sa (ss s i (s.size : Int)) 2 = (Qu.bt s.data.toList (i + 2) : Int) := h2
    simp only [i2, h2, _root_.cond_true, index_p b2, Option.bind_some]
    have g2 := dig_le (Qu.bt s.data.toList (i + 2))
    by_cases d2 : Qu.dig (Qu.bt s.data.toList (i + 2)) = 16
    · simp only [d2, if_true]; rfl
    have d2' : ¬ (Qu.dig (Qu.bt s.data.toList (i + 2)) : Int) < 0 := by omega
    simp only [d2, d2', if_false]
    have e1 : ar .add .i64 (ar .mul .i64 16 0) (Qu.dig (Qu.bt s.data.toList (i + 2)) : Int) = (Qu.dig (Qu.bt s.data.toList (i + 2)) : Int) := by
      rw [ar_mul (by decide) (by decide), ar_add (by omega) (by omega)]; omega
    have e2 : ar .add .i64 (2 : Int) 1 = 3 := by rw [ar_add (by decide) (by decide)]; rfl
    rw [e1, e2]
    unfold quote_escape_l1
    simp only [cm_lss, cm_geq, cond_dec, sl_eq]
    simp only [show ((3 : Int) < 4) from by decide, if_true, show ((ss s i s.size).size) = s.size - i from hz]
    by_cases d : s.size < i + 4
    · have d' : ((s.size - i : Nat) : Int) ≤ 3 := by omega
      simp only [d, d', if_true]; rfl
    have d' : ¬ ((s.size - i : Nat) : Int) ≤ 3 := by omega
    simp only [d, d', if_false]
    have i3 : sinB (ss s i (s.size : Int)) 3 = true := hin 3 (by omega)
    have h3 : sa (ss s i (s.size : Int)) 3 = (Qu.bt s.data.toList (i + 3) : Int) := h3
    simp only [i3, h3, _root_.cond_true, index_p b3, Option.bind_some]
    have g3 := dig_le (Qu.bt s.data.toList (i + 3))
    by_cases d3 : Qu.dig (Qu.bt s.data.toList (i + 3)) = 16
    · simp only [d3, if_true]; rfl
    have d3' : ¬ (Qu.dig (Qu.bt s.data.toList (i + 3)) : Int) < 0 := by omega
    simp only [d3, d3', if_false]
    have e3 : ar .add .i64 (ar .mul .i64 16 (Qu.dig (Qu.bt s.data.toList (i + 2)) : Int)) (Qu.dig (Qu.bt s.data.toList (i + 3)) : Int) = ((16 * Qu.dig (Qu.bt s.data.toList (i + 2)) + Qu.dig (Qu.bt s.data.toList (i + 3)) : Nat) : Int) := by
      rw [ar_mul (by omega) (by omega), ar_add (by omega) (by omega)]; omega
    have e4 : ar .add .i64 (3 : Int) 1 = 4 := by rw [ar_add (by decide) (by decide)]; rfl
    rw [e3, e4]
    unfold quote_escape_l1
    simp only [cm_lss, cond_dec]
    simp only [show ¬ ((4 : Int) < 4) from by decide, if_false]
    show some (cv .u8 _, (4 : Int), (0 : Int)) = some (((16 * _ + _ : Nat) : Int), (4 : Int), (0 : Int))
    congr 2
    show IntKind.u8.wrap _ = _
    rw [IntKind.wrap_u8]; omega
  · have c3' : ¬ (Qu.bt s.data.toList (i + 1) : Int) = 120 := by omega
    simp only [c3', if_false, ne_eq, c3, not_false_eq_true, if_true]
    rfl
theorem plain_p : quote_plain_g (Qu.cp s.data.toList i : Int) (Qu.unit s.data.toList i : Int) = some (Qu.safe s.data.toList i) := by
  have h := Qu.plain_safe s.data.toList i
  unfold quote_plain_g
  simp only [cm_geq, cm_neq, cm_gtr, cond_not, cond_dec, bind_self]
  cases g : Qu.safe s.data.toList i with
  | true =>
    obtain ⟨h1, h2, h3⟩ := h.2 g
    rw [if_pos (by omega), if_neg (by omega)]
    by_cases c : Qu.cp s.data.toList i = 65533
    · rw [if_pos (by omega), decide_eq_true (by omega)]
    · rw [if_neg (by omega)]
  | false =>
    have hn : ¬ (32 ≤ Qu.cp s.data.toList i ∧ Qu.cp s.data.toList i ≠ 127 ∧ (Qu.cp s.data.toList i ≠ 65533 ∨ 1 < Qu.unit s.data.toList i)) := fun e => by rw [h.1 e] at g; cases g
    by_cases c1 : 32 ≤ Qu.cp s.data.toList i
    · rw [if_pos (by omega)]
      by_cases c2 : Qu.cp s.data.toList i = 127
      · rw [if_pos (by omega)]
      · rw [if_neg (by omega), if_pos (by omega), decide_eq_false (by omega)]
    · rw [if_neg (by omega)]
end
end Pl
end Go.Proofs.YtpplemjjeefpdaaGreatDoor
