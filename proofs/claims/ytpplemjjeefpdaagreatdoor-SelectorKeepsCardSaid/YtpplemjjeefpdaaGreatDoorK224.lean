/- Texts that the proof leans on. -/
import Derived.Test.YtpplemjjeefpdaaGreatDoorK223
set_option linter.unusedVariables false
set_option linter.unusedSimpArgs false
set_option maxRecDepth 100000
set_option maxHeartbeats 4000000
namespace Go.Proofs.YtpplemjjeefpdaaGreatDoor
open Go Go.RowKit
open Ab Sh
namespace Gn
def r13_join_s (R:RF) (r:Node):V:=.agg [fI .i64 r.kind,fI .u64 (r.set.a.toNat:Int),fI .u64 (r.set.b.toNat:Int),fI .u64 (r.set.c.toNat:Int),fI .u64 (r.set.d.toNat:Int),.t (.slc (R _ nodeRow r.kids)),fI .i64 r.min,fI .i64 r.max]
def r13_join_l1 (p0:Int) (p1:List Node):Nat→Int→List Node→Option Node
| 0,_,_=>none
| m+1,v1,v2=>
 cond (cm .lss v1 (ll (rw _ nodeRow p1)))
 ((at_ p1 v1).bind fun r3=>
 (cond (cm .eql r3.kind p0)
 ((at_ p1 v1).bind fun r4=>
 (app nodeRow v2 r4.kids).bind fun l5=>
 some l5)
 ((at_ p1 v1).bind fun r6=>
 (some [r6]).bind fun l7=>
 (app nodeRow v2 l7).bind fun l8=>
 some l8):Option (List Node)).bind fun j2=>
 (r13_join_l1 p0 p1 m) (ar .add .i64 v1 1) j2)
 (cond (cm .eql (ll (rw _ nodeRow v2)) 1)
 ((at_ v2 0).bind fun r9=>
 (at_ v2 0).bind fun r10=>
 some r10)
 (some (⟨p0,CSet.empty,v2,0,0⟩:Node)))
def r13_join_g (N:Nat) (p0:Int) (p1:List Node):Option Node:=
 r13_join_l1 p0 p1 N 0 []
def r13_bad_s (R:RF) (r:Gr13_P):V:=.agg [fI .i64 r.N.kind,fI .u64 (r.N.set.a.toNat:Int),fI .u64 (r.N.set.b.toNat:Int),fI .u64 (r.N.set.c.toNat:Int),fI .u64 (r.N.set.d.toNat:Int),.t (.slc (R _ nodeRow r.N.kids)),fI .i64 r.N.min,fI .i64 r.N.max,fI .u64 (r.Set.a.toNat:Int),fI .u64 (r.Set.b.toNat:Int),fI .u64 (r.Set.c.toNat:Int),fI .u64 (r.Set.d.toNat:Int),fB r.Many,fI .i64 r.At,fI .i64 r.F.E,fI .i64 r.F.At]
def r13_bad_g (p0:Int) (p1:Int):Option Gr13_P:=
 some (⟨(⟨0,CSet.empty,[],0,0⟩:Node),CSet.empty,false,0,(⟨p0,p1⟩:GFault)⟩:Gr13_P)
def r13_other_s (R:RF) (r:Gr13_P):V:=.agg [fI .i64 r.N.kind,fI .u64 (r.N.set.a.toNat:Int),fI .u64 (r.N.set.b.toNat:Int),fI .u64 (r.N.set.c.toNat:Int),fI .u64 (r.N.set.d.toNat:Int),.t (.slc (R _ nodeRow r.N.kids)),fI .i64 r.N.min,fI .i64 r.N.max,fI .u64 (r.Set.a.toNat:Int),fI .u64 (r.Set.b.toNat:Int),fI .u64 (r.Set.c.toNat:Int),fI .u64 (r.Set.d.toNat:Int),fB r.Many,fI .i64 r.At,fI .i64 r.F.E,fI .i64 r.F.At]
def r13_other_g (p0:ByteArray) (p1:Int):Option Gr13_P:=
 cond (cm .geq p1 (sl p0))
 ((r13_bad_g 1 (sl p0)).bind fun a1=>
 some a1)
 ((r13_bad_g 2 p1).bind fun a2=>
 some a2)
def r13_is_s (R:RF) (r:Bool):V:=fB r
def r13_is_g (p0:ByteArray) (p1:Int) (p2:Int):Option Bool:=
 (cond (cm .lss p1 (sl p0))
 (cond (sinB p0 p1) (some (cm .eql (sa p0 p1) p2)) none)
 (some false):Option Bool).bind fun j1=>
 some j1
def r13_among_s (R:RF) (r:Bool):V:=fB r
def r13_among_l1 (p0:Int) (p1:ByteArray):Nat→Int→Option Bool
| 0,_=>none
| m+1,v1=>
 cond (cm .lss v1 (sl p1))
 (cond (sinB p1 v1) (cond (cm .eql (sa p1 v1) p0)
 (some true)
 ((r13_among_l1 p0 p1 m) (ar .add .i64 v1 1))) none)
 (some false)
def r13_among_g (N:Nat) (p0:Int) (p1:ByteArray):Option Bool:=
 r13_among_l1 p0 p1 N 0
def r13_Digits_s (R:RF) (r:CSet):V:=.agg [fI .u64 (r.a.toNat:Int),fI .u64 (r.b.toNat:Int),fI .u64 (r.c.toNat:Int),fI .u64 (r.d.toNat:Int)]
def r13_Digits_g:Option CSet:=
 (r12_Between_g 48 57).bind fun a1=>
 some a1
def r13_Words_s (R:RF) (r:CSet):V:=.agg [fI .u64 (r.a.toNat:Int),fI .u64 (r.b.toNat:Int),fI .u64 (r.c.toNat:Int),fI .u64 (r.d.toNat:Int)]
def r13_Words_g:Option CSet:=
 (r12_Between_g 48 57).bind fun a1=>
 (r12_Between_g 65 90).bind fun a2=>
 (r12_Or_g a1 a2).bind fun a3=>
 (r12_Between_g 97 122).bind fun a4=>
 (r12_Or_g a3 a4).bind fun a5=>
 (r12_With_g a5 95).bind fun a6=>
 some a6
def r13_hex_s (R:RF) (r:Int):V:=fI .i64 r
def r13_hex_g (p0:Int):Option Int:=
 (cond (cm .geq p0 48)
 (some (cm .leq p0 57))
 (some false):Option Bool).bind fun j1=>
 cond (j1)
 (some (ar .sub .i64 (cv .i64 p0) 48))
 ((cond (cm .geq p0 97)
 (some (cm .leq p0 102))
 (some false):Option Bool).bind fun j2=>
 cond (j2)
 (some (ar .sub .i64 (cv .i64 p0) 87))
 (some (-1)))
def r13_escape_s (R:RF) (r:Gr13_P):V:=.agg [fI .i64 r.N.kind,fI .u64 (r.N.set.a.toNat:Int),fI .u64 (r.N.set.b.toNat:Int),fI .u64 (r.N.set.c.toNat:Int),fI .u64 (r.N.set.d.toNat:Int),.t (.slc (R _ nodeRow r.N.kids)),fI .i64 r.N.min,fI .i64 r.N.max,fI .u64 (r.Set.a.toNat:Int),fI .u64 (r.Set.b.toNat:Int),fI .u64 (r.Set.c.toNat:Int),fI .u64 (r.Set.d.toNat:Int),fB r.Many,fI .i64 r.At,fI .i64 r.F.E,fI .i64 r.F.At]
def r13_escape_l1 (p0:ByteArray) (p1:Int):Nat→Int→Int→Option Gr13_P
| 0,_,_=>none
| m+1,v4,v5=>
 cond (cm .lss v5 (ar .add .i64 p1 4))
 (cond (cm .geq v5 (sl p0))
 ((r13_bad_g 1 (sl p0)).bind fun a6=>
 some a6)
 (cond (sinB p0 v5) ((r13_hex_g (sa p0 v5)).bind fun a7=>
 cond (cm .lss a7 0)
 ((r13_bad_g 2 p1).bind fun a8=>
 some a8)
 (cond (sinB p0 v5) ((r13_hex_g (sa p0 v5)).bind fun a9=>
 (r13_escape_l1 p0 p1 m) (ar .add .i64 (ar .mul .i64 16 v4) a9) (ar .add .i64 v5 1)) none)) none))
 ((r12_Between_g v4 v4).bind fun a10=>
 some (⟨(⟨0,CSet.empty,[],0,0⟩:Node),a10,false,ar .add .i64 p1 4,(⟨0,0⟩:GFault)⟩:Gr13_P))
def r13_escape_g (N:Nat) (p0:ByteArray) (p1:Int):Option Gr13_P:=
 cond (cm .geq (ar .add .i64 p1 1) (sl p0))
 ((r13_bad_g 1 (sl p0)).bind fun a1=>
 some a1)
 (cond (sinB p0 (ar .add .i64 p1 1)) (cond (cm .eql (sa p0 (ar .add .i64 p1 1)) 100)
 ((r13_Digits_g).bind fun a2=>
 some (⟨(⟨0,CSet.empty,[],0,0⟩:Node),a2,true,ar .add .i64 p1 2,(⟨0,0⟩:GFault)⟩:Gr13_P))
 (cond (cm .eql (sa p0 (ar .add .i64 p1 1)) 119)
 ((r13_Words_g).bind fun a3=>
 some (⟨(⟨0,CSet.empty,[],0,0⟩:Node),a3,true,ar .add .i64 p1 2,(⟨0,0⟩:GFault)⟩:Gr13_P))
 (cond (cm .eql (sa p0 (ar .add .i64 p1 1)) 120)
 (r13_escape_l1 p0 p1 N 0 (ar .add .i64 p1 2))
 ((r13_among_g N (sa p0 (ar .add .i64 p1 1)) (ByteArray.mk #[92,46,91,93,40,41,123,125,124,42,43,63,45,94])).bind fun a11=>
 cond (a11)
 ((r12_Between_g (cv .i64 (sa p0 (ar .add .i64 p1 1))) (cv .i64 (sa p0 (ar .add .i64 p1 1)))).bind fun a12=>
 some (⟨(⟨0,CSet.empty,[],0,0⟩:Node),a12,false,ar .add .i64 p1 2,(⟨0,0⟩:GFault)⟩:Gr13_P))
 ((r13_bad_g 2 p1).bind fun a13=>
 some a13))))) none)
def r13_sign_s (R:RF) (r:Gr13_P):V:=.agg [fI .i64 r.N.kind,fI .u64 (r.N.set.a.toNat:Int),fI .u64 (r.N.set.b.toNat:Int),fI .u64 (r.N.set.c.toNat:Int),fI .u64 (r.N.set.d.toNat:Int),.t (.slc (R _ nodeRow r.N.kids)),fI .i64 r.N.min,fI .i64 r.N.max,fI .u64 (r.Set.a.toNat:Int),fI .u64 (r.Set.b.toNat:Int),fI .u64 (r.Set.c.toNat:Int),fI .u64 (r.Set.d.toNat:Int),fB r.Many,fI .i64 r.At,fI .i64 r.F.E,fI .i64 r.F.At]
def r13_sign_g (N:Nat) (p0:ByteArray) (p1:Int):Option Gr13_P:=
 (cond (cm .geq p1 (sl p0))
 (some true)
 (cond (sinB p0 p1) ((r13_among_g N (sa p0 p1) (ByteArray.mk #[91,93,45,94])).bind fun a1=>
 some a1) none):Option Bool).bind fun j1=>
 cond (j1)
 ((r13_other_g p0 p1).bind fun a2=>
 some a2)
 (cond (sinB p0 p1) (cond (cm .eql (sa p0 p1) 92)
 ((r13_escape_g N p0 p1).bind fun a3=>
 some a3)
 (cond (sinB p0 p1) (cond (sinB p0 p1) ((r12_Between_g (cv .i64 (sa p0 p1)) (cv .i64 (sa p0 p1))).bind fun a4=>
 some (⟨(⟨0,CSet.empty,[],0,0⟩:Node),a4,false,ar .add .i64 p1 1,(⟨0,0⟩:GFault)⟩:Gr13_P)) none) none)) none)
def r13_item_s (R:RF) (r:Gr13_P):V:=.agg [fI .i64 r.N.kind,fI .u64 (r.N.set.a.toNat:Int),fI .u64 (r.N.set.b.toNat:Int),fI .u64 (r.N.set.c.toNat:Int),fI .u64 (r.N.set.d.toNat:Int),.t (.slc (R _ nodeRow r.N.kids)),fI .i64 r.N.min,fI .i64 r.N.max,fI .u64 (r.Set.a.toNat:Int),fI .u64 (r.Set.b.toNat:Int),fI .u64 (r.Set.c.toNat:Int),fI .u64 (r.Set.d.toNat:Int),fB r.Many,fI .i64 r.At,fI .i64 r.F.E,fI .i64 r.F.At]
def r13_item_g (N:Nat) (p0:ByteArray) (p1:Int):Option Gr13_P:=
 (r13_sign_g N p0 p1).bind fun a1=>
 (cond (cm .neq a1.F.E 0)
 (some true)
 (cond (a1.Many)
 (some true)
 ((r13_is_g p0 a1.At 45).bind fun a2=>
 some !a2)):Option Bool).bind fun j1=>
 cond (j1)
 (some a1)
 ((r13_sign_g N p0 (ar .add .i64 a1.At 1)).bind fun a3=>
 cond (cm .neq a3.F.E 0)
 (some a3)
 ((r12_First_g a1.Set).bind fun a4=>
 (r12_First_g a3.Set).bind fun a5=>
 (cond (a3.Many)
 (some true)
 (some (cm .lss a5 a4)):Option Bool).bind fun j2=>
 cond (j2)
 ((r13_bad_g 2 (ar .add .i64 a1.At 1)).bind fun a6=>
 some a6)
 ((r12_Between_g a4 a5).bind fun a7=>
 some (⟨(⟨0,CSet.empty,[],0,0⟩:Node),a7,false,a3.At,(⟨0,0⟩:GFault)⟩:Gr13_P))))
def r13_class_s (R:RF) (r:Gr13_P):V:=.agg [fI .i64 r.N.kind,fI .u64 (r.N.set.a.toNat:Int),fI .u64 (r.N.set.b.toNat:Int),fI .u64 (r.N.set.c.toNat:Int),fI .u64 (r.N.set.d.toNat:Int),.t (.slc (R _ nodeRow r.N.kids)),fI .i64 r.N.min,fI .i64 r.N.max,fI .u64 (r.Set.a.toNat:Int),fI .u64 (r.Set.b.toNat:Int),fI .u64 (r.Set.c.toNat:Int),fI .u64 (r.Set.d.toNat:Int),fB r.Many,fI .i64 r.At,fI .i64 r.F.E,fI .i64 r.F.At]
def r13_class_l1 (N:Nat) (p0:ByteArray) (a1:Bool):Nat→Int→Int→CSet→List Node→Int→Int→CSet→Bool→Int→Int→Int→CSet→Option Gr13_P
| 0,_,_,_,_,_,_,_,_,_,_,_,_=>none
| m+1,v3,v4,v5,v6,v7,v8,v9,v10,v11,v12,v13,v14=>
 (r13_is_g p0 v3 93).bind fun a15=>
 cond (!a15)
 ((r13_item_g N p0 v3).bind fun a16=>
 cond (cm .neq a16.F.E 0)
 (some a16)
 ((r12_Or_g v14 a16.Set).bind fun a17=>
 (r13_class_l1 N p0 a1 m) a16.At a16.N.kind a16.N.set a16.N.kids a16.N.min a16.N.max a16.Set a16.Many a16.At a16.F.E a16.F.At a17))
 ((cond (a1)
 ((r12_Not_g v14).bind fun a18=>
 some a18)
 (some v14):Option CSet).bind fun j3=>
 some (⟨(⟨1,j3,[],0,0⟩:Node),CSet.empty,false,ar .add .i64 v3 1,(⟨0,0⟩:GFault)⟩:Gr13_P))
def r13_class_g (N:Nat) (p0:ByteArray) (p1:Int):Option Gr13_P:=
 (r13_is_g p0 p1 94).bind fun a1=>
 (cond (a1)
 (some (ar .add .i64 p1 1))
 (some p1):Option Int).bind fun j1=>
 (r13_item_g N p0 j1).bind fun a2=>
 cond (cm .neq a2.F.E 0)
 (some a2)
 (r13_class_l1 N p0 a1 N a2.At a2.N.kind a2.N.set a2.N.kids a2.N.min a2.N.max a2.Set a2.Many a2.At a2.F.E a2.F.At a2.Set)
def r13_rep_s (R:RF) (r:Gr13_P):V:=.agg [fI .i64 r.N.kind,fI .u64 (r.N.set.a.toNat:Int),fI .u64 (r.N.set.b.toNat:Int),fI .u64 (r.N.set.c.toNat:Int),fI .u64 (r.N.set.d.toNat:Int),.t (.slc (R _ nodeRow r.N.kids)),fI .i64 r.N.min,fI .i64 r.N.max,fI .u64 (r.Set.a.toNat:Int),fI .u64 (r.Set.b.toNat:Int),fI .u64 (r.Set.c.toNat:Int),fI .u64 (r.Set.d.toNat:Int),fB r.Many,fI .i64 r.At,fI .i64 r.F.E,fI .i64 r.F.At]
def r13_rep_g (p0:Node) (p1:Int) (p2:Int) (p3:Int):Option Gr13_P:=
 (some [p0]).bind fun l1=>
 some (⟨(⟨4,CSet.empty,l1,p1,p2⟩:Node),CSet.empty,false,p3,(⟨0,0⟩:GFault)⟩:Gr13_P)
def r13_number_s (R:RF) (r:Int × Gr13_P):V:=.tup [fI .i64 r.1,.agg [fI .i64 r.2.N.kind,fI .u64 (r.2.N.set.a.toNat:Int),fI .u64 (r.2.N.set.b.toNat:Int),fI .u64 (r.2.N.set.c.toNat:Int),fI .u64 (r.2.N.set.d.toNat:Int),.t (.slc (R _ nodeRow r.2.N.kids)),fI .i64 r.2.N.min,fI .i64 r.2.N.max,fI .u64 (r.2.Set.a.toNat:Int),fI .u64 (r.2.Set.b.toNat:Int),fI .u64 (r.2.Set.c.toNat:Int),fI .u64 (r.2.Set.d.toNat:Int),fB r.2.Many,fI .i64 r.2.At,fI .i64 r.2.F.E,fI .i64 r.2.F.At]]
def r13_number_l1 (p0:ByteArray) (p1:Int):Nat→Int→Int→Option (Int × Gr13_P)
| 0,_,_=>none
| m+1,v1,v2=>
 (cond (cm .lss v1 (sl p0))
 (cond (sinB p0 v1) (cond (cm .geq (sa p0 v1) 48)
 (cond (sinB p0 v1) (some (cm .leq (sa p0 v1) 57)) none)
 (some false)) none)
 (some false):Option Bool).bind fun j1=>
 cond (j1)
 ((cond (cm .lss v2 1000)
 (cond (sinB p0 v1) (some (ar .sub .i64 (ar .add .i64 (ar .mul .i64 10 v2) (cv .i64 (sa p0 v1))) 48)) none)
 (some v2):Option Int).bind fun j2=>
 (r13_number_l1 p0 p1 m) (ar .add .i64 v1 1) j2)
 (cond (cm .eql v1 p1)
 ((r13_other_g p0 p1).bind fun a3=>
 some (0,a3))
 ((cond (sinB p0 p1) (cond (cm .eql (sa p0 p1) 48)
 (some (cm .gtr v1 (ar .add .i64 p1 1)))
 (some false)) none:Option Bool).bind fun j3=>
 cond (j3)
 ((r13_bad_g 2 p1).bind fun a4=>
 some (0,a4))
 (cond (cm .gtr v2 16)
 ((r13_bad_g 3 p1).bind fun a5=>
 some (0,a5))
 (some (v2,(⟨(⟨0,CSet.empty,[],0,0⟩:Node),CSet.empty,false,v1,(⟨0,0⟩:GFault)⟩:Gr13_P))))))
def r13_number_g (N:Nat) (p0:ByteArray) (p1:Int):Option (Int × Gr13_P):=
 r13_number_l1 p0 p1 N p1 0
def r13_braces_s (R:RF) (r:Gr13_P):V:=.agg [fI .i64 r.N.kind,fI .u64 (r.N.set.a.toNat:Int),fI .u64 (r.N.set.b.toNat:Int),fI .u64 (r.N.set.c.toNat:Int),fI .u64 (r.N.set.d.toNat:Int),.t (.slc (R _ nodeRow r.N.kids)),fI .i64 r.N.min,fI .i64 r.N.max,fI .u64 (r.Set.a.toNat:Int),fI .u64 (r.Set.b.toNat:Int),fI .u64 (r.Set.c.toNat:Int),fI .u64 (r.Set.d.toNat:Int),fB r.Many,fI .i64 r.At,fI .i64 r.F.E,fI .i64 r.F.At]
def r13_braces_g (N:Nat) (p0:ByteArray) (p1:Node) (p2:Int):Option Gr13_P:=
 (r13_number_g N p0 (ar .add .i64 p2 1)).bind fun a1=>
 cond (cm .neq a1.2.F.E 0)
 (some a1.2)
 (((r13_is_g p0 a1.2.At 44).bind fun a2=>
 cond (a2)
 ((r13_is_g p0 (ar .add .i64 a1.2.At 1) 125).bind fun a3=>
 some a3)
 (some false):Option Bool).bind fun j1=>
 cond (j1)
 ((r13_rep_g p1 a1.1 (-1) (ar .add .i64 a1.2.At 2)).bind fun a4=>
 some a4)
 ((r13_is_g p0 a1.2.At 44).bind fun a5=>
 cond (a5)
 ((r13_number_g N p0 (ar .add .i64 a1.2.At 1)).bind fun a6=>
 cond (cm .neq a6.2.F.E 0)
 (some a6.2)
 ((cond (cm .eql a6.1 0)
 (some true)
 (some (cm .lss a6.1 a1.1)):Option Bool).bind fun j2=>
 cond (j2)
 ((r13_bad_g 2 (ar .add .i64 a1.2.At 1)).bind fun a7=>
 some a7)
 ((r13_is_g p0 a6.2.At 125).bind fun a8=>
 cond (!a8)
 ((r13_other_g p0 a6.2.At).bind fun a9=>
 some a9)
 ((r13_rep_g p1 a1.1 a6.1 (ar .add .i64 a6.2.At 1)).bind fun a10=>
 some a10))))
 ((cond (cm .eql a1.1 0)
 (some true)
 (some (cm .lss a1.1 a1.1)):Option Bool).bind fun j3=>
 cond (j3)
 ((r13_bad_g 2 (ar .add .i64 p2 1)).bind fun a11=>
 some a11)
 ((r13_is_g p0 a1.2.At 125).bind fun a12=>
 cond (!a12)
 ((r13_other_g p0 a1.2.At).bind fun a13=>
 some a13)
 ((r13_rep_g p1 a1.1 a1.1 (ar .add .i64 a1.2.At 1)).bind fun a14=>
 some a14)))))
def r13_piece_s (R:RF) (r:Gr13_P):V:=.agg [fI .i64 r.N.kind,fI .u64 (r.N.set.a.toNat:Int),fI .u64 (r.N.set.b.toNat:Int),fI .u64 (r.N.set.c.toNat:Int),fI .u64 (r.N.set.d.toNat:Int),.t (.slc (R _ nodeRow r.N.kids)),fI .i64 r.N.min,fI .i64 r.N.max,fI .u64 (r.Set.a.toNat:Int),fI .u64 (r.Set.b.toNat:Int),fI .u64 (r.Set.c.toNat:Int),fI .u64 (r.Set.d.toNat:Int),fB r.Many,fI .i64 r.At,fI .i64 r.F.E,fI .i64 r.F.At]
def r13_piece_g (rec:ByteArray→Int→Int→Option Gr13_P) (N:Nat) (p0:ByteArray) (p1:Int) (p2:Int):Option Gr13_P:=
 (rec p0 p1 p2).bind fun a1=>
 (cond (cm .neq a1.F.E 0)
 (some true)
 (some (cm .geq a1.At (sl p0))):Option Bool).bind fun j1=>
 cond (j1)
 (some a1)
 (cond (sinB p0 a1.At) (cond (cm .eql (sa p0 a1.At) 42)
 ((r13_rep_g a1.N 0 (-1) (ar .add .i64 a1.At 1)).bind fun a2=>
 some a2)
 (cond (cm .eql (sa p0 a1.At) 43)
 ((r13_rep_g a1.N 1 (-1) (ar .add .i64 a1.At 1)).bind fun a3=>
 some a3)
 (cond (cm .eql (sa p0 a1.At) 63)
 ((r13_rep_g a1.N 0 1 (ar .add .i64 a1.At 1)).bind fun a4=>
 some a4)
 (cond (cm .eql (sa p0 a1.At) 123)
 ((r13_braces_g N p0 a1.N a1.At).bind fun a5=>
 some a5)
 (some a1))))) none)
def r13_cat_s (R:RF) (r:Gr13_P):V:=.agg [fI .i64 r.N.kind,fI .u64 (r.N.set.a.toNat:Int),fI .u64 (r.N.set.b.toNat:Int),fI .u64 (r.N.set.c.toNat:Int),fI .u64 (r.N.set.d.toNat:Int),.t (.slc (R _ nodeRow r.N.kids)),fI .i64 r.N.min,fI .i64 r.N.max,fI .u64 (r.Set.a.toNat:Int),fI .u64 (r.Set.b.toNat:Int),fI .u64 (r.Set.c.toNat:Int),fI .u64 (r.Set.d.toNat:Int),fB r.Many,fI .i64 r.At,fI .i64 r.F.E,fI .i64 r.F.At]
def r13_cat_l1 (rec:ByteArray→Int→Int→Option Gr13_P) (N:Nat) (p0:ByteArray) (p2:Int):Nat→Int→List Node→Option Gr13_P
| 0,_,_=>none
| m+1,v1,v2=>
 (cond (cm .lss v1 (sl p0))
 (cond (sinB p0 v1) (cond (cm .neq (sa p0 v1) 124)
 (cond (sinB p0 v1) (some (cm .neq (sa p0 v1) 41)) none)
 (some false)) none)
 (some false):Option Bool).bind fun j2=>
 cond (j2)
 ((r13_piece_g rec N p0 v1 p2).bind fun a3=>
 cond (cm .neq a3.F.E 0)
 (some a3)
 ((some [a3.N]).bind fun l4=>
 (app nodeRow v2 l4).bind fun l5=>
 (r13_cat_l1 rec N p0 p2 m) a3.At l5))
 ((r13_join_g N 2 v2).bind fun a6=>
 some (⟨a6,CSet.empty,false,v1,(⟨0,0⟩:GFault)⟩:Gr13_P))
def r13_cat_g (rec:ByteArray→Int→Int→Option Gr13_P) (N:Nat) (p0:ByteArray) (p1:Int) (p2:Int):Option Gr13_P:=
 r13_cat_l1 rec N p0 p2 N p1 []
def r13_alt_s (R:RF) (r:Gr13_P):V:=.agg [fI .i64 r.N.kind,fI .u64 (r.N.set.a.toNat:Int),fI .u64 (r.N.set.b.toNat:Int),fI .u64 (r.N.set.c.toNat:Int),fI .u64 (r.N.set.d.toNat:Int),.t (.slc (R _ nodeRow r.N.kids)),fI .i64 r.N.min,fI .i64 r.N.max,fI .u64 (r.Set.a.toNat:Int),fI .u64 (r.Set.b.toNat:Int),fI .u64 (r.Set.c.toNat:Int),fI .u64 (r.Set.d.toNat:Int),fB r.Many,fI .i64 r.At,fI .i64 r.F.E,fI .i64 r.F.At]
def r13_alt_l1 (rec:ByteArray→Int→Int→Option Gr13_P) (N:Nat) (p0:ByteArray) (p2:Int):Nat→Int→CSet→List Node→Int→Int→CSet→Bool→Int→Int→Int→List Node→Option Gr13_P
| 0,_,_,_,_,_,_,_,_,_,_,_=>none
| m+1,v4,v5,v6,v7,v8,v9,v10,v11,v12,v13,v14=>
 (r13_is_g p0 v11 124).bind fun a15=>
 cond (a15)
 ((r13_cat_g rec N p0 (ar .add .i64 v11 1) p2).bind fun a16=>
 cond (cm .neq a16.F.E 0)
 (some a16)
 ((some [a16.N]).bind fun l17=>
 (app nodeRow v14 l17).bind fun l18=>
 (r13_alt_l1 rec N p0 p2 m) a16.N.kind a16.N.set a16.N.kids a16.N.min a16.N.max a16.Set a16.Many a16.At a16.F.E a16.F.At l18))
 ((r13_join_g N 3 v14).bind fun a19=>
 some (⟨a19,CSet.empty,false,v11,(⟨0,0⟩:GFault)⟩:Gr13_P))
def r13_alt_g (rec:ByteArray→Int→Int→Option Gr13_P) (N:Nat) (p0:ByteArray) (p1:Int) (p2:Int):Option Gr13_P:=
 (r13_cat_g rec N p0 p1 p2).bind fun a1=>
 (cond (cm .neq a1.F.E 0)
 (some true)
 ((r13_is_g p0 a1.At 124).bind fun a2=>
 some !a2):Option Bool).bind fun j1=>
 cond (j1)
 (some a1)
 ((some [a1.N]).bind fun l3=>
 r13_alt_l1 rec N p0 p2 N a1.N.kind a1.N.set a1.N.kids a1.N.min a1.N.max a1.Set a1.Many a1.At a1.F.E a1.F.At l3)
def r13_atom_s (R:RF) (r:Gr13_P):V:=.agg [fI .i64 r.N.kind,fI .u64 (r.N.set.a.toNat:Int),fI .u64 (r.N.set.b.toNat:Int),fI .u64 (r.N.set.c.toNat:Int),fI .u64 (r.N.set.d.toNat:Int),.t (.slc (R _ nodeRow r.N.kids)),fI .i64 r.N.min,fI .i64 r.N.max,fI .u64 (r.Set.a.toNat:Int),fI .u64 (r.Set.b.toNat:Int),fI .u64 (r.Set.c.toNat:Int),fI .u64 (r.Set.d.toNat:Int),fB r.Many,fI .i64 r.At,fI .i64 r.F.E,fI .i64 r.F.At]
def r13_atom_g:Nat→ByteArray→Int→Int→Option Gr13_P
| 0=>fun _ _ _=>none
| N+1=>fun p0 p1 p2=>
 (cond (cm .geq p1 (sl p0))
 (some true)
 (cond (sinB p0 p1) ((r13_among_g N (sa p0 p1) (ByteArray.mk #[41,93,123,125,124,42,43,63])).bind fun a1=>
 some a1) none):Option Bool).bind fun j1=>
 cond (j1)
 ((r13_other_g p0 p1).bind fun a2=>
 some a2)
 (cond (sinB p0 p1) (cond (cm .eql (sa p0 p1) 40)
 (cond (cm .eql p2 16)
 ((r13_bad_g 3 p1).bind fun a3=>
 some a3)
 ((r13_alt_g (r13_atom_g N) N p0 (ar .add .i64 p1 1) (ar .add .i64 p2 1)).bind fun a4=>
 (cond (cm .eql a4.F.E 0)
 ((r13_is_g p0 a4.At 41).bind fun a5=>
 some !a5)
 (some false):Option Bool).bind fun j2=>
 cond (j2)
 ((r13_other_g p0 a4.At).bind fun a6=>
 some a6)
 (some (⟨a4.N,a4.Set,a4.Many,ar .add .i64 a4.At 1,a4.F⟩:Gr13_P))))
 (cond (sinB p0 p1) (cond (cm .eql (sa p0 p1) 46)
 ((r12_Between_g 0 255).bind fun a7=>
 some (⟨(⟨1,a7,[],0,0⟩:Node),CSet.empty,false,ar .add .i64 p1 1,(⟨0,0⟩:GFault)⟩:Gr13_P))
 (cond (sinB p0 p1) (cond (cm .eql (sa p0 p1) 91)
 ((r13_class_g N p0 (ar .add .i64 p1 1)).bind fun a8=>
 some a8)
 (cond (sinB p0 p1) (cond (cm .eql (sa p0 p1) 92)
 ((r13_escape_g N p0 p1).bind fun a9=>
 cond (cm .neq a9.F.E 0)
 (some a9)
 (some (⟨(⟨1,a9.Set,[],0,0⟩:Node),CSet.empty,false,a9.At,(⟨0,0⟩:GFault)⟩:Gr13_P)))
 (cond (sinB p0 p1) (cond (sinB p0 p1) ((r12_Between_g (cv .i64 (sa p0 p1)) (cv .i64 (sa p0 p1))).bind fun a10=>
 some (⟨(⟨1,a10,[],0,0⟩:Node),CSet.empty,false,ar .add .i64 p1 1,(⟨0,0⟩:GFault)⟩:Gr13_P)) none) none)) none)) none)) none)) none)
def r13_Parse_s (R:RF) (r:Node × GFault):V:=.tup [.agg [fI .i64 r.1.kind,fI .u64 (r.1.set.a.toNat:Int),fI .u64 (r.1.set.b.toNat:Int),fI .u64 (r.1.set.c.toNat:Int),fI .u64 (r.1.set.d.toNat:Int),.t (.slc (R _ nodeRow r.1.kids)),fI .i64 r.1.min,fI .i64 r.1.max],.agg [fI .i64 r.2.E,fI .i64 r.2.At]]
def r13_Parse_g (N:Nat) (p0:ByteArray):Option (Node × GFault):=
 cond (cm .gtr (sl p0) 256)
 (some ((⟨0,CSet.empty,[],0,0⟩:Node),(⟨3,256⟩:GFault)))
 ((r13_alt_g (r13_atom_g N) N p0 0 0).bind fun a1=>
 (cond (cm .eql a1.F.E 0)
 (some (cm .lss a1.At (sl p0)))
 (some false):Option Bool).bind fun j1=>
 (cond (j1)
 ((r13_other_g p0 a1.At).bind fun a2=>
 some (a2.N.kind,a2.N.set,a2.N.kids,a2.N.min,a2.N.max,a2.Set,a2.Many,a2.At,a2.F.E,a2.F.At))
 (some (a1.N.kind,a1.N.set,a1.N.kids,a1.N.min,a1.N.max,a1.Set,a1.Many,a1.At,a1.F.E,a1.F.At)):Option (Int × CSet ×(List Node)× Int × Int × CSet × Bool × Int × Int × Int)).bind fun j2=>
 cond (cm .neq j2.2.2.2.2.2.2.2.2.1 0)
 (some ((⟨0,CSet.empty,[],0,0⟩:Node),(⟨j2.2.2.2.2.2.2.2.2.1,j2.2.2.2.2.2.2.2.2.2⟩:GFault)))
 (some ((⟨j2.1,j2.2.1,j2.2.2.1,j2.2.2.2.1,j2.2.2.2.2.1⟩:Node),(⟨0,0⟩:GFault))))
def r15_cost_s (R:RF) (r:Int):V:=fI .i64 r
def r15_cost_l1 (rec:Node→Int→Option Int) (p0:Node) (p1:Int):Nat→Int→Int→Option Int
| 0,_,_=>none
| m+1,v1,v2=>
 cond (cm .lss v2 (ll (rw _ nodeRow p0.kids)))
 ((at_ p0.kids v2).bind fun r3=>
 (rec r3 p1).bind fun a4=>
 cond (cm .gtr (ar .add .i64 v1 a4) 3000)
 (some 3001)
 ((r15_cost_l1 rec p0 p1 m) (ar .add .i64 v1 a4) (ar .add .i64 v2 1)))
 ((cond (cm .eql p0.kind 2)
 (some (cm .gtr (ll (rw _ nodeRow p0.kids)) 0))
 (some false):Option Bool).bind fun j4=>
 cond (j4)
 (some (ar .mul .i64 v1 (ar .add .i64 p1 1)))
 ((cond (cm .eql p0.kind 4)
 (cond (cm .eql p0.max (-1))
 (cond (cm .geq p0.min 0)
 (some (cm .leq p0.min 16))
 (some false))
 (some false))
 (some false):Option Bool).bind fun j5=>
 cond (j5)
 (some (ar .mul .i64 (ar .mul .i64 v1 (ar .add .i64 p0.min p1)) (ar .add .i64 p1 1)))
 ((cond (cm .eql p0.kind 4)
 (cond (cm .geq p0.max 0)
 (some (cm .leq p0.max 16))
 (some false))
 (some false):Option Bool).bind fun j6=>
 cond (j6)
 (some (ar .mul .i64 (ar .mul .i64 v1 (ar .add .i64 p0.max 1)) (ar .add .i64 p1 1)))
 (some v1))))
def r15_cost_g:Nat→Node→Int→Option Int
| 0=>fun _ _=>none
| N+1=>fun p0 p1=>
 r15_cost_l1 (r15_cost_g N) p0 p1 N 1 0
def r15_Great_s (R:RF) (r:Bool):V:=fB r
def r15_Great_g (N:Nat) (p0:Node) (p1:Int):Option Bool:=
 (r15_cost_g N p0 p1).bind fun a1=>
 some (cm .gtr a1 3000)
def r22_Great_s (R:RF) (r:Bool):V:=fB r
def r22_Great_g (N:Nat) (p0:GMatcher) (p1:Int):Option Bool:=
 cond (cm .lss p0.Op 3)
 ((cond (cm .gtr (sl p0.Value) 1200)
 (some true)
 (some (cm .gtr (sl p0.Name) 100)):Option Bool).bind fun j1=>
 some j1)
 ((cond (cm .gtr (sl p0.Value) 60)
 (some true)
 (cond (cm .gtr (sl p0.Name) 100)
 (some true)
 (some (cm .gtr p1 12))):Option Bool).bind fun j2=>
 cond (j2)
 (some true)
 ((r13_Parse_g N p0.Value).bind fun a1=>
 (cond (cm .eql a1.2.E 0)
 ((r15_Great_g N a1.1 p1).bind fun a2=>
 some a2)
 (some false):Option Bool).bind fun j3=>
 some j3))
def name_letter_s (R:RF) (r:Bool):V:=fB r
def name_letter_g (p0:Int):Option Bool:=
 (cond (cm .eql p0 95)
 (some true)
 (cond (cm .leq 97 p0)
 (cond (cm .leq p0 122)
 (some true)
 (cond (cm .leq 65 p0)
 (some (cm .leq p0 90))
 (some false)))
 (cond (cm .leq 65 p0)
 (some (cm .leq p0 90))
 (some false))):Option Bool).bind fun j1=>
 some j1
def name_digit_s (R:RF) (r:Bool):V:=fB r
def name_digit_g (p0:Int):Option Bool:=
 (cond (cm .leq 48 p0)
 (some (cm .leq p0 57))
 (some false):Option Bool).bind fun j1=>
 some j1
def name_Label_s (R:RF) (r:Bool):V:=fB r
def name_Label_l1 (p0:ByteArray):Nat→Int→Option Bool
| 0,_=>none
| m+1,v1=>
 nx p0 v1 (fun q2 c3=>
 ((name_letter_g c3).bind fun a4=>
 cond (!a4)
 (cond (cm .eql v1 0)
 (some true)
 ((name_digit_g c3).bind fun a5=>
 some !a5))
 (some false):Option Bool).bind fun j4=>
 cond (j4)
 (some false)
 ((name_Label_l1 p0 m) q2))
 (some true)
def name_Label_g (N:Nat) (p0:ByteArray):Option Bool:=
 (cond (sc .eql p0 ByteArray.empty)
 (some true)
 (some (cm .gtr (sl p0) 32)):Option Bool).bind fun j1=>
 cond (j1)
 (some false)
 (name_Label_l1 p0 N 0)
def matcher_same_ask_s (R:RF) (r:Bool):V:=fB r
def matcher_same_ask_g (p0:ByteArray) (p1:ByteArray):Option Bool:=
 some (sc .eql p1 p0)
def slices_Index_152_s (R:RF) (r:Int):V:=fI .i64 r
def slices_Index_152_l1 (p0:List Int) (p1:Int):Nat→Int→Option Int
| 0,_=>none
| m+1,v1=>
 cond (cm .lss v1 (ll (rw _ (cI .i64) p0)))
 ((at_ p0 v1).bind fun r2=>
 cond (cm .eql p1 r2)
 (some v1)
 ((slices_Index_152_l1 p0 p1 m) (ar .add .i64 v1 1)))
 (some (-1))
def slices_Index_152_g (N:Nat) (p0:List Int) (p1:Int):Option Int:=
 slices_Index_152_l1 p0 p1 N 0
def slices_Contains_150_s (R:RF) (r:Bool):V:=fB r
def slices_Contains_150_g (N:Nat) (p0:List Int) (p1:Int):Option Bool:=
 (slices_Index_152_g N p0 p1).bind fun a1=>
 some (cm .geq a1 0)
def regex_times_s (R:RF) (r:Bool):V:=fB r
def regex_times_g (p0:Int) (p1:Int):Option Bool:=
 (cond (cm .lss p0 0)
 (some true)
 (some (cm .gtr p0 16)):Option Bool).bind fun j1=>
 cond (j1)
 (some false)
 ((cond (cm .eql p1 (-1))
 (some true)
 (cond (cm .geq p1 (mx p0 1))
 (some (cm .leq p1 16))
 (some false)):Option Bool).bind fun j2=>
 some j2)
def regex_Right_s (R:RF) (r:Bool):V:=fB r
def regex_Right_l1 (rec:Node→Option Bool) (p0:Node):Nat→Int→Option Bool
| 0,_=>none
| m+1,v1=>
 cond (cm .lss v1 (ll (rw _ nodeRow p0.kids)))
 ((at_ p0.kids v1).bind fun r2=>
 ((rec r2).bind fun a3=>
 cond (!a3)
 (some true)
 (cond (cm .eql r2.kind p0.kind)
 (some (cm .neq p0.kind 4))
 (some false)):Option Bool).bind fun j4=>
 cond (j4)
 (some false)
 ((regex_Right_l1 rec p0 m) (ar .add .i64 v1 1)))
 ((cond (cm .neq p0.kind 1)
 (cond (!(conj [cm .eql (p0.set.a.toNat:Int) 0,cm .eql (p0.set.b.toNat:Int) 0,cm .eql (p0.set.c.toNat:Int) 0,cm .eql (p0.set.d.toNat:Int) 0]))
 (some true)
 (cond (cm .neq p0.kind 4)
 (cond (cm .neq p0.min 0)
 (some true)
 (some (cm .neq p0.max 0)))
 (some false)))
 (cond (cm .neq p0.kind 4)
 (cond (cm .neq p0.min 0)
 (some true)
 (some (cm .neq p0.max 0)))
 (some false)):Option Bool).bind fun j5=>
 cond (j5)
 (some false)
 (cond (cm .eql p0.kind 1)
 (some (cm .eql (ll (rw _ nodeRow p0.kids)) 0))
 (cond (cm .eql p0.kind 2)
 (some (cm .neq (ll (rw _ nodeRow p0.kids)) 1))
 (cond (cm .eql p0.kind 3)
 (some (cm .gtr (ll (rw _ nodeRow p0.kids)) 1))
 (cond (cm .eql p0.kind 4)
 ((cond (cm .eql (ll (rw _ nodeRow p0.kids)) 1)
 ((regex_times_g p0.min p0.max).bind fun a4=>
 some a4)
 (some false):Option Bool).bind fun j6=>
 some j6)
 (some false))))))
def regex_Right_g:Nat→Node→Option Bool
| 0=>fun _=>none
| N+1=>fun p0=>
 regex_Right_l1 (regex_Right_g N) p0 N 0
def slices_Clone_159_g (p0:List Bool):Option (List Bool):=
 nilq p0
 (some [])
 ((some []).bind fun l1=>
 (app cB l1 p0).bind fun l2=>
 some l2)
def slices_Equal_160_s (R:RF) (r:Bool):V:=fB r
def slices_Equal_160_l1 (p0:List Bool) (p1:List Bool):Nat→Int→Option Bool
| 0,_=>none
| m+1,v1=>
 cond (cm .lss v1 (ll (rw _ cB p0)))
 ((at_ p0 v1).bind fun r2=>
 (at_ p1 v1).bind fun r3=>
 cond (!(conj [r2==r3]))
 (some false)
 ((slices_Equal_160_l1 p0 p1 m) (ar .add .i64 v1 1)))
 (some true)
def slices_Equal_160_g (N:Nat) (p0:List Bool) (p1:List Bool):Option Bool:=
 cond (cm .neq (ll (rw _ cB p0)) (ll (rw _ cB p1)))
 (some false)
 (slices_Equal_160_l1 p0 p1 N 0)
def match_often_l4 (k2:Int→List Bool→List Bool→Option (List Bool)) (v10:List Bool) (v8:Int) (l12:List Bool):Nat→Bool→Int→List Bool→Option (List Bool)
| 0,_,_,_=>none
| m+1,v13,v14,v15=>
 cond (cm .lss v14 (ll (rw _ cB v10)))
 ((cond (v13)
 (some true)
 ((at_ l12 v14).bind fun r16=>
 (at_ l12 v14).bind fun r17=>
 cond (r17)
 ((at_ v15 v14).bind fun r18=>
 (at_ v15 v14).bind fun r19=>
 some !r19)
 (some false)):Option Bool).bind fun j44=>
 ((at_ v15 v14).bind fun r20=>
 (at_ v15 v14).bind fun r21=>
 cond (r21)
 ((at_ v15 v14).bind fun r22=>
 (at_ v15 v14).bind fun r23=>
 put cB v15 v14 true fun l24=>
 some l24)
 ((at_ l12 v14).bind fun r25=>
 (at_ l12 v14).bind fun r26=>
 (at_ v15 v14).bind fun r27=>
 (at_ v15 v14).bind fun r28=>
 put cB v15 v14 r26 fun l29=>
 some l29):Option (List Bool)).bind fun j45=>
 (match_often_l4 k2 v10 v8 l12 m) j44 (ar .add .i64 v14 1) j45)
 (cond (!v13)
 (some v15)
 (k2 (ar .add .i64 v8 1) l12 v15))
def match_often_l2 (rec:Node→ByteArray→List Bool→Option (List Bool)) (N:Nat) (p0:Node) (p1:ByteArray):Nat→Int→List Bool→List Bool→Option (List Bool)
| 0,_,_,_=>none
| m+1,v8,v9,v10=>
 (cond (cm .eql p0.max (-1))
 (some true)
 (some (cm .lss v8 p0.max)):Option Bool).bind fun j41=>
 cond (j41)
 ((at_ p0.kids 0).bind fun r11=>
 (rec r11 p1 v9).bind fun l12=>
 match_often_l4 (match_often_l2 rec N p0 p1 m) v10 v8 l12 N false 0 v10)
 (some v10)
def match_often_l7 (k5:Int→List Bool→List Bool→Option (List Bool)) (v33:List Bool) (v31:Int) (l35:List Bool):Nat→Bool→Int→List Bool→Option (List Bool)
| 0,_,_,_=>none
| m+1,v36,v37,v38=>
 cond (cm .lss v37 (ll (rw _ cB v33)))
 ((cond (v36)
 (some true)
 ((at_ l35 v37).bind fun r39=>
 (at_ l35 v37).bind fun r40=>
 cond (r40)
 ((at_ v38 v37).bind fun r41=>
 (at_ v38 v37).bind fun r42=>
 some !r42)
 (some false)):Option Bool).bind fun j59=>
 ((at_ v38 v37).bind fun r43=>
 (at_ v38 v37).bind fun r44=>
 cond (r44)
 ((at_ v38 v37).bind fun r45=>
 (at_ v38 v37).bind fun r46=>
 put cB v38 v37 true fun l47=>
 some l47)
 ((at_ l35 v37).bind fun r48=>
 (at_ l35 v37).bind fun r49=>
 (at_ v38 v37).bind fun r50=>
 (at_ v38 v37).bind fun r51=>
 put cB v38 v37 r49 fun l52=>
 some l52):Option (List Bool)).bind fun j60=>
 (match_often_l7 k5 v33 v31 l35 m) j59 (ar .add .i64 v37 1) j60)
 (cond (!v36)
 (some v38)
 (k5 (ar .add .i64 v31 1) l35 v38))
def match_often_l5 (rec:Node→ByteArray→List Bool→Option (List Bool)) (N:Nat) (p0:Node) (p1:ByteArray):Nat→Int→List Bool→List Bool→Option (List Bool)
| 0,_,_,_=>none
| m+1,v31,v32,v33=>
 (cond (cm .eql p0.max (-1))
 (some true)
 (some (cm .lss v31 p0.max)):Option Bool).bind fun j56=>
 cond (j56)
 ((at_ p0.kids 0).bind fun r34=>
 (rec r34 p1 v32).bind fun l35=>
 match_often_l7 (match_often_l5 rec N p0 p1 m) v33 v31 l35 N false 0 v33)
 (some v33)
def match_often_l1 (rec:Node→ByteArray→List Bool→Option (List Bool)) (N:Nat) (p0:Node) (p1:ByteArray):Nat→Int→List Bool→Option (List Bool)
| 0,_,_=>none
| m+1,v2,v3=>
 cond (cm .lss v2 p0.min)
 ((at_ p0.kids 0).bind fun r4=>
 (rec r4 p1 v3).bind fun l5=>
 (slices_Equal_160_g N l5 v3).bind fun a6=>
 cond (a6)
 ((slices_Clone_159_g v3).bind fun l7=>
 match_often_l2 rec N p0 p1 N p0.min v3 l7)
 ((match_often_l1 rec N p0 p1 m) (ar .add .i64 v2 1) l5))
 ((slices_Clone_159_g v3).bind fun l30=>
 match_often_l5 rec N p0 p1 N p0.min v3 l30)
def match_often_g (rec:Node→ByteArray→List Bool→Option (List Bool)) (N:Nat) (p0:Node) (p1:ByteArray) (p2:List Bool):Option (List Bool):=
 (slices_Clone_159_g p2).bind fun l1=>
 match_often_l1 rec N p0 p1 N 0 l1
def match_moved_l1 (p0:Node) (p1:ByteArray) (p2:List Bool):Nat→Int→List Bool→Option (List Bool)
| 0,_,_=>none
| m+1,v2,v3=>
 cond (cm .lss v2 (sl p1))
 ((at_ p2 v2).bind fun r4=>
 cond (r4)
 (cond (r4)
 (cond (r4)
 (cond (r4)
 (cond (r4)
 (cond (sinB p1 v2) (cond (r4)
 ((charset_Has_g p0.set (sa p1 v2)).bind fun a5=>
 cond (r4)
 ((at_ v3 (ar .add .i64 v2 1)).bind fun r6=>
 (at_ v3 (ar .add .i64 v2 1)).bind fun r7=>
 put cB v3 (ar .add .i64 v2 1) a5 fun l8=>
 (match_moved_l1 p0 p1 p2 m) (ar .add .i64 v2 1) l8)
 (none))
 (none)) none)
 (none))
 (none))
 (none))
 (none))
 (cond (r4)
 (none)
 (cond (r4)
 (none)
 (cond (r4)
 (none)
 (cond (r4)
 (none)
 (cond (r4)
 (none)
 (cond (r4)
 (none)
 ((at_ v3 (ar .add .i64 v2 1)).bind fun r9=>
 (at_ v3 (ar .add .i64 v2 1)).bind fun r10=>
 put cB v3 (ar .add .i64 v2 1) false fun l11=>
 (match_moved_l1 p0 p1 p2 m) (ar .add .i64 v2 1) l11))))))))
 (some v3)
def match_moved_l2 (rec:Node→ByteArray→List Bool→Option (List Bool)) (p0:Node) (p1:ByteArray):Nat→Int→List Bool→Option (List Bool)
| 0,_,_=>none
| m+1,v13,v14=>
 cond (cm .lss v13 (ll (rw _ nodeRow p0.kids)))
 ((at_ p0.kids v13).bind fun r15=>
 (rec r15 p1 v14).bind fun l16=>
 (match_moved_l2 rec p0 p1 m) (ar .add .i64 v13 1) l16)
 (some v14)
def match_moved_l5 (k3:Int→List Bool→Option (List Bool)) (v17:Int) (v18:List Bool) (l20:List Bool):Nat→Bool→Int→List Bool→Option (List Bool)
| 0,_,_,_=>none
| m+1,v21,v22,v23=>
 cond (cm .lss v22 (ll (rw _ cB v18)))
 ((cond (v21)
 (some true)
 ((at_ l20 v22).bind fun r24=>
 (at_ l20 v22).bind fun r25=>
 cond (r25)
 ((at_ v23 v22).bind fun r26=>
 (at_ v23 v22).bind fun r27=>
 some !r27)
 (some false)):Option Bool).bind fun j7=>
 ((at_ v23 v22).bind fun r28=>
 (at_ v23 v22).bind fun r29=>
 cond (r29)
 ((at_ v23 v22).bind fun r30=>
 (at_ v23 v22).bind fun r31=>
 put cB v23 v22 true fun l32=>
 some l32)
 ((at_ l20 v22).bind fun r33=>
 (at_ l20 v22).bind fun r34=>
 (at_ v23 v22).bind fun r35=>
 (at_ v23 v22).bind fun r36=>
 put cB v23 v22 r34 fun l37=>
 some l37):Option (List Bool)).bind fun j8=>
 (match_moved_l5 k3 v17 v18 l20 m) j7 (ar .add .i64 v22 1) j8)
 (k3 (ar .add .i64 v17 1) v23)
def match_moved_l3 (rec:Node→ByteArray→List Bool→Option (List Bool)) (N:Nat) (p0:Node) (p1:ByteArray) (p2:List Bool):Nat→Int→List Bool→Option (List Bool)
| 0,_,_=>none
| m+1,v17,v18=>
 cond (cm .lss v17 (ll (rw _ nodeRow p0.kids)))
 ((at_ p0.kids v17).bind fun r19=>
 (rec r19 p1 p2).bind fun l20=>
 match_moved_l5 (match_moved_l3 rec N p0 p1 p2 m) v17 v18 l20 N false 0 v18)
 (some v18)
def match_moved_g:Nat→Node→ByteArray→List Bool→Option (List Bool)
| 0=>fun _ _ _=>none
| N+1=>fun p0 p1 p2=>
 (zro cB false (ll (rw _ cB p2)) (ll (rw _ cB p2))).bind fun l1=>
 cond (cm .eql p0.kind 1)
 (match_moved_l1 p0 p1 p2 N 0 l1)
 (cond (cm .eql p0.kind 2)
 ((cpy cB l1 p2).bind fun l12=>
 match_moved_l2 (match_moved_g N) p0 p1 N 0 l12)
 (cond (cm .eql p0.kind 3)
 (match_moved_l3 (match_moved_g N) N p0 p1 p2 N 0 l1)
 (cond (cm .eql p0.kind 4)
 ((match_often_g (match_moved_g N) N p0 p1 p2).bind fun l38=>
 some l38)
 (some l1))))
def match_Ends_l1 (l6:List Bool):Nat→Int→List Int→Option (List Int)
| 0,_,_=>none
| m+1,v7,v8=>
 cond (cm .lss v7 (ll (rw _ cB l6)))
 ((at_ l6 v7).bind fun r9=>
 (at_ l6 v7).bind fun r10=>
 (cond (r10)
 ((app (cI .i64) v8 [v7]).bind fun l11=>
 some l11)
 (some v8):Option (List Int)).bind fun j3=>
 (match_Ends_l1 l6 m) (ar .add .i64 v7 1) j3)
 (some v8)
def match_Ends_g (N:Nat) (p0:Node) (p1:ByteArray) (p2:Int):Option (List Int):=
 ((regex_Right_g N p0).bind fun a1=>
 cond (!a1)
 (some true)
 (cond (cm .lss p2 0)
 (some true)
 (some (cm .gtr p2 (sl p1)))):Option Bool).bind fun j1=>
 cond (j1)
 (some [])
 ((zro cB false (ar .add .i64 (sl p1) 1) (ar .add .i64 (sl p1) 1)).bind fun l2=>
 (at_ l2 p2).bind fun r3=>
 (at_ l2 p2).bind fun r4=>
 put cB l2 p2 true fun l5=>
 (match_moved_g N p0 p1 l5).bind fun l6=>
 match_Ends_l1 l6 N 0 [])
def match_Match_s (R:RF) (r:Bool):V:=fB r
def match_Match_g (N:Nat) (p0:Node) (p1:ByteArray):Option Bool:=
 (match_Ends_g N p0 p1 0).bind fun l1=>
 (slices_Contains_150_g N l1 (sl p1)).bind fun a2=>
 some a2
def matcher_like_ask_s (R:RF) (r:Bool):V:=fB r
def matcher_like_ask_g (N:Nat) (p0:Gmatcher_like) (p1:ByteArray):Option Bool:=
 (match_Match_g N p0.node p1).bind fun a1=>
 some a1
def matcher_Test_s (R:RF) (r:Bool):V:=fB r
def matcher_Test_g (N:Nat) (p0:GMatcher) (p1:ByteArray):Option Bool:=
 (name_Label_g N p0.Name).bind fun a1=>
 cond (!a1)
 (cond (cm .neq 4 0)
 (some false)
 (none))
 ((cond (cm .lss p0.Op 1)
 (some true)
 (some (cm .gtr p0.Op 4)):Option Bool).bind fun j1=>
 cond (j1)
 (cond (cm .neq 7 0)
 (some false)
 (none))
 ((cond (cm .eql p0.Op 2)
 (some true)
 (some (cm .eql p0.Op 4)):Option Bool).bind fun j2=>
 (cond (cm .eql p0.Op 1)
 (some true)
 (some (cm .eql p0.Op 2)):Option Bool).bind fun j3=>
 cond (j3)
 (cond (cm .gtr (sl p0.Value) 1024)
 (cond (cm .neq 3 0)
 (some false)
 (none))
 (cond (cm .neq 0 0)
 (none)
 ((matcher_same_ask_g p0.Value p1).bind fun a2=>
 some (!(conj [a2==j2])))))
 ((regex_Parse_g p0.Value).bind fun a3=>
 cond (cm .neq a3.2.E 0)
 (cond (cm .neq a3.2.E 0)
 (some false)
 (none))
 (cond (cm .neq 0 0)
 (none)
 ((matcher_like_ask_g N (⟨a3.1⟩:Gmatcher_like) p1).bind fun a4=>
 some (!(conj [a4==j2])))))))
def labels_Get_s (R:RF) (r:ByteArray):V:=fS r
def labels_Get_l2 (p0:List GLabel) (p1:ByteArray):Nat→Int→Option ByteArray
| 0,_=>none
| m+1,v1=>
 cond (cm .lss v1 (ll (rw _ cLabel p0)))
 ((at_ p0 v1).bind fun r2=>
 cond (sc .eql r2.Name p1)
 (cond (cm .lss v1 0)
 (some ByteArray.empty)
 ((at_ p0 v1).bind fun r3=>
 some r3.Value))
 ((labels_Get_l2 p0 p1 m) (ar .add .i64 v1 1)))
 (cond (cm .lss (-1) 0)
 (some ByteArray.empty)
 (none))
def labels_Get_g (N:Nat) (p0:List GLabel) (p1:ByteArray):Option ByteArray:=
 labels_Get_l2 p0 p1 N 0
def matcher_Holds_s (R:RF) (r:Bool):V:=fB r
def matcher_Holds_g (N:Nat) (p0:GMatcher) (p1:List GLabel):Option Bool:=
 (labels_Get_g N p1 p0.Name).bind fun a1=>
 (matcher_Test_g N p0 a1).bind fun a2=>
 some a2
def matcher_Right_s (R:RF) (r:Int):V:=fI .i64 r
def matcher_Right_g (N:Nat) (p0:GMatcher):Option Int:=
 (name_Label_g N p0.Name).bind fun a1=>
 cond (!a1)
 (some 4)
 ((cond (cm .lss p0.Op 1)
 (some true)
 (some (cm .gtr p0.Op 4)):Option Bool).bind fun j1=>
 cond (j1)
 (some 7)
 ((cond (cm .eql p0.Op 2)
 (some true)
 (some (cm .eql p0.Op 4)):Option Bool).bind fun j2=>
 (cond (cm .eql p0.Op 1)
 (some true)
 (some (cm .eql p0.Op 2)):Option Bool).bind fun j3=>
 cond (j3)
 (cond (cm .gtr (sl p0.Value) 1024)
 (some 3)
 (some 0))
 ((regex_Parse_g p0.Value).bind fun a2=>
 cond (cm .neq a2.2.E 0)
 (some a2.2.E)
 (some 0))))
def name_Cut_s (R:RF) (r:ByteArray × Int):V:=.tup [fS r.1,fI .i64 r.2]
def name_Cut_l1 (p0:ByteArray) (p1:Int):Nat→Int→Option (ByteArray × Int)
| 0,_=>none
| m+1,v1=>
 nx (ss p0 p1 (sl p0)) v1 (fun q2 c3=>
 ((name_letter_g c3).bind fun a4=>
 cond (!a4)
 (cond (cm .eql v1 0)
 (some true)
 ((name_digit_g c3).bind fun a5=>
 some !a5))
 (some false):Option Bool).bind fun j4=>
 cond (j4)
 (cond (ssinB (ss p0 p1 (sl p0)) 0 v1) (some (ss (ss p0 p1 (sl p0)) 0 v1,ar .add .i64 p1 v1)) none)
 ((name_Cut_l1 p0 p1 m) q2))
 (some (ss p0 p1 (sl p0),sl p0))
def name_Cut_g (N:Nat) (p0:ByteArray) (p1:Int):Option (ByteArray × Int):=
 (cond (cm .lss p1 0)
 (some true)
 (some (cm .gtr p1 (sl p0))):Option Bool).bind fun j1=>
 cond (j1)
 (some (ByteArray.empty,0))
 (cond (ssinB p0 p1 (sl p0)) (name_Cut_l1 p0 p1 N 0) none)
def matcher_sign_s (R:RF) (r:ByteArray):V:=fS r
def matcher_sign_g (p0:Int):Option ByteArray:=
 cond (cm .eql p0 1)
 (some (ByteArray.mk #[61]))
 (cond (cm .eql p0 2)
 (some (ByteArray.mk #[33,61]))
 (cond (cm .eql p0 3)
 (some (ByteArray.mk #[61,126]))
 (cond (cm .eql p0 4)
 (some (ByteArray.mk #[33,126]))
 (some (ByteArray.mk #[63])))))
def internal_stringslite_HasPrefix_s (R:RF) (r:Bool):V:=fB r
def internal_stringslite_HasPrefix_g (p0:ByteArray) (p1:ByteArray):Option Bool:=
 (cond (cm .geq (sl p0) (sl p1))
 (cond (ssinB p0 0 (sl p1)) (some (sc .eql (ss p0 0 (sl p1)) p1)) none)
 (some false):Option Bool).bind fun j1=>
 some j1
def strings_HasPrefix_s (R:RF) (r:Bool):V:=fB r
def strings_HasPrefix_g (p0:ByteArray) (p1:ByteArray):Option Bool:=
 (internal_stringslite_HasPrefix_g p0 p1).bind fun a1=>
 some a1
def matcher_op_s (R:RF) (r:Int × GFault):V:=.tup [fI .i64 r.1,.agg [fI .i64 r.2.E,fI .i64 r.2.At]]
def matcher_op_l1 (p0:ByteArray) (p1:Int):Nat→Int→Option (Int × GFault)
| 0,_=>none
| m+1,v1=>
 cond (cm .lss v1 4)
 ((at_ [3,4,2,1] v1).bind fun r2=>
 (matcher_sign_g r2).bind fun a3=>
 (strings_HasPrefix_g (ss p0 p1 (sl p0)) a3).bind fun a4=>
 cond (a4)
 (some (r2,(⟨0,0⟩:GFault)))
 ((matcher_op_l1 p0 p1 m) (ar .add .i64 v1 1)))
 (cond (sc .eql (ss p0 p1 (sl p0)) ByteArray.empty)
 (some (0,(⟨1,p1⟩:GFault)))
 (cond (sc .eql (ss p0 p1 (sl p0)) (ByteArray.mk #[33]))
 (some (0,(⟨1,ar .add .i64 p1 1⟩:GFault)))
 (some (0,(⟨2,p1⟩:GFault)))))
def matcher_op_g (N:Nat) (p0:ByteArray) (p1:Int):Option (Int × GFault):=
 cond (ssinB p0 p1 (sl p0)) (matcher_op_l1 p0 p1 N 0) none
def quote_escape_s (R:RF) (r:Int × Int × Int):V:=.tup [fI .u8 r.1,fI .i64 r.2.1,fI .i64 r.2.2]
def quote_escape_l1 (p0:ByteArray):Nat→Int→Int→Option (Int × Int × Int)
| 0,_,_=>none
| m+1,v1,v2=>
 cond (cm .lss v2 4)
 (cond (cm .geq v2 (sl p0))
 (some (0,0,1))
 (cond (sinB p0 v2) ((strings_IndexByte_g (ByteArray.mk #[48,49,50,51,52,53,54,55,56,57,97,98,99,100,101,102]) (sa p0 v2)).bind fun a3=>
 cond (cm .lss a3 0)
 (some (0,0,2))
 ((quote_escape_l1 p0 m) (ar .add .i64 (ar .mul .i64 16 v1) a3) (ar .add .i64 v2 1))) none))
 (some (cv .u8 v1,4,0))
def quote_escape_g (N:Nat) (p0:ByteArray):Option (Int × Int × Int):=
 cond (cm .lss (sl p0) 2)
 (some (0,0,1))
 ((cond (sinB p0 1) (cond (cm .eql (sa p0 1) 34)
 (some true)
 (cond (sinB p0 1) (some (cm .eql (sa p0 1) 92)) none)) none:Option Bool).bind fun j1=>
 cond (j1)
 (cond (sinB p0 1) (some (sa p0 1,2,0)) none)
 (cond (sinB p0 1) (cond (cm .neq (sa p0 1) 120)
 (some (0,0,2))
 (quote_escape_l1 p0 N 0 2)) none))
def quote_plain_s (R:RF) (r:Bool):V:=fB r
def quote_plain_g (p0:Int) (p1:Int):Option Bool:=
 (cond (cm .geq p0 32)
 (cond (cm .neq p0 127)
 (cond (cm .neq p0 65533)
 (some true)
 (some (cm .gtr p1 1)))
 (some false))
 (some false):Option Bool).bind fun j1=>
 some j1
def quote_Read_s (R:RF) (r:ByteArray × Int × GFault):V:=.tup [fS r.1,fI .i64 r.2.1,.agg [fI .i64 r.2.2.E,fI .i64 r.2.2.At]]
def quote_Read_l1 (N:Nat) (p0:ByteArray):Nat→Int→List Int→Option (ByteArray × Int × GFault)
| 0,_,_=>none
| m+1,v1,v2=>
 cond (cm .lss v1 (sl p0))
 (cond (ssinB p0 v1 (sl p0)) ((utf8_Decode_g (ss p0 v1 (sl p0))).bind fun a3=>
 cond (cm .eql a3.1 34)
 ((strB v2).bind fun s4=>
 some (s4,ar .add .i64 v1 1,(⟨0,0⟩:GFault)))
 (cond (cm .eql a3.1 92)
 (cond (ssinB p0 v1 (sl p0)) ((quote_escape_g N (ss p0 v1 (sl p0))).bind fun a5=>
 cond (cm .eql a5.2.2 1)
 (some (ByteArray.empty,0,(⟨a5.2.2,sl p0⟩:GFault)))
 (cond (cm .neq a5.2.2 0)
 (some (ByteArray.empty,0,(⟨a5.2.2,v1⟩:GFault)))
 ((app (cI .u8) v2 [a5.1]).bind fun l6=>
 (quote_Read_l1 N p0 m) (ar .add .i64 v1 a5.2.1) l6))) none)
 ((quote_plain_g a3.1 a3.2).bind fun a7=>
 cond (!a7)
 (some (ByteArray.empty,0,(⟨2,v1⟩:GFault)))
 (cond (ssinB p0 v1 (ar .add .i64 v1 a3.2)) ((app (cI .u8) v2 (Sh.bytes (ss p0 v1 (ar .add .i64 v1 a3.2)))).bind fun l8=>
 (quote_Read_l1 N p0 m) (ar .add .i64 v1 a3.2) l8) none)))) none)
 (some (ByteArray.empty,0,(⟨1,sl p0⟩:GFault)))
def quote_Read_g (N:Nat) (p0:ByteArray) (p1:Int):Option (ByteArray × Int × GFault):=
 (cond (cm .lss p1 0)
 (some true)
 (some (cm .gtr p1 (sl p0))):Option Bool).bind fun j1=>
 cond (j1)
 (some (ByteArray.empty,0,(⟨7,0⟩:GFault)))
 (cond (cm .eql p1 (sl p0))
 (some (ByteArray.empty,0,(⟨1,p1⟩:GFault)))
 (cond (sinB p0 p1) (cond (cm .neq (sa p0 p1) 34)
 (some (ByteArray.empty,0,(⟨2,p1⟩:GFault)))
 (quote_Read_l1 N p0 N (ar .add .i64 p1 1) [])) none))
def matcher_Take_s (R:RF) (r:GMatcher × Int × GFault):V:=.tup [.agg [fS r.1.Name,fI .i64 r.1.Op,fS r.1.Value],fI .i64 r.2.1,.agg [fI .i64 r.2.2.E,fI .i64 r.2.2.At]]
def matcher_Take_g (N:Nat) (p0:ByteArray) (p1:Int):Option (GMatcher × Int × GFault):=
 (cond (cm .lss p1 0)
 (some true)
 (some (cm .gtr p1 (sl p0))):Option Bool).bind fun j1=>
 cond (j1)
 (some ((⟨ByteArray.empty,0,ByteArray.empty⟩:GMatcher),0,(⟨7,0⟩:GFault)))
 (cond (cm .eql p1 (sl p0))
 (some ((⟨ByteArray.empty,0,ByteArray.empty⟩:GMatcher),0,(⟨1,p1⟩:GFault)))
 ((name_Cut_g N p0 p1).bind fun a1=>
 (name_Label_g N a1.1).bind fun a2=>
 cond (!a2)
 (some ((⟨ByteArray.empty,0,ByteArray.empty⟩:GMatcher),0,(⟨4,p1⟩:GFault)))
 ((matcher_op_g N p0 a1.2).bind fun a3=>
 cond (cm .neq a3.2.E 0)
 (some ((⟨ByteArray.empty,0,ByteArray.empty⟩:GMatcher),0,a3.2))
 ((matcher_sign_g a3.1).bind fun a4=>
 (quote_Read_g N p0 (ar .add .i64 a1.2 (sl a4))).bind fun a5=>
 cond (cm .neq a5.2.2.E 0)
 (some ((⟨ByteArray.empty,0,ByteArray.empty⟩:GMatcher),0,a5.2.2))
 ((matcher_Right_g N (⟨a1.1,a3.1,a5.1⟩:GMatcher)).bind fun a6=>
 cond (cm .neq a6 0)
 (some ((⟨ByteArray.empty,0,ByteArray.empty⟩:GMatcher),0,(⟨a6,ar .add .i64 a1.2 (sl a4)⟩:GFault)))
 (some ((⟨a1.1,a3.1,a5.1⟩:GMatcher),a5.2.1,(⟨0,0⟩:GFault))))))))
def quote_Unit_s (R:RF) (r:Int):V:=fI .i64 r
def quote_Unit_g (p0:ByteArray) (p1:Int):Option Int:=
 (cond (cm .lss p1 0)
 (some true)
 (some (cm .geq p1 (sl p0))):Option Bool).bind fun j1=>
 cond (j1)
 (some 0)
 (cond (ssinB p0 p1 (sl p0)) ((utf8_Decode_g (ss p0 p1 (sl p0))).bind fun a1=>
 some a1.2) none)
def quote_Text_s (R:RF) (r:ByteArray):V:=fS r
def quote_Text_l2 (p0:ByteArray):Nat→List Int→Int→Option ByteArray
| 0,_,_=>none
| m+1,v2,v3=>
 nx p0 v3 (fun q4 c5=>
 (quote_Unit_g p0 v3).bind fun a6=>
 (cond (cm .eql c5 34)
 (some true)
 (some (cm .eql c5 92)):Option Bool).bind fun j4=>
 (cond (j4)
 ((app (cI .u8) v2 [92]).bind fun l7=>
 cond (cm .leq (cv .u32 c5) 127)
 ((app (cI .u8) l7 [cv .u8 c5]).bind fun l8=>
 some l8)
 (none))
 ((quote_plain_g c5 a6).bind fun a9=>
 (cond (a9)
 (cond (ssinB p0 v3 (ar .add .i64 v3 a6)) ((app (cI .u8) v2 (Sh.bytes (ss p0 v3 (ar .add .i64 v3 a6)))).bind fun l10=>
 some l10) none)
 ((app (cI .u8) v2 (Sh.bytes (ByteArray.mk #[92,120]))).bind fun l11=>
 cond (sinB p0 v3) (cond (ge0B 4) (cond (sinB (ByteArray.mk #[48,49,50,51,52,53,54,55,56,57,97,98,99,100,101,102]) (ar .shr .u8 (sa p0 v3) 4)) ((app (cI .u8) l11 [sa (ByteArray.mk #[48,49,50,51,52,53,54,55,56,57,97,98,99,100,101,102]) (ar .shr .u8 (sa p0 v3) 4)]).bind fun l12=>
 cond (sinB p0 v3) (cond (sinB (ByteArray.mk #[48,49,50,51,52,53,54,55,56,57,97,98,99,100,101,102]) (ar .and .u8 (sa p0 v3) 15)) ((app (cI .u8) l12 [sa (ByteArray.mk #[48,49,50,51,52,53,54,55,56,57,97,98,99,100,101,102]) (ar .and .u8 (sa p0 v3) 15)]).bind fun l13=>
 some l13) none) none) none) none) none):Option (List Int)).bind fun j5=>
 some j5):Option (List Int)).bind fun j6=>
 (quote_Text_l2 p0 m) j6 q4)
 ((app (cI .u8) v2 [34]).bind fun l14=>
 (strB l14).bind fun s15=>
 some s15)
def quote_Text_g (N:Nat) (p0:ByteArray):Option ByteArray:=
 (app (cI .u8) [] [34]).bind fun l1=>
 quote_Text_l2 p0 N l1 0
def matcher_Text_s (R:RF) (r:ByteArray):V:=fS r
def matcher_Text_g (N:Nat) (p0:GMatcher):Option ByteArray:=
 (matcher_sign_g p0.Op).bind fun a1=>
 cond (ctB p0.Name a1) ((quote_Text_g N p0.Value).bind fun a2=>
 cond (ctB (ct p0.Name a1) a2) (some (ct (ct p0.Name a1) a2)) none) none
def r02_Compare_l1 (p0:ByteArray) (p1:ByteArray):Nat→Int→Option Int
| 0,_=>none
| m+1,v1=>
 (cond (cm .lss v1 (sl p0))
 (some (cm .lss v1 (sl p1)))
 (some false):Option Bool).bind fun j2=>
 cond (j2)
 (cond (sinB p0 v1) (cond (sinB p1 v1) (cond (cm .lss (sa p0 v1) (sa p1 v1))
 (some (-1))
 (cond (sinB p0 v1) (cond (sinB p1 v1) (cond (cm .gtr (sa p0 v1) (sa p1 v1))
 (some 1)
 ((r02_Compare_l1 p0 p1 m) (ar .add .i64 v1 1))) none) none)) none) none)
 (cond (cm .lss (sl p0) (sl p1))
 (some (-1))
 (cond (cm .gtr (sl p0) (sl p1))
 (some 1)
 (some 0)))
def r02_Compare_g (N:Nat) (p0:ByteArray) (p1:ByteArray):Option Int:=
 r02_Compare_l1 p0 p1 N 0
def r22_Compare_g (N:Nat) (p0:GMatcher) (p1:GMatcher):Option Int:=
 (r02_Compare_g N p0.Name p1.Name).bind fun a1=>
 cond (cm .neq a1 0)
 (some a1)
 (cond (cm .lss p0.Op p1.Op)
 (some (-1))
 (cond (cm .gtr p0.Op p1.Op)
 (some 1)
 ((r02_Compare_g N p0.Value p1.Value).bind fun a2=>
 some a2)))
end Gn
end Go.Proofs.YtpplemjjeefpdaaGreatDoor
