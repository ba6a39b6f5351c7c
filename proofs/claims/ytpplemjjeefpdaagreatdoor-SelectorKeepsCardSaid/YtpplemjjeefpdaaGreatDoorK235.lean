/- Texts that the proof leans on. -/
import Derived.Test.YtpplemjjeefpdaaGreatDoorK226
set_option linter.unusedVariables false
set_option linter.unusedSimpArgs false
set_option maxRecDepth 100000
set_option maxHeartbeats 4000000
namespace Go.Proofs.YtpplemjjeefpdaaGreatDoor
open Go Go.RowKit
open Ab
namespace Sh
def ne0B (y:Int):Bool:= !decide (y=0)
end Sh
end Go.Proofs.YtpplemjjeefpdaaGreatDoor
namespace Go.Proofs.YtpplemjjeefpdaaGreatDoor
open Go Go.RowKit
open Ab Sh
namespace Gn
def r12_Has_g (x:CSet) (b:Int):Option Bool:=if 0≤b∧b<256 then some (x.has b.toNat) else none
end Gn
end Go.Proofs.YtpplemjjeefpdaaGreatDoor
namespace Go.Proofs.YtpplemjjeefpdaaGreatDoor
open Go Go.RowKit
open Ab Sh
namespace Gn
def r13_times_g (p0:Int) (p1:Int):Option Bool:=
 (cond (cm .lss p0 0)
 (some true)
 (cond (cm .gtr p0 16)
 (some true)
 (cond (cm .gtr p1 16)
 (some true)
 (cond (cm .lss p1 (-1))
 (some true)
 (some (cm .eql p1 0))))):Option Bool).bind fun j1=>
 cond (j1)
 (some false)
 ((cond (cm .eql p1 (-1))
 (some true)
 (some (cm .geq p1 p0)):Option Bool).bind fun j2=>
 some j2)
def r13_Right_l1 (rec:Node→Option Bool) (p0:Node):Nat→Int→Option Bool
| 0,_=>none
| m+1,v9=>
 cond (cm .lss v9 (ll (rw _ nodeRow p0.kids)))
 ((at_ p0.kids v9).bind fun r10=>
 (rec r10).bind fun a11=>
 cond (!a11)
 (cond (!a11)
 (cond (!a11)
 (cond (!a11)
 (cond (!a11)
 (cond (!a11)
 (cond (!a11)
 (cond (!a11)
 (cond (!a11)
 (cond (!a11)
 (cond (!a11)
 (cond (!a11)
 (some false)
 (none))
 (none))
 (none))
 (none))
 (none))
 (none))
 (none))
 (none))
 (none))
 (none))
 (none))
 (cond (!a11)
 (none)
 (cond (!a11)
 (none)
 (cond (!a11)
 (none)
 ((at_ p0.kids v9).bind fun r12=>
 cond (!a11)
 (none)
 (cond (!a11)
 (none)
 (cond (!a11)
 (none)
 (cond (!a11)
 (none)
 (cond (!a11)
 (none)
 (cond (!a11)
 (none)
 (cond (cm .eql r12.kind p0.kind)
 (cond (cm .eql r12.kind p0.kind)
 (cond (cm .eql r12.kind p0.kind)
 (cond (!a11)
 (none)
 (cond (cm .eql r12.kind p0.kind)
 (cond (!a11)
 (none)
 (cond (cm .lss p0.kind 4)
 (some false)
 ((r13_Right_l1 rec p0 m) (ar .add .i64 v9 1))))
 (none)))
 (none))
 (none))
 (cond (cm .eql r12.kind p0.kind)
 (none)
 (cond (cm .eql r12.kind p0.kind)
 (none)
 (cond (!a11)
 (none)
 (cond (cm .eql r12.kind p0.kind)
 (none)
 (cond (!a11)
 (none)
 ((r13_Right_l1 rec p0 m) (ar .add .i64 v9 1))))))))))))))))))
 (some true)
def r13_Right_g:Nat→Node→Option Bool
| 0=>fun _=>none
| N+1=>fun p0=>
 (cond (cm .lss p0.kind 1)
 (some true)
 (some (cm .gtr p0.kind 4)):Option Bool).bind fun j1=>
 cond (j1)
 (some false)
 ((cond (cm .neq p0.kind 1)
 (cond (!(conj [cm .eql (p0.set.a.toNat:Int) 0,cm .eql (p0.set.b.toNat:Int) 0,cm .eql (p0.set.c.toNat:Int) 0,cm .eql (p0.set.d.toNat:Int) 0]))
 (some true)
 (cond (cm .neq p0.kind 4)
 (cond (cm .neq p0.min 0)
 (some true)
 (some (cm .neq p0.max 0)))
 (some false)))
 (cond (cm .neq p0.kind 4)
 (cond (cm .neq p0.min 0)
 (some true)
 (some (cm .neq p0.max 0)))
 (some false)):Option Bool).bind fun j2=>
 cond (j2)
 (some false)
 ((cond (cm .eql p0.kind 1)
 (cond (cm .neq (ll (rw _ nodeRow p0.kids)) 0)
 (some true)
 (cond (cm .eql p0.kind 2)
 (cond (cm .eql (ll (rw _ nodeRow p0.kids)) 1)
 (some true)
 (cond (cm .eql p0.kind 3)
 (cond (cm .lss (ll (rw _ nodeRow p0.kids)) 2)
 (some true)
 (cond (cm .eql p0.kind 4)
 (cond (cm .neq (ll (rw _ nodeRow p0.kids)) 1)
 (some true)
 ((r13_times_g p0.min p0.max).bind fun a1=>
 some !a1))
 (some false)))
 (cond (cm .eql p0.kind 4)
 (cond (cm .neq (ll (rw _ nodeRow p0.kids)) 1)
 (some true)
 ((r13_times_g p0.min p0.max).bind fun a2=>
 some !a2))
 (some false))))
 (cond (cm .eql p0.kind 3)
 (cond (cm .lss (ll (rw _ nodeRow p0.kids)) 2)
 (some true)
 (cond (cm .eql p0.kind 4)
 (cond (cm .neq (ll (rw _ nodeRow p0.kids)) 1)
 (some true)
 ((r13_times_g p0.min p0.max).bind fun a3=>
 some !a3))
 (some false)))
 (cond (cm .eql p0.kind 4)
 (cond (cm .neq (ll (rw _ nodeRow p0.kids)) 1)
 (some true)
 ((r13_times_g p0.min p0.max).bind fun a4=>
 some !a4))
 (some false)))))
 (cond (cm .eql p0.kind 2)
 (cond (cm .eql (ll (rw _ nodeRow p0.kids)) 1)
 (some true)
 (cond (cm .eql p0.kind 3)
 (cond (cm .lss (ll (rw _ nodeRow p0.kids)) 2)
 (some true)
 (cond (cm .eql p0.kind 4)
 (cond (cm .neq (ll (rw _ nodeRow p0.kids)) 1)
 (some true)
 ((r13_times_g p0.min p0.max).bind fun a5=>
 some !a5))
 (some false)))
 (cond (cm .eql p0.kind 4)
 (cond (cm .neq (ll (rw _ nodeRow p0.kids)) 1)
 (some true)
 ((r13_times_g p0.min p0.max).bind fun a6=>
 some !a6))
 (some false))))
 (cond (cm .eql p0.kind 3)
 (cond (cm .lss (ll (rw _ nodeRow p0.kids)) 2)
 (some true)
 (cond (cm .eql p0.kind 4)
 (cond (cm .neq (ll (rw _ nodeRow p0.kids)) 1)
 (some true)
 ((r13_times_g p0.min p0.max).bind fun a7=>
 some !a7))
 (some false)))
 (cond (cm .eql p0.kind 4)
 (cond (cm .neq (ll (rw _ nodeRow p0.kids)) 1)
 (some true)
 ((r13_times_g p0.min p0.max).bind fun a8=>
 some !a8))
 (some false)))):Option Bool).bind fun j3=>
 cond (j3)
 (some false)
 (r13_Right_l1 (r13_Right_g N) p0 N 0)))
def r15_from_l2 (l5:List Bool):Nat→Int→List Bool→Option (List Bool)
| 0,_,_=>none
| m+1,v6,v7=>
 cond (cm .lss v6 (ll (rw _ cB l5)))
 (((at_ v7 v6).bind fun r8=>
 (at_ v7 v6).bind fun r9=>
 cond (r9)
 ((at_ v7 v6).bind fun r10=>
 (at_ v7 v6).bind fun r11=>
 put cB v7 v6 true fun l12=>
 some l12)
 ((at_ l5 v6).bind fun r13=>
 (at_ l5 v6).bind fun r14=>
 (at_ v7 v6).bind fun r15=>
 (at_ v7 v6).bind fun r16=>
 put cB v7 v6 r14 fun l17=>
 some l17):Option (List Bool)).bind fun j5=>
 (r15_from_l2 l5 m) (ar .add .i64 v6 1) j5)
 (some v7)
def r15_from_l1 (rec:Node→ByteArray→Int→Option (List Bool)) (N:Nat) (p0:Node) (p1:ByteArray) (p2:List Bool):Nat→Int→List Bool→Option (List Bool)
| 0,_,_=>none
| m+1,v2,v3=>
 cond (cm .lss v2 (ll (rw _ cB p2)))
 ((at_ p2 v2).bind fun r4=>
 (cond (r4)
 ((rec p0 p1 v2).bind fun l5=>
 r15_from_l2 l5 N 0 v3)
 (some v3):Option (List Bool)).bind fun j6=>
 (r15_from_l1 rec N p0 p1 p2 m) (ar .add .i64 v2 1) j6)
 (some v3)
def r15_from_g (rec:Node→ByteArray→Int→Option (List Bool)) (N:Nat) (p0:Node) (p1:ByteArray) (p2:List Bool):Option (List Bool):=
 (zro cB false (ll (rw _ cB p2)) (ll (rw _ cB p2))).bind fun l1=>
 r15_from_l1 rec N p0 p1 p2 N 0 l1
def r15_ends_l1 (rec:Node→ByteArray→Int→Option (List Bool)) (N:Nat) (p0:Node) (p1:ByteArray):Nat→Int→List Bool→Option (List Bool)
| 0,_,_=>none
| m+1,v10,v11=>
 cond (cm .lss v10 (ll (rw _ nodeRow p0.kids)))
 ((at_ p0.kids v10).bind fun r12=>
 (r15_from_g rec N r12 p1 v11).bind fun l13=>
 (r15_ends_l1 rec N p0 p1 m) (ar .add .i64 v10 1) l13)
 (some v11)
def r15_ends_l3 (k2:Int→List Bool→Option (List Bool)) (v14:Int) (l17:List Bool):Nat→Int→List Bool→Option (List Bool)
| 0,_,_=>none
| m+1,v18,v19=>
 cond (cm .lss v18 (ll (rw _ cB l17)))
 (((at_ v19 v18).bind fun r20=>
 (at_ v19 v18).bind fun r21=>
 cond (r21)
 ((at_ v19 v18).bind fun r22=>
 (at_ v19 v18).bind fun r23=>
 put cB v19 v18 true fun l24=>
 some l24)
 ((at_ l17 v18).bind fun r25=>
 (at_ l17 v18).bind fun r26=>
 (at_ v19 v18).bind fun r27=>
 (at_ v19 v18).bind fun r28=>
 put cB v19 v18 r26 fun l29=>
 some l29):Option (List Bool)).bind fun j5=>
 (r15_ends_l3 k2 v14 l17 m) (ar .add .i64 v18 1) j5)
 (k2 (ar .add .i64 v14 1) v19)
def r15_ends_l2 (rec:Node→ByteArray→Int→Option (List Bool)) (N:Nat) (p0:Node) (p1:ByteArray) (p2:Int):Nat→Int→List Bool→Option (List Bool)
| 0,_,_=>none
| m+1,v14,v15=>
 cond (cm .lss v14 (ll (rw _ nodeRow p0.kids)))
 ((at_ p0.kids v14).bind fun r16=>
 (rec r16 p1 p2).bind fun l17=>
 r15_ends_l3 (r15_ends_l2 rec N p0 p1 p2 m) v14 l17 N 0 v15)
 (some v15)
def r15_ends_l5 (v32:List Bool):Nat→Int→List Bool→Option (List Bool)
| 0,_,_=>none
| m+1,v33,v34=>
 cond (cm .lss v33 (ll (rw _ cB v32)))
 (((at_ v34 v33).bind fun r35=>
 (at_ v34 v33).bind fun r36=>
 cond (r36)
 ((at_ v34 v33).bind fun r37=>
 (at_ v34 v33).bind fun r38=>
 put cB v34 v33 true fun l39=>
 some l39)
 ((at_ v32 v33).bind fun r40=>
 (at_ v32 v33).bind fun r41=>
 (at_ v34 v33).bind fun r42=>
 (at_ v34 v33).bind fun r43=>
 put cB v34 v33 r41 fun l44=>
 some l44):Option (List Bool)).bind fun j11=>
 (r15_ends_l5 v32 m) (ar .add .i64 v33 1) j11)
 (some v34)
def r15_ends_l4 (rec:Node→ByteArray→Int→Option (List Bool)) (N:Nat) (p0:Node) (p1:ByteArray) (j6:Int):Nat→Int→List Bool→List Bool→Option (List Bool)
| 0,_,_,_=>none
| m+1,v30,v31,v32=>
 cond (cm .leq v30 j6)
 ((cond (cm .geq v30 p0.min)
 (r15_ends_l5 v32 N 0 v31)
 (some v31):Option (List Bool)).bind fun j12=>
 (at_ p0.kids 0).bind fun r45=>
 (r15_from_g rec N r45 p1 v32).bind fun l46=>
 (r15_ends_l4 rec N p0 p1 j6 m) (ar .add .i64 v30 1) j12 l46)
 (some v31)
def r15_ends_g:Nat→Node→ByteArray→Int→Option (List Bool)
| 0=>fun _ _ _=>none
| N+1=>fun p0 p1 p2=>
 (zro cB false (ar .add .i64 (sl p1) 1) (ar .add .i64 (sl p1) 1)).bind fun l1=>
 (zro cB false (ar .add .i64 (sl p1) 1) (ar .add .i64 (sl p1) 1)).bind fun _=>
 (at_ l1 p2).bind fun r3=>
 (at_ l1 p2).bind fun r4=>
 put cB l1 p2 true fun l5=>
 cond (cm .eql p0.kind 1)
 (cond (cm .lss p2 (sl p1))
 (cond (cm .lss p2 (sl p1))
 (cond (cm .lss p2 (sl p1))
 (cond (cm .lss p2 (sl p1))
 (cond (cm .lss p2 (sl p1))
 (cond (sinB p1 p2) (cond (cm .lss p2 (sl p1))
 (cond (cm .lss p2 (sl p1))
 ((r12_Has_g p0.set (cv .i64 (sa p1 p2))).bind fun a6=>
 cond (cm .lss p2 (sl p1))
 ((cond (a6)
 ((at_ l1 (ar .add .i64 p2 1)).bind fun r7=>
 (at_ l1 (ar .add .i64 p2 1)).bind fun r8=>
 put cB l1 (ar .add .i64 p2 1) true fun l9=>
 some l9)
 (some l1):Option (List Bool)).bind fun j1=>
 some j1)
 (none))
 (none))
 (none)) none)
 (none))
 (none))
 (none))
 (none))
 (cond (cm .lss p2 (sl p1))
 (none)
 (cond (cm .lss p2 (sl p1))
 (none)
 (cond (cm .lss p2 (sl p1))
 (none)
 (cond (cm .lss p2 (sl p1))
 (none)
 (cond (cm .lss p2 (sl p1))
 (none)
 (cond (cm .lss p2 (sl p1))
 (none)
 (cond (cm .lss p2 (sl p1))
 (none)
 (some l1)))))))))
 (cond (cm .eql p0.kind 2)
 (r15_ends_l1 (r15_ends_g N) N p0 p1 N 0 l5)
 (cond (cm .eql p0.kind 3)
 (r15_ends_l2 (r15_ends_g N) N p0 p1 p2 N 0 l1)
 ((cond (cm .eql p0.max (-1))
 (some (ar .add .i64 p0.min (sl p1)))
 (some p0.max):Option Int).bind fun j6=>
 r15_ends_l4 (r15_ends_g N) N p0 p1 j6 N 0 l1 l5)))
def r15_Match_g (N:Nat) (p0:Node) (p1:ByteArray):Option Bool:=
 (r13_Right_g N p0).bind fun a1=>
 cond (!a1)
 (some false)
 ((r15_ends_g N p0 p1 0).bind fun l2=>
 (at_ l2 (sl p1)).bind fun r3=>
 (at_ l2 (sl p1)).bind fun r4=>
 some r4)
def r22_Sign_g (p0:Int):Option ByteArray:=
 cond (cm .eql p0 1)
 (some (ByteArray.mk #[61]))
 (cond (cm .eql p0 2)
 (some (ByteArray.mk #[33,61]))
 (cond (cm .eql p0 3)
 (some (ByteArray.mk #[61,126]))
 (cond (cm .eql p0 4)
 (some (ByteArray.mk #[33,126]))
 (some (ByteArray.mk #[63])))))
def r10_digit_g (p0:Int):Option Int:=
 (cond (cm .geq p0 48)
 (some (cm .leq p0 57))
 (some false):Option Bool).bind fun j1=>
 cond (j1)
 (some (ar .sub .i64 (cv .i64 p0) 48))
 ((cond (cm .geq p0 97)
 (some (cm .leq p0 102))
 (some false):Option Bool).bind fun j2=>
 cond (j2)
 (some (ar .sub .i64 (cv .i64 p0) 87))
 (some (-1)))
def r02_Byte_g (p0:Int):Option ByteArray:=
 (some [cv .u8 p0]).bind fun l1=>
 (strB l1).bind fun s2=>
 some s2
def r10_Escape_g (p0:ByteArray) (p1:Int):Option (ByteArray × Int):=
 cond (cm .lss (ar .sub .i64 (sl p0) p1) 2)
 (some (ByteArray.empty,(-1)))
 ((cond (sinB p0 (ar .add .i64 p1 1)) (cond (cm .eql (sa p0 (ar .add .i64 p1 1)) 34)
 (some true)
 (cond (sinB p0 (ar .add .i64 p1 1)) (some (cm .eql (sa p0 (ar .add .i64 p1 1)) 92)) none)) none:Option Bool).bind fun j1=>
 cond (j1)
 (cond (ssinB p0 (ar .add .i64 p1 1) (ar .add .i64 p1 2)) (some (ss p0 (ar .add .i64 p1 1) (ar .add .i64 p1 2),2)) none)
 (cond (sinB p0 (ar .add .i64 p1 1)) (cond (cm .neq (sa p0 (ar .add .i64 p1 1)) 120)
 (some (ByteArray.empty,0))
 (cond (cm .lss (ar .sub .i64 (sl p0) p1) 3)
 (some (ByteArray.empty,(-1)))
 (cond (sinB p0 (ar .add .i64 p1 2)) ((r10_digit_g (sa p0 (ar .add .i64 p1 2))).bind fun a1=>
 cond (cm .lss a1 0)
 (some (ByteArray.empty,0))
 (cond (cm .lss (ar .sub .i64 (sl p0) p1) 4)
 (some (ByteArray.empty,(-1)))
 (cond (sinB p0 (ar .add .i64 p1 3)) ((r10_digit_g (sa p0 (ar .add .i64 p1 3))).bind fun a2=>
 cond (cm .lss a2 0)
 (some (ByteArray.empty,0))
 ((r02_Byte_g (ar .add .i64 (ar .mul .i64 16 a1) a2)).bind fun a3=>
 some (a3,4))) none))) none))) none))
def r10_trail_l1 (p0:ByteArray) (p1:Int) (p2:Int):Nat→Int→Option Bool
| 0,_=>none
| m+1,v1=>
 cond (cm .lss v1 (ar .add .i64 p1 p2))
 ((cond (sinB p0 v1) (cond (cm .lss (sa p0 v1) 128)
 (some true)
 (cond (sinB p0 v1) (some (cm .gtr (sa p0 v1) 191)) none)) none:Option Bool).bind fun j2=>
 cond (j2)
 (some false)
 ((r10_trail_l1 p0 p1 p2 m) (ar .add .i64 v1 1)))
 (some true)
def r10_trail_g (N:Nat) (p0:ByteArray) (p1:Int) (p2:Int):Option Bool:=
 cond (cm .gtr p2 (ar .sub .i64 (sl p0) p1))
 (some false)
 (r10_trail_l1 p0 p1 p2 N p1)
def r10_Rune_g (N:Nat) (p0:ByteArray) (p1:Int):Option Int:=
 cond (sinB p0 p1) (cond (cm .lss (cv .i64 (sa p0 p1)) 128)
 (some 1)
 ((cond (cm .lss (ar .add .i64 p1 1) (sl p0))
 (cond (sinB p0 (ar .add .i64 p1 1)) (some (cv .i64 (sa p0 (ar .add .i64 p1 1)))) none)
 (some 0):Option Int).bind fun j1=>
 (cond (cm .geq (cv .i64 (sa p0 p1)) 194)
 (cond (cm .leq (cv .i64 (sa p0 p1)) 223)
 ((r10_trail_g N p0 (ar .add .i64 p1 1) 1).bind fun a1=>
 some a1)
 (some false))
 (some false):Option Bool).bind fun j2=>
 cond (j2)
 (some 2)
 ((cond (cm .geq (cv .i64 (sa p0 p1)) 224)
 (cond (cm .leq (cv .i64 (sa p0 p1)) 239)
 ((r10_trail_g N p0 (ar .add .i64 p1 1) 2).bind fun a2=>
 cond (a2)
 (cond (cm .neq (cv .i64 (sa p0 p1)) 224)
 (cond (cm .neq (cv .i64 (sa p0 p1)) 237)
 (some true)
 (some (cm .lss j1 160)))
 (cond (cm .geq j1 160)
 (cond (cm .neq (cv .i64 (sa p0 p1)) 237)
 (some true)
 (some (cm .lss j1 160)))
 (some false)))
 (some false))
 (some false))
 (some false):Option Bool).bind fun j3=>
 cond (j3)
 (some 3)
 ((cond (cm .geq (cv .i64 (sa p0 p1)) 240)
 (cond (cm .leq (cv .i64 (sa p0 p1)) 244)
 ((r10_trail_g N p0 (ar .add .i64 p1 1) 3).bind fun a3=>
 cond (a3)
 (cond (cm .neq (cv .i64 (sa p0 p1)) 240)
 (cond (cm .neq (cv .i64 (sa p0 p1)) 244)
 (some true)
 (some (cm .lss j1 144)))
 (cond (cm .geq j1 144)
 (cond (cm .neq (cv .i64 (sa p0 p1)) 244)
 (some true)
 (some (cm .lss j1 144)))
 (some false)))
 (some false))
 (some false))
 (some false):Option Bool).bind fun j4=>
 cond (j4)
 (some 4)
 (some 0))))) none
def r10_safe_g (N:Nat) (p0:ByteArray) (p1:Int):Option Bool:=
 ((r10_Rune_g N p0 p1).bind fun a1=>
 cond (cm .gtr a1 0)
 (cond (sinB p0 p1) (cond (cm .geq (sa p0 p1) 32)
 (cond (sinB p0 p1) (some (cm .neq (sa p0 p1) 127)) none)
 (some false)) none)
 (some false):Option Bool).bind fun j1=>
 some j1
def r10_Read_l1 (N:Nat) (p0:ByteArray):Nat→ByteArray→Int→Option (ByteArray × Int × GFault)
| 0,_,_=>none
| m+1,v1,v2=>
 cond (cm .lss v2 (sl p0))
 (cond (sinB p0 v2) (cond (cm .eql (sa p0 v2) 34)
 (some (v1,ar .add .i64 v2 1,(⟨0,0⟩:GFault)))
 (cond (ssinB p0 v2 v2) (cond (sinB p0 v2) ((cond (cm .eql (sa p0 v2) 92)
 ((r10_Escape_g p0 v2).bind fun a3=>
 some (a3.1,a3.2))
 ((r10_safe_g N p0 v2).bind fun a4=>
 (cond (a4)
 ((r10_Rune_g N p0 v2).bind fun a5=>
 cond (ssinB p0 v2 (ar .add .i64 v2 a5)) (some (ss p0 v2 (ar .add .i64 v2 a5),a5)) none)
 (some (ss p0 v2 v2,0)):Option (ByteArray × Int)).bind fun j4=>
 some (j4.1,j4.2)):Option (ByteArray × Int)).bind fun j5=>
 cond (cm .lss j5.2 0)
 (some (ByteArray.empty,0,(⟨1,sl p0⟩:GFault)))
 (cond (cm .eql j5.2 0)
 (some (ByteArray.empty,0,(⟨2,v2⟩:GFault)))
 (cond (ctB v1 j5.1) ((r10_Read_l1 N p0 m) (ct v1 j5.1) (ar .add .i64 v2 j5.2)) none))) none) none)) none)
 (some (ByteArray.empty,0,(⟨1,sl p0⟩:GFault)))
def r10_Unit_g (N:Nat) (p0:ByteArray) (p1:Int):Option Int:=
 (cond (cm .lss p1 0)
 (some true)
 (some (cm .geq p1 (sl p0))):Option Bool).bind fun j1=>
 cond (j1)
 (some 0)
 ((r10_Rune_g N p0 p1).bind fun a1=>
 cond (cm .eql a1 0)
 (some 1)
 (some a1))
def r02_Hex_l1 (p0:ByteArray):Nat→ByteArray→Int→Option ByteArray
| 0,_,_=>none
| m+1,v1,v2=>
 cond (cm .lss v2 (sl p0))
 (cond (sinB p0 v2) (cond (ne0B 16) (cond (sinB p0 v2) (cond (ne0B 16) (cond (ssinB (ByteArray.mk #[48,49,50,51,52,53,54,55,56,57,97,98,99,100,101,102]) (ar .quo .i64 (cv .i64 (sa p0 v2)) 16) (ar .add .i64 (ar .quo .i64 (cv .i64 (sa p0 v2)) 16) 1)) (cond (ctB v1 (ss (ByteArray.mk #[48,49,50,51,52,53,54,55,56,57,97,98,99,100,101,102]) (ar .quo .i64 (cv .i64 (sa p0 v2)) 16) (ar .add .i64 (ar .quo .i64 (cv .i64 (sa p0 v2)) 16) 1))) (cond (ssinB (ByteArray.mk #[48,49,50,51,52,53,54,55,56,57,97,98,99,100,101,102]) (ar .rem .i64 (cv .i64 (sa p0 v2)) 16) (ar .add .i64 (ar .rem .i64 (cv .i64 (sa p0 v2)) 16) 1)) (cond (ctB (ct v1 (ss (ByteArray.mk #[48,49,50,51,52,53,54,55,56,57,97,98,99,100,101,102]) (ar .quo .i64 (cv .i64 (sa p0 v2)) 16) (ar .add .i64 (ar .quo .i64 (cv .i64 (sa p0 v2)) 16) 1))) (ss (ByteArray.mk #[48,49,50,51,52,53,54,55,56,57,97,98,99,100,101,102]) (ar .rem .i64 (cv .i64 (sa p0 v2)) 16) (ar .add .i64 (ar .rem .i64 (cv .i64 (sa p0 v2)) 16) 1))) ((r02_Hex_l1 p0 m) (ct (ct v1 (ss (ByteArray.mk #[48,49,50,51,52,53,54,55,56,57,97,98,99,100,101,102]) (ar .quo .i64 (cv .i64 (sa p0 v2)) 16) (ar .add .i64 (ar .quo .i64 (cv .i64 (sa p0 v2)) 16) 1))) (ss (ByteArray.mk #[48,49,50,51,52,53,54,55,56,57,97,98,99,100,101,102]) (ar .rem .i64 (cv .i64 (sa p0 v2)) 16) (ar .add .i64 (ar .rem .i64 (cv .i64 (sa p0 v2)) 16) 1))) (ar .add .i64 v2 1)) none) none) none) none) none) none) none) none)
 (some v1)
def r02_Hex_g (N:Nat) (p0:ByteArray):Option ByteArray:=
 r02_Hex_l1 p0 N ByteArray.empty 0
def r10_Text_l1 (N:Nat) (p0:ByteArray):Nat→ByteArray→Int→Option ByteArray
| 0,_,_=>none
| m+1,v1,v2=>
 cond (cm .lss v2 (sl p0))
 ((r10_Unit_g N p0 v2).bind fun a3=>
 (cond (sinB p0 v2) (cond (cm .eql (sa p0 v2) 34)
 (some true)
 (cond (sinB p0 v2) (some (cm .eql (sa p0 v2) 92)) none)) none:Option Bool).bind fun j1=>
 (cond (j1)
 (cond (ctB v1 (ByteArray.mk #[92])) (cond (ssinB p0 v2 (ar .add .i64 v2 1)) (cond (ctB (ct v1 (ByteArray.mk #[92])) (ss p0 v2 (ar .add .i64 v2 1))) (some (ct (ct v1 (ByteArray.mk #[92])) (ss p0 v2 (ar .add .i64 v2 1)))) none) none) none)
 ((r10_safe_g N p0 v2).bind fun a4=>
 (cond (a4)
 (cond (ssinB p0 v2 (ar .add .i64 v2 a3)) (cond (ctB v1 (ss p0 v2 (ar .add .i64 v2 a3))) (some (ct v1 (ss p0 v2 (ar .add .i64 v2 a3)))) none) none)
 (cond (ctB v1 (ByteArray.mk #[92,120])) (cond (ssinB p0 v2 (ar .add .i64 v2 1)) ((r02_Hex_g N (ss p0 v2 (ar .add .i64 v2 1))).bind fun a5=>
 cond (ctB (ct v1 (ByteArray.mk #[92,120])) a5) (some (ct (ct v1 (ByteArray.mk #[92,120])) a5)) none) none) none):Option ByteArray).bind fun j2=>
 some j2):Option ByteArray).bind fun j3=>
 (r10_Text_l1 N p0 m) j3 (ar .add .i64 v2 a3))
 (cond (ctB v1 (ByteArray.mk #[34])) (some (ct v1 (ByteArray.mk #[34]))) none)
def r10_Text_g (N:Nat) (p0:ByteArray):Option ByteArray:=
 r10_Text_l1 N p0 N (ByteArray.mk #[34]) 0
def r22_Text_g (N:Nat) (p0:GMatcher):Option ByteArray:=
 (r22_Sign_g p0.Op).bind fun a1=>
 cond (ctB p0.Name a1) ((r10_Text_g N p0.Value).bind fun a2=>
 cond (ctB (ct p0.Name a1) a2) (some (ct (ct p0.Name a1) a2)) none) none
end Gn
end Go.Proofs.YtpplemjjeefpdaaGreatDoor
namespace Go.Proofs.YtpplemjjeefpdaaGreatDoor
open Go Go.RowKit
open Ab Sh
namespace Gn
def selector_Right_s (R:RF) (r:GFault):V:=.agg [fI .i64 r.E,fI .i64 r.At]
def selector_Right_l1 (N:Nat) (p0:List GMatcher):Nat→Int→Option GFault
| 0,_=>none
| m+1,v1=>
 cond (cm .lss v1 (ll (rw _ cMatcher p0)))
 ((at_ p0 v1).bind fun r2=>
 (matcher_Right_g N r2).bind fun a3=>
 cond (cm .neq a3 0)
 (some (⟨a3,v1⟩:GFault))
 ((selector_Right_l1 N p0 m) (ar .add .i64 v1 1)))
 (some (⟨0,0⟩:GFault))
def selector_Right_g (N:Nat) (p0:List GMatcher):Option GFault:=
 cond (cm .gtr (ll (rw _ cMatcher p0)) 64)
 (some (⟨3,64⟩:GFault))
 (selector_Right_l1 N p0 N 0)
end Gn
end Go.Proofs.YtpplemjjeefpdaaGreatDoor
namespace Go.Proofs.YtpplemjjeefpdaaGreatDoor
open Go
namespace Mx
def single (i:Nat):Pos:=fun j=>j==i
theorem or_none (a:Pos):orP a zr=a:=by funext j;simp [orP,zr]
theorem none_or (a:Pos):orP zr a=a:=by funext j;simp [orP,zr]
theorem or_self (a:Pos):orP a a=a:=by funext j;simp [orP]
theorem or_assoc (a b c:Pos):orP (orP a b) c=orP a (orP b c):=by funext j;simp [orP,Bool.or_assoc]
theorem or_four (a b c d:Pos):orP (orP a b) (orP c d)=orP (orP a c) (orP b d):=by
 funext j;simp only [orP];cases a j<;>cases b j<;>cases c j<;>cases d j<;>rfl
theorem adds_one (S:CSet) (s:List UInt8):Adds (one S s) where
 or_ a b:=by
  funext j
  cases j with
  | zero=>rfl
  | succ i=>simp only [one,orP];cases a i<;>cases b i<;>simp
 none_:=by funext j;cases j<;>simp [one,zr]
theorem Adds.zr:Adds (fun _=>zr):=⟨fun _ _=>(or_self _).symm,rfl⟩
theorem Adds.orP {f g:Pos→Pos} (hf:Adds f) (hg:Adds g):Adds (fun x=>orP (f x) (g x)):=⟨fun a b=>by rw [hf.or_,hg.or_,or_four],by rw [hf.none_,hg.none_,or_self]⟩
theorem Adds.upto {f:Pos→Pos} (hf:Adds f):∀k,Adds (upto f k)
 | 0=>Adds.id
 | k+1=>Adds.orP Adds.id ((Adds.upto hf k).comp hf)
mutual
theorem adds_sp (s:List UInt8):∀n,Adds (sp s n)
 | .mk k S kids mn mx=>by
   unfold sp
   by_cases h1:k=1
   · simp only [h1,if_true];exact adds_one S s
   · by_cases h2:k=2
     · simp only [h2];exact adds_cat s kids
     · by_cases h3:k=3
       · simp only [h3];exact adds_alt s kids
       · simp only [h1,h2,h3,if_false];exact adds_rep s kids mn mx
theorem adds_cat (s:List UInt8):∀l,Adds (spCat s l)
 | []=>by unfold spCat;exact Adds.id
 | n::r=>by unfold spCat;exact (adds_sp s n).comp (adds_cat s r)
theorem adds_alt (s:List UInt8):∀l,Adds (spAlt s l)
 | []=>by unfold spAlt;exact Adds.zr
 | n::r=>by unfold spAlt;exact Adds.orP (adds_sp s n) (adds_alt s r)
theorem adds_rep (s:List UInt8):∀(kids:List Node) (mn mx:Int),Adds (spRep s kids mn mx)
 | [],_,_=>by unfold spRep;exact Adds.zr
 | n::_,mn,mx=>by unfold spRep;exact ((adds_sp s n).iter _).comp ((adds_sp s n).upto _)
end
theorem sup_none (N:Nat):Sup N zr:=fun _ _=>rfl
theorem Sup.orP {N:Nat} {a b:Pos} (ha:Sup N a) (hb:Sup N b):Sup N (orP a b):=fun j hj=>by simp [Mx.orP,ha j hj,hb j hj]
theorem sup_single {N i:Nat} (h:i<N):Sup N (single i):=fun j hj=>by simp [single];omega
theorem keeps_one (S:CSet) (s:List UInt8):Keeps (s.length+1) (one S s):=fun x _ j hj=>by
 cases j with
 | zero=>omega
 | succ i=>simp only [one];rw [List.getElem?_eq_none (by omega)];simp
theorem Keeps.upto {N:Nat} {f:Pos→Pos} (hf:Keeps N f):∀k,Keeps N (upto f k)
 | 0=>fun _ h=>h
 | k+1=>fun x h=>h.orP (hf _ (Keeps.upto hf k x h))
mutual
theorem keeps_sp (s:List UInt8):∀n,Keeps (s.length+1) (sp s n)
 | .mk k S kids mn mx=>by
   unfold sp
   by_cases h1:k=1
   · simp only [h1,if_true];exact keeps_one S s
   · by_cases h2:k=2
     · simp only [h2];exact keeps_cat s kids
     · by_cases h3:k=3
       · simp only [h3];exact keeps_alt s kids
       · simp only [h1,h2,h3,if_false];exact keeps_rep s kids mn mx
theorem keeps_cat (s:List UInt8):∀l,Keeps (s.length+1) (spCat s l)
 | []=>by unfold spCat;exact fun _ h=>h
 | n::r=>by unfold spCat;exact fun x h=>keeps_cat s r _ (keeps_sp s n x h)
theorem keeps_alt (s:List UInt8):∀l,Keeps (s.length+1) (spAlt s l)
 | []=>by unfold spAlt;exact fun _ _=>sup_none _
 | n::r=>by unfold spAlt;exact fun x h=>(keeps_sp s n x h).orP (keeps_alt s r x h)
theorem keeps_rep (s:List UInt8):∀(kids:List Node) (mn mx:Int),Keeps (s.length+1) (spRep s kids mn mx)
 | [],_,_=>by unfold spRep;exact fun _ _=>sup_none _
 | n::_,mn,mx=>by unfold spRep;exact fun x h=>(keeps_sp s n).upto _ _ ((keeps_sp s n).iter _ _ h)
end
def Le (a b:Pos):Prop:=∀j,a j=true→b j=true
theorem le_or_left (a b:Pos):Le a (orP a b):=fun j h=>by simp [orP,h]
theorem or_of_le {a b:Pos} (h:Le b a):orP a b=a:=by
 funext j
 simp only [orP]
 cases hb:b j
 · simp
 · simp [h j hb]
theorem Le.antisymm {a b:Pos} (h:Le a b) (h':Le b a):a=b:=by
 funext j
 cases ha:a j
 · cases hb:b j
   · rfl
   · rw [h' j hb] at ha;cases ha
 · rw [h j ha]
theorem iter_succ (f:Pos→Pos):∀k x,iter f (k+1) x=f (iter f k x)
 | 0,_=>rfl
 | k+1,x=>iter_succ f k (f x)
theorem upto_succ {f:Pos→Pos} (hf:Adds f):∀k x,upto f (k+1) x=orP (upto f k x) (iter f (k+1) x)
 | 0,x=>rfl
 | k+1,x=>by
   show orP x (f (upto f (k+1) x))=orP (orP x (f (upto f k x))) (iter f (k+2) x)
   rw [upto_succ hf k x,hf.or_,←or_assoc,←iter_succ f (k+1) x]
theorem upto_le {f:Pos→Pos} (hf:Adds f) (k:Nat) (x:Pos):Le (upto f k x) (upto f (k+1) x):=by rw [upto_succ hf];exact le_or_left _ _
theorem upto_stop {f:Pos→Pos} {k:Nat} {x:Pos} (h:upto f (k+1) x=upto f k x):∀m,k≤m→upto f m x=upto f k x:=by
 intro m hm
 induction m with
 | zero => obtain rfl:k=0:=by omega
           rfl
 | succ m ih=>
   rcases Nat.lt_or_ge k (m+1) with h1 | h1
   · have h2:=ih (by omega)
     show orP x (f (upto f m x))=_
     rw [h2]
     exact h
   · obtain rfl:k=m+1:=by omega
     rfl
def cnt (N:Nat) (x:Pos):Nat:=(List.range N).countP x
theorem cnt_le (N:Nat) (x:Pos):cnt N x≤N:=by unfold cnt;have:=List.countP_le_length (p:=x) (l:=List.range N);simpa using this
theorem cnt_lt {N:Nat} {a b:Pos} (h:Le a b) (hb:Sup N b) (hne:a≠b):cnt N a<cnt N b:=by
 have hex:∃j,a j=false∧b j=true:=Classical.byContradiction fun hno=>hne (h.antisymm fun j hj=>by
  cases ha:a j
  · exact absurd ⟨j,ha,hj⟩ hno
  · rfl)
 obtain ⟨j,h1,h2⟩:=hex
 have hj:j<N:=Nat.lt_of_not_le fun h3=>by rw [hb j h3] at h2;cases h2
 unfold cnt
 have key:∀(l:List Nat),l.countP a≤l.countP b∧(j∈l→l.countP a<l.countP b):=by
  intro l
  induction l with
  | nil=>exact ⟨Nat.le_refl _,fun h=>by cases h⟩
  | cons i r ih=>
    rw [List.countP_cons,List.countP_cons]
    refine ⟨?_,fun hm=>?_⟩
    · cases hai:a i
      · have:=ih.1;simp;omega
      · rw [h i hai];have:=ih.1;simp;omega
    · rcases List.mem_cons.1 hm with rfl | hm
      · rw [h1,h2];have:=ih.1;simp;omega
      · have:=ih.2 hm
        cases hai:a i
        · simp;omega
        · rw [h i hai];simp;omega
 exact (key _).2 (by simpa using hj)
theorem cnt_upto {f:Pos→Pos} {N:Nat} (hf:Adds f) (hk:Keeps N f) {x:Pos} (hx:Sup N x) (hne:x≠zr):∀k,upto f (k+1) x≠upto f k x→k+2≤cnt N (upto f (k+1) x)
 | 0,h=>by
   have h1:0<cnt N x:=by have:=cnt_lt (a:=zr) (b:=x) (fun j h=>by cases h) hx (Ne.symm hne);omega
   have h2:=cnt_lt (upto_le hf 0 x) (hk.upto 1 x hx) (Ne.symm h)
   have h3:upto f 0 x=x:=rfl
   rw [h3] at h2
   omega
 | k +1,h=>by
   by_cases h0:upto f (k+1) x=upto f k x
   · exact absurd ((upto_stop h0 (k+2) (by omega)).trans (upto_stop h0 (k+1) (by omega)).symm) h
   · have h1:=cnt_upto hf hk hx hne k h0
     have h2:=cnt_lt (upto_le hf (k+1) x) (hk.upto (k+2) x hx) (Ne.symm h)
     omega
theorem sp_any {f:Pos→Pos} (hf:Adds f) {N:Nat} {x:Pos} (hx:Sup N x) (j:Nat):f x j=(List.range N).any (fun i=>x i&&f (single i) j):=by
 have key:∀k,f (fun i=>decide (i<k)&&x i) j=(List.range k).any (fun i=>x i&&f (single i) j):=by
  intro k
  induction k with
  | zero=>rw [show (fun i=>decide (i<0)&&x i)=zr by funext i;simp [zr],hf.none_];rfl
  | succ k ih=>
    rw [List.range_succ,List.any_append,←ih]
    have e:(fun i=>decide (i<k+1)&&x i)=orP (fun i=>decide (i<k)&&x i) (if x k then single k else zr):=by
     funext i
     simp only [orP]
     by_cases h1:i=k
     · subst h1;cases hx:x i<;>simp [single,zr]
     · have h2:decide (i<k+1)=decide (i<k):=by rw [decide_eq_decide];omega
       rw [h2]
       cases hx:x k<;>simp [single,zr,h1]
    rw [e,hf.or_]
    simp only [orP,List.any_cons,List.any_nil,Bool.or_false]
    cases x k
    · simp [hf.none_,zr]
    · simp
 rw [←key N]
 congr 1
 funext i
 by_cases h:i<N
 · simp [h]
 · simp [h,hx i (by omega)]
end Mx
end Go.Proofs.YtpplemjjeefpdaaGreatDoor
namespace Go.Proofs.YtpplemjjeefpdaaGreatDoor
open Go
namespace Rx
def timesB (lo hi:Int):Bool:=if lo<0||lo>16||hi>16||hi< -1||hi==0 then false else hi== -1||hi≥lo
def topB (kind:Int) (S:CSet) (many:Nat) (mn mx:Int):Bool:=
 (kind==1||kind==2||kind==3||kind==4)&&(kind==1||decide (S=CSet.empty))&&(kind==4||mn==0&&mx==0)&&
 (if kind==1 then many==0 else if kind==2 then many != 1 else if kind==3 then decide (many>1) else many==1&&timesB mn mx)
mutual
def right:Node→Bool
 | .mk kind S kids mn mx=>topB kind S kids.length mn mx&&rights kind kids
def rights (kind:Int):List Node→Bool
 | []=>true
 | n::r=>(right n&& !(n.kind==kind&&kind != 4))&&rights kind r
end
theorem right_eq (n:Node):right n=(topB n.kind n.set n.kids.length n.min n.max&&rights n.kind n.kids):=by cases n;rw [right]<;>rfl
theorem rights_iff (kind:Int) (ns:List Node):rights kind ns=true↔∀n∈ns,right n=true∧¬(n.kind=kind∧kind≠4):=by
 induction ns with
 | nil=>simp [rights]
 | cons a r ih=>rw [rights,Bool.and_eq_true,ih];simp;intro _;omega
variable {l:List UInt8}
end Rx
end Go.Proofs.YtpplemjjeefpdaaGreatDoor
namespace Go.Proofs.YtpplemjjeefpdaaGreatDoor.Nm
theorem letterB_lt {c:Int} (h:letterB c=true):0≤c∧c<128:=by
 simp [letterB] at h;omega
theorem digitB_lt {c:Int} (h:digitB c=true):0≤c∧c<128:=by
 simp [digitB] at h;omega
theorem signB_lt {c:Int} {f:Bool} (h:signB c f=true):0≤c∧c<128:=by
 simp only [signB,Bool.or_eq_true,Bool.and_eq_true] at h
 rcases h with h | ⟨_,h⟩
 · exact letterB_lt h
 · exact digitB_lt h
theorem run_le (g:Int→Bool→Bool):∀f l,run g f l≤l.length
 | _,[]=>Nat.le_refl _
 | f,c::r=>by
   unfold run
   have:=run_le g false r
   split<;>simp;omega
theorem run_app (g:Int→Bool→Bool):∀(f:Bool) (l r:List UInt8),run g f l=l.length→(∀c∈r.head?,g c.toNat false=false)→(f=true→l≠[])→run g f (l++r)=l.length
 | f,[],r,_,h,hf=>by
   cases f
   · cases r with
     | nil=>rfl
     | cons c r=>simp [run,h c (by simp)]
   · exact absurd rfl (hf rfl)
 | f,c::l,r,hl,h,_=>by
   simp only [run] at hl
   split at hl
   · rename_i hc
     simp only [List.cons_append,run,hc,if_true,List.length_cons]
     rw [run_app g false l r (by simpa using hl) h (by simp)]
   · simp at hl
theorem run_label {l:List UInt8} (h:labelB l=true) (r:List UInt8) (hr:∀c∈r.head?,signB c.toNat false=false):run signB true (l++r)=l.length:=by
 simp only [labelB,Bool.and_eq_true,decide_eq_true_eq,allB,beq_iff_eq] at h
 exact run_app _ _ _ _ h.2 hr (fun _ e=>by subst e;simp at h)
end Go.Proofs.YtpplemjjeefpdaaGreatDoor.Nm
namespace Go.Proofs.YtpplemjjeefpdaaGreatDoor
open Go Go.Lib
namespace Qu
theorem decode_rune (n b0 b1 b2 b3:Nat) (h0:b0<256) (h1:b1<256) (h2:b2<256) (h3:b3<256):
 (runeN n b0 b1 b2 b3=0∧decodeN n b0 b1 b2 b3=(65533,1))∨(runeN n b0 b1 b2 b3=1∧b0<128∧decodeN n b0 b1 b2 b3=(b0,1))∨
 (2≤runeN n b0 b1 b2 b3∧128≤b0∧128≤(decodeN n b0 b1 b2 b3).1∧(decodeN n b0 b1 b2 b3).2=runeN n b0 b1 b2 b3):=by
 by_cases c1:b0<128
 · right;left
   exact ⟨by unfold runeN;rw [if_pos c1],c1,by unfold decodeN;rw [if_pos c1]⟩
 by_cases c2:194≤b0∧b0≤223∧1<n∧128≤b1∧b1≤191
 · right;right
   have e1:runeN n b0 b1 b2 b3=2:=by unfold runeN;rw [if_neg c1,if_pos c2]
   have e2:decodeN n b0 b1 b2 b3=(b0 % 32*64+b1 % 64,2):=by
    unfold decodeN
    rw [if_neg c1,if_pos (by omega),if_pos (by omega)]
   rw [e1,e2]
   exact ⟨by omega,by omega,by dsimp only;omega,rfl⟩
 by_cases c3:224≤b0∧b0≤239∧(2<n∧128≤b1∧b1≤191∧128≤b2∧b2≤191)∧(b0≠224∨160≤b1)∧(b0≠237∨b1<160)
 · right;right
   have e1:runeN n b0 b1 b2 b3=3:=by unfold runeN;rw [if_neg c1,if_neg c2,if_pos c3]
   have e2:decodeN n b0 b1 b2 b3=(b0 % 16*4096+b1 % 64*64+b2 % 64,3):=by
    unfold decodeN
    rw [if_neg c1,if_neg (by omega),if_pos (by omega),if_pos (by omega)]
   rw [e1,e2]
   exact ⟨by omega,by omega,by dsimp only;omega,rfl⟩
 by_cases c4:240≤b0∧b0≤244∧(3<n∧128≤b1∧b1≤191∧128≤b2∧b2≤191∧128≤b3∧b3≤191)∧(b0≠240∨144≤b1)∧(b0≠244∨b1<144)
 · right;right
   have e1:runeN n b0 b1 b2 b3=4:=by unfold runeN;rw [if_neg c1,if_neg c2,if_neg c3,if_pos c4]
   have e2:decodeN n b0 b1 b2 b3=(b0 % 8*262144+b1 % 64*4096+b2 % 64*64+b3 % 64,4):=by
    unfold decodeN
    rw [if_neg c1,if_neg (by omega),if_neg (by omega),if_pos (by omega),if_pos (by omega)]
   rw [e1,e2]
   exact ⟨by omega,by omega,by dsimp only;omega,rfl⟩
 · left
   refine ⟨by unfold runeN;rw [if_neg c1,if_neg c2,if_neg c3,if_neg c4],?_⟩
   unfold decodeN
   rw [if_neg c1]
   by_cases d2:b0 / 32=6∧(1<n∧b1 / 64=2)
   · rw [if_pos d2,if_neg (by omega)]
   rw [if_neg d2]
   by_cases d3:b0 / 16=14∧(1<n∧b1 / 64=2)∧(2<n∧b2 / 64=2)
   · rw [if_pos d3,if_neg (by omega)]
   rw [if_neg d3]
   by_cases d4:b0 / 8=30∧(1<n∧b1 / 64=2)∧(2<n∧b2 / 64=2)∧(3<n∧b3 / 64=2)
   · rw [if_pos d4,if_neg (by omega)]
   rw [if_neg d4]
theorem bt_lt (l:List UInt8) (i:Nat):bt l i<256:=by
 unfold bt
 split
 · rename_i b _;exact b.toNat_lt
 · omega
theorem unit_pos (l:List UInt8) (i:Nat):1≤unit l i:=by unfold unit;split<;>omega
theorem runeN_le (n b0 b1 b2 b3:Nat) (hn:0<n):runeN n b0 b1 b2 b3≤n:=by
 unfold runeN
 repeat' split
 all_goals omega
theorem unit_le {l:List UInt8} {i:Nat} (h:i<l.length):i+unit l i≤l.length:=by
 have:=runeN_le (l.length-i) (bt l i) (bt l (i+1)) (bt l (i+2)) (bt l (i+3)) (by omega)
 unfold unit rune
 split<;>omega
def cp (l:List UInt8) (i:Nat):Nat:=(decodeN (l.length-i) (bt l i) (bt l (i+1)) (bt l (i+2)) (bt l (i+3))).1
theorem cp_unit (l:List UInt8) (i:Nat):decodeN (l.length-i) (bt l i) (bt l (i+1)) (bt l (i+2)) (bt l (i+3))=(cp l i,unit l i):=by
 have h:=decode_rune (l.length-i) (bt l i) (bt l (i+1)) (bt l (i+2)) (bt l (i+3)) (bt_lt _ _) (bt_lt _ _) (bt_lt _ _) (bt_lt _ _)
 refine Prod.ext rfl ?_
 show _=unit l i
 unfold unit rune
 rcases h with ⟨h1,h2⟩ | ⟨h1,_,h2⟩ | ⟨h1,_,_,h2⟩
 · rw [if_pos h1,h2]
 · rw [if_neg (by omega),h1,h2]
 · rw [if_neg (by omega),h2]
theorem cp_small (l:List UInt8) (i b:Nat) (hb:b<128):cp l i=b↔bt l i=b:=by
 have h:=decode_rune (l.length-i) (bt l i) (bt l (i+1)) (bt l (i+2)) (bt l (i+3)) (bt_lt _ _) (bt_lt _ _) (bt_lt _ _) (bt_lt _ _)
 unfold cp
 by_cases c:bt l i<128
 · have e:decodeN (l.length-i) (bt l i) (bt l (i+1)) (bt l (i+2)) (bt l (i+3))=(bt l i,1):=by unfold decodeN;rw [if_pos c]
   rw [e]
 · rcases h with ⟨h1,h2⟩ | ⟨h1,h3,h2⟩ | ⟨h1,h3,h4,h2⟩
   · rw [h2];dsimp only;omega
   · omega
   · omega
theorem plain_safe (l:List UInt8) (i:Nat):(32≤cp l i∧cp l i≠127∧(cp l i≠65533∨1<unit l i))↔safe l i=true:=by
 have h:=decode_rune (l.length-i) (bt l i) (bt l (i+1)) (bt l (i+2)) (bt l (i+3)) (bt_lt _ _) (bt_lt _ _) (bt_lt _ _) (bt_lt _ _)
 have hu:=cp_unit l i
 have e:cp l i=(decodeN (l.length-i) (bt l i) (bt l (i+1)) (bt l (i+2)) (bt l (i+3))).1:=rfl
 unfold safe unit rune
 simp only [Bool.and_eq_true,decide_eq_true_eq]
 rcases h with ⟨h1,h2⟩ | ⟨h1,h3,h2⟩ | ⟨h1,h3,h4,h2⟩
 · rw [e,h2,h1];simp
 · rw [e,h2,h1];simp;omega
 · rw [e,if_neg (by omega)]
   constructor
   · rintro ⟨a,b,c⟩;exact ⟨⟨by omega,by omega⟩,by omega⟩
   · rintro ⟨⟨a,b⟩,c⟩;exact ⟨by omega,by omega,Or.inr (by omega)⟩
theorem encs_fuel (l:List UInt8):∀(f g i:Nat),l.length<i+f→l.length<i+g→encs l f i=encs l g i
 | 0,0,_,_,_=>rfl
 | 0,g+1,i,h,_=>by rw [encs,encs,if_neg (by omega)]
 | f+1,0,i,_,h=>by rw [encs,encs,if_neg (by omega)]
 | f+1,g+1,i,h,h'=>by
   rw [encs,encs]
   by_cases c:i<l.length
   · rw [if_pos c,if_pos c,encs_fuel l f g (i+unit l i) (by have:=unit_pos l i;omega) (by have:=unit_pos l i;omega)]
   · rw [if_neg c,if_neg c]
theorem rest_in {l:List UInt8} {i:Nat} (h:i<l.length):rest l i=enc l i++rest l (i+unit l i):=by
 have hp:=unit_pos l i
 unfold rest
 rw [encs,if_pos h,encs_fuel l l.length (l.length+1) _ (by omega) (by omega)]
theorem rest_end {l:List UInt8} {i:Nat} (h:l.length≤i):rest l i=[]:=by unfold rest;rw [encs,if_neg (by omega)]
theorem text_eq (l:List UInt8):text l=34::(rest l 0++[34]):=rfl
theorem esc_two {l:List UInt8} {i b n:Nat} (h:esc l i=.ok b n):2≤n∧i+n≤l.length∧b<256:=by
 have h1:=bt_lt l (i+1)
 have hd:∀b,dig b≤16:=fun b=>by unfold dig;(repeat' split)<;>omega
 have h2:=hd (bt l (i+2))
 have h3:=hd (bt l (i+3))
 unfold esc at h
 (repeat' split at h)<;>first | (cases h;done) | (obtain ⟨rfl,rfl⟩:=Esc.ok.inj h;omega)
theorem un_pos {l:List UInt8} {i n:Nat} {t:List UInt8} (hi:i<l.length) (h:un l i=.ok t n):1≤n∧i+n≤l.length:=by
 unfold un at h
 split at h
 · cases he:esc l i with
   | ok b m=>
     rw [he] at h
     obtain ⟨rfl,rfl⟩:=Un.ok.inj h
     have:=esc_two he
     omega
   | bad e=>rw [he] at h;cases h
 · split at h
   · obtain ⟨rfl,rfl⟩:=Un.ok.inj h
     exact ⟨unit_pos l i,unit_le hi⟩
   · cases h
theorem body_fuel (l:List UInt8):∀(f g:Nat) (out:List UInt8) (i:Nat),l.length<i+f→l.length<i+g→body l f out i=body l g out i
 | 0,0,_,_,_,_=>rfl
 | 0,g+1,out,i,h,_=>by rw [body,body,if_neg (by omega)]
 | f+1,0,out,i,_,h=>by rw [body,body,if_neg (by omega)]
 | f + 1,g+1,out,i,h,h'=>by
   rw [body,body]
   by_cases c:i<l.length
   · rw [if_pos c,if_pos c]
     by_cases d:bt l i=34
     · rw [if_pos d,if_pos d]
     · rw [if_neg d,if_neg d]
       cases hu:un l i with
       | ok t n=>
         have:=un_pos c hu
         exact body_fuel l f g (out++t) (i+n) (by omega) (by omega)
       | bad e p=>rfl
   · rw [if_neg c,if_neg c]
theorem go_in {l out:List UInt8} {i:Nat} (h:i<l.length):go l out i=if bt l i=34 then .ok out (i+1) else match un l i with | .ok t n=>go l (out++t) (i+n) | .bad e p=>.bad e p:=by
 unfold go
 rw [body,if_pos h]
 split
 · rfl
 · cases hu:un l i with
   | ok t n=>
     have:=un_pos h hu
     exact body_fuel l l.length (l.length+1) _ _ (by omega) (by omega)
   | bad e p=>rfl
theorem go_end {l out:List UInt8} {i:Nat} (h:l.length≤i):go l out i=.bad 1 l.length:=by unfold go;rw [body,if_neg (by omega)]
end Qu
end Go.Proofs.YtpplemjjeefpdaaGreatDoor
