/- Texts that the proof leans on. -/
import Derived.Test.YtjhbgkakhaonaaaGreatDoorK328
import Derived.Test.YtjhbgkakhaonaaaGreatDoorK331
set_option linter.unusedVariables false
set_option linter.unusedSimpArgs false
set_option maxRecDepth 100000
set_option maxHeartbeats 4000000
namespace Go.Proofs.YtjhbgkakhaonaaaGreatDoor
open Go Go.RowKit
open Ab Sh
namespace Gn
def l18_Great_s (R:RF) (r:Bool):V:=fB r
def l18_Great_l1 (p0:GDfa):Nat→Int→Option Bool
| 0,_=>none
| m+1,v1=>
 cond (cm .lss v1 (ll (rw _ (cLs (cI .i64)) p0.Next)))
 ((at_ p0.Next v1).bind fun r2=>
 cond (cm .gtr (ll (rw _ (cI .i64) r2)) 260)
 (some true)
 ((l18_Great_l1 p0 m) (ar .add .i64 v1 1)))
 (some false)
def l18_Great_g (N:Nat) (p0:GDfa):Option Bool:=
 (cond (cm .gtr (ll (rw _ (cLs (cI .i64)) p0.Next)) 60)
 (some true)
 (cond (cm .gtr (ll (rw _ cB p0.Final)) 60)
 (some true)
 (some (cm .gtr (ll (rw _ (cI .i64) p0.Block)) 300))):Option Bool).bind fun j1=>
 cond (j1)
 (some true)
 (l18_Great_l1 p0 N 0)
def blocks_Right_s (R:RF) (r:Bool):V:=fB r
def blocks_Right_l1 (p0:List Int):Nat→Int→Int→Option Bool
| 0,_,_=>none
| m+1,v1,v2=>
 cond (cm .lss v2 (ll (rw _ (cI .i64) p0)))
 ((at_ p0 v2).bind fun r3=>
 (cond (cm .lss r3 0)
 (some true)
 (some (cm .gtr r3 v1)):Option Bool).bind fun j3=>
 cond (j3)
 (some false)
 ((cond (cm .eql r3 v1)
 (some (ar .add .i64 v1 1))
 (some v1):Option Int).bind fun j4=>
 (blocks_Right_l1 p0 m) j4 (ar .add .i64 v2 1)))
 (some (cm .eql (ll (rw _ (cI .i64) p0)) 256))
def blocks_Right_g (N:Nat) (p0:List Int):Option Bool:=
 blocks_Right_l1 p0 N 0 0
def blocks_Count_s (R:RF) (r:Int):V:=fI .i64 r
def blocks_Count_l1 (p0:List Int):Nat→Int→Int→Option Int
| 0,_,_=>none
| m+1,v2,v3=>
 cond (cm .lss v3 (ll (rw _ (cI .i64) p0)))
 ((at_ p0 v3).bind fun r4=>
 (blocks_Count_l1 p0 m) (mx v2 (ar .add .i64 r4 1)) (ar .add .i64 v3 1))
 (some v2)
def blocks_Count_g (N:Nat) (p0:List Int):Option Int:=
 (blocks_Right_g N p0).bind fun a1=>
 cond (!a1)
 (some 0)
 (blocks_Count_l1 p0 N 0 0)
def dfa_Right_s (R:RF) (r:Bool):V:=fB r
def dfa_Right_l4 (p0:GDfa) (r3:List Int):Nat→Int→Option Bool
| 0,_=>none
| m+1,v4=>
 cond (cm .lss v4 (ll (rw _ (cI .i64) r3)))
 ((at_ r3 v4).bind fun r5=>
 (cond (cm .lss r5 0)
 (some true)
 (some (cm .geq r5 (ll (rw _ (cLs (cI .i64)) p0.Next)))):Option Bool).bind fun j6=>
 cond (j6)
 (some (cm .geq v4 0))
 ((dfa_Right_l4 p0 r3 m) (ar .add .i64 v4 1)))
 (some (cm .geq (-1) 0))
def dfa_Right_l1 (N:Nat) (p0:GDfa) (a1:Int):Nat→Int→Option Bool
| 0,_=>none
| m+1,v2=>
 cond (cm .lss v2 (ll (rw _ (cLs (cI .i64)) p0.Next)))
 ((at_ p0.Next v2).bind fun r3=>
 (cond (cm .neq (ll (rw _ (cI .i64) r3)) a1)
 (some true)
 (dfa_Right_l4 p0 r3 N 0):Option Bool).bind fun j7=>
 cond (j7)
 (some false)
 ((dfa_Right_l1 N p0 a1 m) (ar .add .i64 v2 1)))
 (some (cm .gtr a1 0))
def dfa_Right_g (N:Nat) (p0:GDfa):Option Bool:=
 (cond (cm .lss (ll (rw _ (cLs (cI .i64)) p0.Next)) 1)
 (some true)
 (cond (cm .gtr (ll (rw _ (cLs (cI .i64)) p0.Next)) 4096)
 (some true)
 (cond (cm .neq (ll (rw _ cB p0.Final)) (ll (rw _ (cLs (cI .i64)) p0.Next)))
 (some true)
 (cond (cm .lss p0.Start 0)
 (some true)
 (some (cm .geq p0.Start (ll (rw _ (cLs (cI .i64)) p0.Next))))))):Option Bool).bind fun j1=>
 cond (j1)
 (some false)
 ((blocks_Count_g N p0.Block).bind fun a1=>
 dfa_Right_l1 N p0 a1 N 0)
def dfa_State_s (R:RF) (r:Int):V:=fI .i64 r
def dfa_State_l1 (p0:GDfa) (p1:ByteArray):Nat→Int→Int→Option Int
| 0,_,_=>none
| m+1,v2,v3=>
 cond (cm .lss v3 (sl p1))
 ((at_ p0.Next v2).bind fun r4=>
 cond (sinB p1 v3) ((at_ p0.Block (sa p1 v3)).bind fun r5=>
 (at_ r4 r5).bind fun r6=>
 (dfa_State_l1 p0 p1 m) r6 (ar .add .i64 v3 1)) none)
 (some v2)
def dfa_State_g (N:Nat) (p0:GDfa) (p1:ByteArray):Option Int:=
 (dfa_Right_g N p0).bind fun a1=>
 cond (!a1)
 (some (-1))
 (dfa_State_l1 p0 p1 N p0.Start 0)
def dfa_Run_s (R:RF) (r:Bool):V:=fB r
def dfa_Run_g (N:Nat) (p0:GDfa) (p1:ByteArray):Option Bool:=
 (dfa_State_g N p0 p1).bind fun a1=>
 (cond (cm .geq a1 0)
 ((at_ p0.Final a1).bind fun r2=>
 some r2)
 (some false):Option Bool).bind fun j1=>
 some j1
def blocks_Of_s (R:RF) (r:List Int):V:=.t (.slc (R _ (cI .i64) r))
def blocks_Of_l3 (k1:Int→List Int→Option (List Int)) (v2:Int) (v3:List Int) (r4:CSet) (l5:List Int):Nat→Int→List Int→List ((Int × Int)× Int)→Option (List Int)
| 0,_,_,_=>none
| m+1,v6,v7,v8=>
 cond (cm .lss v6 (ll (rw _ (cI .i64) l5)))
 ((charset_Has_g r4 (cv .u8 v6)).bind fun a9=>
 cond (a9)
 ((at_ v3 v6).bind fun r10=>
 (at_ v3 v6).bind fun r11=>
 mgt kP v8 (r11,1) (fun n12=>
 (cond (!true)
 (mpt kP v8 (r11,1) (ll (rw _ (cMp kP) v8)) fun m13=>
 some (ll (rw _ (cMp kP) v8),m13))
 (some (n12,v8)):Option (Int ×(List ((Int × Int)× Int)))).bind fun j21=>
 (at_ v7 v6).bind fun r14=>
 (at_ v7 v6).bind fun r15=>
 put (cI .i64) v7 v6 j21.1 fun l16=>
 (blocks_Of_l3 k1 v2 v3 r4 l5 m) (ar .add .i64 v6 1) l16 j21.2)
 ((cond (!false)
 (mpt kP v8 (r11,1) (ll (rw _ (cMp kP) v8)) fun m17=>
 some (ll (rw _ (cMp kP) v8),m17))
 (some (0,v8)):Option (Int ×(List ((Int × Int)× Int)))).bind fun j22=>
 (at_ v7 v6).bind fun r18=>
 (at_ v7 v6).bind fun r19=>
 put (cI .i64) v7 v6 j22.1 fun l20=>
 (blocks_Of_l3 k1 v2 v3 r4 l5 m) (ar .add .i64 v6 1) l20 j22.2))
 ((at_ v3 v6).bind fun r21=>
 (at_ v3 v6).bind fun r22=>
 mgt kP v8 (r22,0) (fun n23=>
 (cond (!true)
 (mpt kP v8 (r22,0) (ll (rw _ (cMp kP) v8)) fun m24=>
 some (ll (rw _ (cMp kP) v8),m24))
 (some (n23,v8)):Option (Int ×(List ((Int × Int)× Int)))).bind fun j23=>
 (at_ v7 v6).bind fun r25=>
 (at_ v7 v6).bind fun r26=>
 put (cI .i64) v7 v6 j23.1 fun l27=>
 (blocks_Of_l3 k1 v2 v3 r4 l5 m) (ar .add .i64 v6 1) l27 j23.2)
 ((cond (!false)
 (mpt kP v8 (r22,0) (ll (rw _ (cMp kP) v8)) fun m28=>
 some (ll (rw _ (cMp kP) v8),m28))
 (some (0,v8)):Option (Int ×(List ((Int × Int)× Int)))).bind fun j24=>
 (at_ v7 v6).bind fun r29=>
 (at_ v7 v6).bind fun r30=>
 put (cI .i64) v7 v6 j24.1 fun l31=>
 (blocks_Of_l3 k1 v2 v3 r4 l5 m) (ar .add .i64 v6 1) l31 j24.2)))
 (k1 (ar .add .i64 v2 1) v7)
def blocks_Of_l1 (N:Nat) (p0:List CSet):Nat→Int→List Int→Option (List Int)
| 0,_,_=>none
| m+1,v2,v3=>
 cond (cm .lss v2 (ll (rw _ cSet p0)))
 ((at_ p0 v2).bind fun r4=>
 (zro (cI .i64) 0 256 256).bind fun l5=>
 blocks_Of_l3 (blocks_Of_l1 N p0 m) v2 v3 r4 l5 N 0 l5 [])
 (some v3)
def blocks_Of_g (N:Nat) (p0:List CSet):Option (List Int):=
 (zro (cI .i64) 0 256 256).bind fun l1=>
 blocks_Of_l1 N p0 N 0 l1
def blocks_First_s (R:RF) (r:Int):V:=fI .i64 r
def blocks_First_l1 (p0:List Int) (p1:Int):Nat→Int→Option Int
| 0,_=>none
| m+1,v2=>
 cond (cm .lss v2 (ll (rw _ (cI .i64) p0)))
 ((at_ p0 v2).bind fun r3=>
 cond (cm .eql r3 p1)
 (some v2)
 ((blocks_First_l1 p0 p1 m) (ar .add .i64 v2 1)))
 (some (-1))
def blocks_First_g (N:Nat) (p0:List Int) (p1:Int):Option Int:=
 (blocks_Right_g N p0).bind fun a1=>
 cond (!a1)
 (some (-1))
 (blocks_First_l1 p0 p1 N 0)
def dfa_builder_add_s (R:RF) (r:Gdfa_builder):V:=.tup []
def dfa_builder_add_t (R:RF) (r:Gdfa_builder):List Row:=[.box 64 [.t (.slc (R _ cSet r.p.Sets)),fB r.p.None,.t (.slc (R _ (cI .i64) r.p.First)),.t (.slc (R _ (cI .i64) r.p.Last)),.t (.slc (R _ (cLs (cI .i64)) r.p.Next)),.t (.slc (R _ (cLs (cI .i64)) r.in_)),.mp 1,.lst 2,fI .i64 r.out.Start,.lst 3,.t (.slc (R _ (cI .i64) r.out.Block)),.lst 4],.map 0 (R _ (cMp Key.s) r.seen),.list 23 1 (R _ (cLs (cI .i64)) r.sets),.list 4 1 (R _ cB r.out.Final),.list 23 1 (R _ (cLs (cI .i64)) r.out.Next)]
def dfa_builder_add_g (p1:List Int) (p2:Bool) (s0:Gdfa_builder):Option Gdfa_builder:=
 (app (cLs (cI .i64)) s0.sets [p1]).bind fun l1=>
 (app (cLs (cI .i64)) s0.out.Next [[]]).bind fun l2=>
 (app cB s0.out.Final [p2]).bind fun l3=>
 some (⟨s0.p,s0.in_,s0.seen,l1,(⟨s0.out.Start,l3,s0.out.Block,l2⟩:GDfa)⟩:Gdfa_builder)
def dfa_key_s (R:RF) (r:ByteArray):V:=fS r
def dfa_key_l1 (p0:List Bool):Nat→Int→List Int→Option ByteArray
| 0,_,_=>none
| m+1,v4,v5=>
 cond (cm .lss v4 (ll (rw _ cB p0)))
 ((at_ p0 v4).bind fun r6=>
 (cond (r6)
 ((app (cI .u8) v5 [1]).bind fun l7=>
 some l7)
 ((app (cI .u8) v5 [0]).bind fun l8=>
 some l8):Option (List Int)).bind fun j4=>
 (dfa_key_l1 p0 m) (ar .add .i64 v4 1) j4)
 ((strB v5).bind fun s9=>
 some s9)
def dfa_key_g (N:Nat) (p0:List Bool):Option ByteArray:=
 cond (cm .lss 0 (ll (rw _ cB p0)))
 ((at_ p0 0).bind fun r1=>
 (cond (r1)
 ((app (cI .u8) [] [1]).bind fun l2=>
 some (l2,l2))
 ((app (cI .u8) [] [0]).bind fun l3=>
 some (l3,l3)):Option ((List Int)×(List Int))).bind fun j1=>
 dfa_key_l1 p0 N (ar .add .i64 0 1) j1.2)
 (some ByteArray.empty)
def dfa_builder_meet_s (R:RF) (r:Int × Gdfa_builder):V:=fI .i64 r.1
def dfa_builder_meet_t (R:RF) (r:Int × Gdfa_builder):List Row:=[.box 64 [.t (.slc (R _ cSet r.2.p.Sets)),fB r.2.p.None,.t (.slc (R _ (cI .i64) r.2.p.First)),.t (.slc (R _ (cI .i64) r.2.p.Last)),.t (.slc (R _ (cLs (cI .i64)) r.2.p.Next)),.t (.slc (R _ (cLs (cI .i64)) r.2.in_)),.mp 1,.lst 2,fI .i64 r.2.out.Start,.lst 3,.t (.slc (R _ (cI .i64) r.2.out.Block)),.lst 4],.map 0 (R _ (cMp Key.s) r.2.seen),.list 23 1 (R _ (cLs (cI .i64)) r.2.sets),.list 4 1 (R _ cB r.2.out.Final),.list 23 1 (R _ (cLs (cI .i64)) r.2.out.Next)]
def dfa_builder_meet_l1 (N:Nat) (p1:List Bool) (s0:Gdfa_builder) (m3:List (ByteArray × Int)):Nat→Bool→Int→List Int→Option (Int × Gdfa_builder)
| 0,_,_,_=>none
| m+1,v4,v5,v6=>
 cond (cm .lss v5 (ll (rw _ cB p1)))
 ((at_ p1 v5).bind fun r7=>
 (cond (r7)
 ((app (cI .i64) v6 [v5]).bind fun l8=>
 (cond (v4)
 (some true)
 ((slices_Contains_150_g N s0.p.Last v5).bind fun a9=>
 some a9):Option Bool).bind fun j3=>
 some (j3,l8))
 (some (v4,v6)):Option (Bool ×(List Int))).bind fun j4=>
 (dfa_builder_meet_l1 N p1 s0 m3 m) j4.1 (ar .add .i64 v5 1) j4.2)
 ((dfa_builder_add_g v6 v4 (⟨s0.p,s0.in_,m3,s0.sets,s0.out⟩:Gdfa_builder)).bind fun a10=>
 some (ll (rw _ (cLs (cI .i64)) s0.out.Next),a10))
def dfa_builder_meet_g (N:Nat) (p1:List Bool) (s0:Gdfa_builder):Option (Int × Gdfa_builder):=
 (dfa_key_g N p1).bind fun a1=>
 mgt Key.s s0.seen a1 (fun n2=>
 some (n2,s0))
 (cond (cm .eql (ll (rw _ (cLs (cI .i64)) s0.out.Next)) 4096)
 (some ((-1),s0))
 (mpt Key.s s0.seen a1 (ll (rw _ (cLs (cI .i64)) s0.out.Next)) fun m3=>
 dfa_builder_meet_l1 N p1 s0 m3 N false 0 []))
def dfa_builder_step_s (R:RF) (r:Bool × Gdfa_builder):V:=fB r.1
def dfa_builder_step_t (R:RF) (r:Bool × Gdfa_builder):List Row:=[.box 64 [.t (.slc (R _ cSet r.2.p.Sets)),fB r.2.p.None,.t (.slc (R _ (cI .i64) r.2.p.First)),.t (.slc (R _ (cI .i64) r.2.p.Last)),.t (.slc (R _ (cLs (cI .i64)) r.2.p.Next)),.t (.slc (R _ (cLs (cI .i64)) r.2.in_)),.mp 1,.lst 2,fI .i64 r.2.out.Start,.lst 3,.t (.slc (R _ (cI .i64) r.2.out.Block)),.lst 4],.map 0 (R _ (cMp Key.s) r.2.seen),.list 23 1 (R _ (cLs (cI .i64)) r.2.sets),.list 4 1 (R _ cB r.2.out.Final),.list 23 1 (R _ (cLs (cI .i64)) r.2.out.Next)]
def dfa_builder_step_l2 (s0:Gdfa_builder):Nat→Int→List Bool→Option (List Bool)
| 0,_,_=>none
| m+1,v2,v3=>
 cond (cm .lss v2 (ll (rw _ (cI .i64) s0.p.First)))
 ((at_ s0.p.First v2).bind fun r4=>
 (at_ v3 r4).bind fun r5=>
 (at_ v3 r4).bind fun r6=>
 put cB v3 r4 true fun l7=>
 (dfa_builder_step_l2 s0 m) (ar .add .i64 v2 1) l7)
 (some v3)
def dfa_builder_step_l5 (k3:Int→List Bool→Option (Bool × Gdfa_builder)) (v10:Int) (r13:List Int):Nat→Int→List Bool→Option (Bool × Gdfa_builder)
| 0,_,_=>none
| m+1,v14,v15=>
 cond (cm .lss v14 (ll (rw _ (cI .i64) r13)))
 ((at_ r13 v14).bind fun r16=>
 (at_ v15 r16).bind fun r17=>
 (at_ v15 r16).bind fun r18=>
 put cB v15 r16 true fun l19=>
 (dfa_builder_step_l5 k3 v10 r13 m) (ar .add .i64 v14 1) l19)
 (k3 (ar .add .i64 v10 1) v15)
def dfa_builder_step_l7 (N:Nat) (k6:Int→List CSet→Bool→List Int→List Int→List (List Int)→List (List Int)→Int→List Int→List (ByteArray × Int)→List (List Int)→List Bool→List (List Int)→List Int→Option (Bool × Gdfa_builder)) (v21:Int) (v24:List Int) (r35:List Int) (v25:List Int) (v22:List CSet) (v23:Bool) (v26:List (List Int)) (v27:List (List Int)) (v28:Int) (v29:List Int) (v30:List (ByteArray × Int)) (v31:List (List Int)) (v32:List Bool) (v33:List (List Int)) (v34:List Int) (v11:List Bool):Nat→Int→List Bool→Option (Bool × Gdfa_builder)
| 0,_,_=>none
| m+1,v37,v38=>
 cond (cm .lss v37 (ll (rw _ (cI .i64) r35)))
 ((at_ r35 v37).bind fun r39=>
 (at_ v11 r39).bind fun r40=>
 (at_ v11 r39).bind fun r41=>
 (at_ v38 r39).bind fun r42=>
 (at_ v38 r39).bind fun r43=>
 put cB v38 r39 r41 fun l44=>
 (dfa_builder_step_l7 N k6 v21 v24 r35 v25 v22 v23 v26 v27 v28 v29 v30 v31 v32 v33 v34 v11 m) (ar .add .i64 v37 1) l44)
 ((dfa_builder_meet_g N v38 (⟨(⟨v22,v23,v24,v25,v26⟩:GSpots),v27,v30,v31,(⟨v28,v32,v29,v33⟩:GDfa)⟩:Gdfa_builder)).bind fun a45=>
 (at_ v34 v21).bind fun r46=>
 (at_ v34 v21).bind fun r47=>
 put (cI .i64) v34 v21 a45.1 fun l48=>
 (at_ l48 v21).bind fun r49=>
 (at_ l48 v21).bind fun r50=>
 cond (cm .lss r50 0)
 (some (false,a45.2))
 (k6 (ar .add .i64 v21 1) a45.2.p.Sets a45.2.p.None a45.2.p.First a45.2.p.Last a45.2.p.Next a45.2.in_ a45.2.out.Start a45.2.out.Block a45.2.seen a45.2.sets a45.2.out.Final a45.2.out.Next l48))
def dfa_builder_step_l6 (N:Nat) (p1:Int) (s0:Gdfa_builder) (v11:List Bool):Nat→Int→List CSet→Bool→List Int→List Int→List (List Int)→List (List Int)→Int→List Int→List (ByteArray × Int)→List (List Int)→List Bool→List (List Int)→List Int→Option (Bool × Gdfa_builder)
| 0,_,_,_,_,_,_,_,_,_,_,_,_,_,_=>none
| m+1,v21,v22,v23,v24,v25,v26,v27,v28,v29,v30,v31,v32,v33,v34=>
 cond (cm .lss v21 (ll (rw _ (cLs (cI .i64)) s0.in_)))
 ((at_ s0.in_ v21).bind fun r35=>
 (zro cB false (ll (rw _ cB v11)) (ll (rw _ cB v11))).bind fun l36=>
 dfa_builder_step_l7 N (dfa_builder_step_l6 N p1 s0 v11 m) v21 v24 r35 v25 v22 v23 v26 v27 v28 v29 v30 v31 v32 v33 v34 v11 N 0 l36)
 ((zro (cI .i64) 0 (ll (rw _ (cI .i64) v34)) (ll (rw _ (cI .i64) v34))).bind fun l51=>
 (at_ v33 p1).bind fun r52=>
 (at_ v33 p1).bind fun r53=>
 (at_ v33 p1).bind fun r54=>
 (cpy (cI .i64) l51 v34).bind fun l56=>
 put (cLs (cI .i64)) v33 p1 l56 fun l55=>
 some (true,(⟨(⟨v22,v23,v24,v25,v26⟩:GSpots),v27,v30,v31,(⟨v28,v32,v29,l55⟩:GDfa)⟩:Gdfa_builder)))
def dfa_builder_step_l3 (N:Nat) (p1:Int) (s0:Gdfa_builder) (r9:List Int):Nat→Int→List Bool→Option (Bool × Gdfa_builder)
| 0,_,_=>none
| m+1,v10,v11=>
 cond (cm .lss v10 (ll (rw _ (cI .i64) r9)))
 ((at_ r9 v10).bind fun r12=>
 (at_ s0.p.Next r12).bind fun r13=>
 dfa_builder_step_l5 (dfa_builder_step_l3 N p1 s0 r9 m) v10 r13 N 0 v11)
 ((zro (cI .i64) 0 (ll (rw _ (cLs (cI .i64)) s0.in_)) (ll (rw _ (cLs (cI .i64)) s0.in_))).bind fun l20=>
 dfa_builder_step_l6 N p1 s0 v11 N 0 s0.p.Sets s0.p.None s0.p.First s0.p.Last s0.p.Next s0.in_ s0.out.Start s0.out.Block s0.seen s0.sets s0.out.Final s0.out.Next l20)
def dfa_builder_step_g (N:Nat) (p1:Int) (s0:Gdfa_builder):Option (Bool × Gdfa_builder):=
 (zro cB false (ll (rw _ cSet s0.p.Sets)) (ll (rw _ cSet s0.p.Sets))).bind fun l1=>
 (cond (cm .eql p1 0)
 (dfa_builder_step_l2 s0 N 0 l1)
 (some l1):Option (List Bool)).bind fun j1=>
 (at_ s0.sets p1).bind fun r8=>
 (at_ s0.sets p1).bind fun r9=>
 dfa_builder_step_l3 N p1 s0 r9 N 0 j1
def dfa_Of_s (R:RF) (r:GDfa × Int):V:=.tup [.agg [fI .i64 r.1.Start,.t (.slc (R _ cB r.1.Final)),.t (.slc (R _ (cI .i64) r.1.Block)),.t (.slc (R _ (cLs (cI .i64)) r.1.Next))],fI .i64 r.2]
def dfa_Of_l2 (k1:Int→List (List Int)→Option (GDfa × Int)) (p0:GSpots) (v4:Int) (v5:List (List Int)) (a6:Int):Nat→Int→List Int→Option (GDfa × Int)
| 0,_,_=>none
| m+1,v7,v8=>
 cond (cm .lss v7 (ll (rw _ cSet p0.Sets)))
 ((at_ p0.Sets v7).bind fun r9=>
 (charset_Has_g r9 (cv .u8 a6)).bind fun a10=>
 (cond (a10)
 ((app (cI .i64) v8 [v7]).bind fun l11=>
 some l11)
 (some v8):Option (List Int)).bind fun j4=>
 (dfa_Of_l2 k1 p0 v4 v5 a6 m) (ar .add .i64 v7 1) j4)
 ((app (cLs (cI .i64)) v5 [v8]).bind fun l12=>
 k1 (ar .add .i64 v4 1) l12)
def dfa_Of_l3 (N:Nat):Nat→Int→List (ByteArray × Int)→List CSet→Bool→List Int→List Int→List (List Int)→List (List Int)→Int→List Int→List (List Int)→List Bool→List (List Int)→Option (GDfa × Int)
| 0,_,_,_,_,_,_,_,_,_,_,_,_,_=>none
| m+1,v14,v15,v16,v17,v18,v19,v20,v21,v22,v23,v24,v25,v26=>
 cond (cm .lss v14 (ll (rw _ (cLs (cI .i64)) v26)))
 ((dfa_builder_step_g N v14 (⟨(⟨v16,v17,v18,v19,v20⟩:GSpots),v21,v15,v24,(⟨v22,v25,v23,v26⟩:GDfa)⟩:Gdfa_builder)).bind fun a27=>
 cond (!a27.1)
 (some ((⟨0,[],[],[]⟩:GDfa),16))
 ((dfa_Of_l3 N m) (ar .add .i64 v14 1) a27.2.seen a27.2.p.Sets a27.2.p.None a27.2.p.First a27.2.p.Last a27.2.p.Next a27.2.in_ a27.2.out.Start a27.2.out.Block a27.2.sets a27.2.out.Final a27.2.out.Next))
 (some ((⟨v22,v25,v23,v26⟩:GDfa),0))
def dfa_Of_l1 (N:Nat) (p0:GSpots) (a2:List Int) (a3:Int):Nat→Int→List (List Int)→Option (GDfa × Int)
| 0,_,_=>none
| m+1,v4,v5=>
 cond (cm .lss v4 a3)
 ((blocks_First_g N a2 v4).bind fun a6=>
 dfa_Of_l2 (dfa_Of_l1 N p0 a2 a3 m) p0 v4 v5 a6 N 0 [])
 ((dfa_builder_add_g [] p0.None (⟨p0,v5,[],[],(⟨0,[],a2,[]⟩:GDfa)⟩:Gdfa_builder)).bind fun a13=>
 dfa_Of_l3 N N 0 a13.seen a13.p.Sets a13.p.None a13.p.First a13.p.Last a13.p.Next a13.in_ a13.out.Start a13.out.Block a13.sets a13.out.Final a13.out.Next)
def dfa_Of_g (N:Nat) (p0:GSpots):Option (GDfa × Int):=
 (spots_Right_g N p0).bind fun a1=>
 cond (!a1)
 (some ((⟨0,[],[],[]⟩:GDfa),7))
 ((blocks_Of_g N p0.Sets).bind fun a2=>
 (blocks_Count_g N a2).bind fun a3=>
 dfa_Of_l1 N p0 a2 a3 N 0 [])
def math_bits_Mul64_s (R:RF) (r:Int × Int):V:=.tup [fI .u64 r.1,fI .u64 r.2]
def math_bits_Mul64_g (p0:Int) (p1:Int):Option (Int × Int):=
 cond (ge0B 32) (cond (ge0B 32) (cond (ge0B 32) (cond (ge0B 32) (cond (ge0B 32) (some (ar .add .u64 (ar .add .u64 (ar .mul .u64 (ar .shr .u64 p0 32) (ar .shr .u64 p1 32)) (ar .shr .u64 (ar .add .u64 (ar .mul .u64 (ar .shr .u64 p0 32) (ar .and .u64 p1 4294967295)) (ar .shr .u64 (ar .mul .u64 (ar .and .u64 p0 4294967295) (ar .and .u64 p1 4294967295)) 32)) 32)) (ar .shr .u64 (ar .add .u64 (ar .and .u64 (ar .add .u64 (ar .mul .u64 (ar .shr .u64 p0 32) (ar .and .u64 p1 4294967295)) (ar .shr .u64 (ar .mul .u64 (ar .and .u64 p0 4294967295) (ar .and .u64 p1 4294967295)) 32)) 4294967295) (ar .mul .u64 (ar .and .u64 p0 4294967295) (ar .shr .u64 p1 32))) 32),ar .mul .u64 p0 p1)) none) none) none) none) none
def math_bits_Mul_s (R:RF) (r:Int × Int):V:=.tup [fI .u64 r.1,fI .u64 r.2]
def math_bits_Mul_g (p0:Int) (p1:Int):Option (Int × Int):=
 (math_bits_Mul64_g p0 p1).bind fun a1=>
 some (a1.1,a1.2)
def slices_RepeatI_l1:Nat→Int→List Int→Option (List Int)
| 0,_,_=>none
| m+1,v4,v5=>
 cond (cm .lss v4 (ll (rw _ (cI .i64) v5)))
 (cond (winB v5 v4&&winB v5 v4) ((some (cpw (cI .i64) v5 v4 v4)).bind fun l6=>
 cond (winB v5 v4) (cond (winB v5 v4) ((slices_RepeatI_l1 m) (ar .add .i64 v4 (mi v4 (ar .sub .i64 (ll (rw _ (cI .i64) v5)) v4))) l6) none) none) none)
 (some v5)
def slices_RepeatI_g (N:Nat) (p0:List Int) (p1:Int):Option (List Int):=
 cond (cm .lss p1 0)
 (none)
 ((math_bits_Mul_g (cv .u64 (ll (rw _ (cI .i64) p0))) (cv .u64 p1)).bind fun a1=>
 (cond (cm .gtr a1.1 0)
 (some true)
 (some (cm .gtr a1.2 9223372036854775807)):Option Bool).bind fun j1=>
 cond (j1)
 (none)
 ((zro (cI .i64) 0 (cv .i64 a1.2) (cv .i64 a1.2)).bind fun l2=>
 (cpy (cI .i64) l2 p0).bind fun l3=>
 slices_RepeatI_l1 N (mi (ll (rw _ (cI .i64) p0)) (ll (rw _ (cI .i64) l2))) l3))
def dfa_Word_s (R:RF) (r:GDfa × Int):V:=.tup [.agg [fI .i64 r.1.Start,.t (.slc (R _ cB r.1.Final)),.t (.slc (R _ (cI .i64) r.1.Block)),.t (.slc (R _ (cLs (cI .i64)) r.1.Next))],fI .i64 r.2]
def dfa_Word_l2 (N:Nat) (p0:ByteArray) (a6:List Int) (a7:Int):Nat→Int→List Bool→List (List Int)→Option (GDfa × Int)
| 0,_,_,_=>none
| m+1,v8,v9,v10=>
 cond (cm .lss v8 (ar .add .i64 (sl p0) 2))
 ((slices_RepeatI_g N [ar .add .i64 (sl p0) 1] a7).bind fun l11=>
 (cond (cm .lss v8 (sl p0))
 (cond (sinB p0 v8) ((at_ a6 (sa p0 v8)).bind fun r12=>
 (at_ l11 r12).bind fun r13=>
 (at_ l11 r12).bind fun r14=>
 put (cI .i64) l11 r12 (ar .add .i64 v8 1) fun l15=>
 some l15) none)
 (some l11):Option (List Int)).bind fun j6=>
 (app (cLs (cI .i64)) v10 [j6]).bind fun l16=>
 (app cB v9 [cm .eql v8 (sl p0)]).bind fun l17=>
 (dfa_Word_l2 N p0 a6 a7 m) (ar .add .i64 v8 1) l17 l16)
 (some ((⟨0,v9,a6,v10⟩:GDfa),0))
def dfa_Word_l1 (N:Nat) (p0:ByteArray):Nat→Int→List CSet→Option (GDfa × Int)
| 0,_,_=>none
| m+1,v1,v2=>
 cond (cm .lss v1 (sl p0))
 (cond (ssinB p0 0 v1) (cond (sinB p0 v1) ((strings_IndexByte_g (ss p0 0 v1) (sa p0 v1)).bind fun a3=>
 (cond (cm .lss a3 0)
 (cond (sinB p0 v1) (cond (sinB p0 v1) ((charset_Of_g (sa p0 v1) (sa p0 v1)).bind fun a4=>
 (app cSet v2 [a4]).bind fun l5=>
 some l5) none) none)
 (some v2):Option (List CSet)).bind fun j4=>
 (dfa_Word_l1 N p0 m) (ar .add .i64 v1 1) j4) none) none)
 ((blocks_Of_g N v2).bind fun a6=>
 (blocks_Count_g N a6).bind fun a7=>
 dfa_Word_l2 N p0 a6 a7 N 0 [] [])
def dfa_Word_g (N:Nat) (p0:ByteArray):Option (GDfa × Int):=
 cond (cm .gtr (sl p0) 1024)
 (some ((⟨0,[],[],[]⟩:GDfa),3))
 (dfa_Word_l1 N p0 N 0 [])
def l18_works_s (R:RF) (r:Bool):V:=fB r
def l18_works_g (N:Nat):Option Bool:=
 (regex_Parse_g (ByteArray.mk #[97,42])).bind fun a1=>
 (spots_Of_g N a1.1).bind fun a2=>
 (dfa_Of_g N a2.1).bind fun a3=>
 (dfa_Word_g N (ByteArray.mk #[97,98])).bind fun a4=>
 (cond (conj [cm .eql a1.2.E 0,cm .eql a1.2.At 0])
 (cond (cm .eql a2.2 0)
 (cond (cm .eql a3.2 0)
 (cond (cm .eql (ll (rw _ (cLs (cI .i64)) a3.1.Next)) 3)
 ((dfa_Run_g N a3.1 (ByteArray.mk #[97,97])).bind fun a5=>
 cond (a5)
 ((dfa_Run_g N a3.1 (ByteArray.mk #[97,98])).bind fun a6=>
 cond (!a6)
 ((dfa_Run_g N a3.1 ByteArray.empty).bind fun a7=>
 cond (a7)
 (cond (cm .eql a4.2 0)
 ((dfa_Run_g N a4.1 (ByteArray.mk #[97,98])).bind fun a8=>
 cond (a8)
 ((dfa_Run_g N a4.1 (ByteArray.mk #[97])).bind fun a9=>
 some !a9)
 (some false))
 (some false))
 (some false))
 (some false))
 (some false))
 (some false))
 (some false))
 (some false))
 (some false):Option Bool).bind fun j1=>
 some j1
end Gn
end Go.Proofs.YtjhbgkakhaonaaaGreatDoor
namespace Go.Proofs.YtjhbgkakhaonaaaGreatDoor
open Go
open Sh Gn
namespace Dq
theorem at_nat {α:Type} (l:List α) (i:Nat):at_ l (i:Int)=l[i]?:=by
 unfold at_;rw [if_pos (by omega)];simp
theorem at_in {α:Type} {l:List α} {i:Nat} (h:i<l.length):at_ l (i:Int)=some l[i]:=by rw [at_nat,List.getElem?_eq_getElem h]
theorem at_int {α:Type} {l:List α} {x:Int} (h0:0≤x) (h:x<l.length):∃y,at_ l x=some y∧l[x.toNat]?=some y:=by
 obtain ⟨i,rfl⟩:=Int.eq_ofNat_of_zero_le h0
 exact ⟨l[i]'(by omega),at_in (by omega),by rw [Int.toNat_natCast];exact List.getElem?_eq_getElem (by omega)⟩
theorem inc1 {i:Nat} (h:i≤100000000):ar .add .i64 (i:Int) 1=((i+1:Nat):Int):=by rw [ar_add (by omega) (by omega)];omega
theorem app_eq {α:Type} {c:α→List Ab.T} {l m:List α} (h:l.length+m.length≤1000000000):app c l m=some (l++m):=by unfold app;rw [if_pos h]
theorem if_bind {α β:Type} {p:Prop} [Decidable p] {a b:Option α} {f:α→Option β}:(if p then a else b).bind f=if p then a.bind f else b.bind f:=by split<;>rfl
def rg:Int→List Int→Bool
 | _,[]=>true
 | m,k::l=>if k<0∨m<k then false else rg (if k=m then m+1 else m) l
def cnt:Int→List Int→Int
 | m,[]=>m
 | m,k::l=>cnt (max m (k+1)) l
def bR (b:List Int):Bool:=rg 0 b&&decide ((b.length:Int)=256)
def wide (b:List Int):Int:=if bR b=true then cnt 0 b else 0
theorem rg_cnt:∀{l:List Int} {m:Int},0≤m→rg m l=true→m≤cnt m l∧cnt m l≤m+l.length∧∀x∈l,0≤x∧x<cnt m l
 | [],m,_,_=>⟨Int.le_refl _,by simp [cnt],fun x h=>by cases h⟩
 | k ::l,m,h0,h=>by
   rw [rg] at h
   split at h
   · cases h
   · rename_i g
     have hk:max m (k+1)=if k=m then m+1 else m:=by split<;>omega
     rw [cnt,hk]
     have hm:m≤(if k=m then m+1 else m)∧(if k=m then m+1 else m)≤m+1∧k<(if k=m then m+1 else m):=by split<;>omega
     generalize (if k=m then m+1 else m)=m' at h hm
     obtain ⟨h1,h2,h3⟩:=rg_cnt (by omega) h
     refine ⟨by omega,by simp only [List.length_cons];omega,fun x hx=>?_⟩
     rcases List.mem_cons.1 hx with rfl | hx
     · exact ⟨by omega,by omega⟩
     · exact h3 x hx
theorem bright_l {b:List Int} (hb:b.length≤1000):∀(m i:Nat) (v:Int),0≤v→v≤1000+i→i≤b.length→b.length<i+m→blocks_Right_l1 b m v i=some (rg v (b.drop i)&&decide ((b.length:Int)=256)):=by
 intro m
 induction m with
 | zero=>intro i v h1 h2 h3;omega
 | succ m ih=>
   intro i v h1 h2 h3 h4
   rw [blocks_Right_l1]
   simp only [cm_lss,ll_eq,cond_dec,cm_gtr,cm_eql]
   by_cases c:i<b.length
   · rw [if_pos (by omega),at_in c,List.drop_eq_getElem_cons c,rg]
     simp only [Option.bind_some,inc1 (show i≤100000000 by omega)]
     by_cases g:b[i]<0
     · simp only [g,if_true,Option.bind_some,true_or,_root_.cond_true,Bool.false_and]
     · by_cases g2:v<b[i]
       · simp only [g,g2,if_false,if_true,Option.bind_some,decide_true,or_true,_root_.cond_true,Bool.false_and]
       · simp only [g,g2,if_false,Option.bind_some,decide_false,or_false,_root_.cond_false]
         have e1:ar .add .i64 v 1=v+1:=ar_add (by omega) (by omega)
         by_cases e:b[i]=v
         · simp only [e,if_true,Option.bind_some,e1]
           exact ih (i+1) _ (by omega) (by omega) (by omega) (by omega)
         · simp only [e,if_false,Option.bind_some]
           exact ih (i+1) _ (by omega) (by omega) (by omega) (by omega)
   · rw [if_neg (by omega),List.drop_of_length_le (by omega),rg]
     simp
theorem bright_p {b:List Int} (hb:b.length≤1000) {N:Nat} (hN:1001≤N):blocks_Right_g N b=some (bR b):=bright_l hb N 0 0 (by omega) (by omega) (by omega) (by omega)
theorem bcount_l {b:List Int} (hb:b.length≤1000) (hr:∀x∈b,0≤x∧x≤2000):∀(m i:Nat) (v:Int),i≤b.length→b.length<i+m→blocks_Count_l1 b m v i=some (cnt v (b.drop i)):=by
 intro m
 induction m with
 | zero=>intro i v h1 h2;omega
 | succ m ih=>
   intro i v h1 h2
   rw [blocks_Count_l1]
   simp only [cm_lss,ll_eq,cond_dec]
   by_cases c:i<b.length
   · have hx:=hr b[i] (List.getElem_mem c)
     have e1:ar .add .i64 b[i] 1=b[i]+1:=ar_add (by omega) (by omega)
     have e2:mx v (b[i]+1)=max v (b[i]+1):=by unfold mx;split<;>omega
     rw [if_pos (by omega),at_in c,List.drop_eq_getElem_cons c,cnt]
     simp only [Option.bind_some,inc1 (show i≤100000000 by omega),e1,e2]
     exact ih (i+1) _ (by omega) (by omega)
   · rw [if_neg (by omega),List.drop_of_length_le (by omega),cnt]
theorem bR_in {b:List Int} (h:bR b=true):b.length=256∧∀x∈b,0≤x∧x<wide b∧wide b≤256:=by
 have h':=h
 simp only [bR,Bool.and_eq_true,decide_eq_true_eq] at h'
 obtain ⟨-,h2,h3⟩:=rg_cnt (by omega) h'.1
 have hl:b.length=256:=by omega
 refine ⟨hl,fun x hx=>?_⟩
 have:=h3 x hx
 unfold wide
 rw [if_pos h]
 omega
theorem bcount_p {b:List Int} (hb:b.length≤1000) {N:Nat} (hN:1001≤N):blocks_Count_g N b=some (wide b):=by
 unfold blocks_Count_g wide
 rw [bright_p hb hN,Option.bind_some,cond_not]
 cases h:bR b with
 | false=>rfl
 | true=>
   rw [if_pos rfl,_root_.cond_true]
   exact bcount_l hb (fun x hx=>by have:=(bR_in h).2 x hx;omega) N 0 0 (by omega) (by omega)
end Dq
end Go.Proofs.YtjhbgkakhaonaaaGreatDoor
namespace Go.Proofs.YtjhbgkakhaonaaaGreatDoor
open Go
open Sh Gn
namespace Dq
def inR (many:Int) (x:Int):Bool:= !(decide (x<0))&&decide (x<many)
def dR (d:GDfa):Bool:=
 !(decide ((d.Next.length:Int)<1))&&(!(decide (4096<(d.Next.length:Int)))&&(decide ((d.Final.length:Int)=d.Next.length)&&(!(decide (d.Start<0))&&(decide (d.Start<(d.Next.length:Int))&&
   (decide (0<wide d.Block)&&d.Next.all fun r=>decide ((r.length:Int)=wide d.Block)&&r.all (inR d.Next.length))))))
structure LowD (d:GDfa):Prop where
 next:d.Next.length≤4200
 final:d.Final.length≤5000
 block:d.Block.length≤1000
 each:∀l∈d.Next,l.length≤1000
variable {d:GDfa}
theorem dright_l4 (hd:LowD d) {r:List Int} (hr:r.length≤1000):∀(m i:Nat),i≤r.length→r.length<i+m→dfa_Right_l4 d r m i=some (!(r.drop i).all (inR d.Next.length)):=by
 intro m
 induction m with
 | zero=>intro i h1 h2;omega
 | succ m ih=>
   intro i h1 h2
   rw [dfa_Right_l4]
   simp only [cm_lss,ll_eq,cond_dec,cm_geq]
   by_cases c:i<r.length
   · rw [if_pos (by omega),at_in c,List.drop_eq_getElem_cons c,List.all_cons]
     simp only [Option.bind_some,inc1 (show i≤100000000 by omega),inR]
     have h0:(0:Int)≤i:=by omega
     by_cases g:r[i]<0
     · simp only [g,if_true,Option.bind_some,_root_.cond_true,h0,decide_true,Bool.not_true,Bool.false_and,Bool.not_false]
     · by_cases g2:r[i]<d.Next.length
       · have g3:¬(d.Next.length:Int)≤r[i]:=by omega
         simp only [g,g2,g3,if_false,Option.bind_some,decide_false,decide_true,_root_.cond_false,Bool.not_false,Bool.true_and]
         exact ih (i+1) (by omega) (by omega)
       · have g3:(d.Next.length:Int)≤r[i]:=by omega
         simp only [g,g2,g3,if_false,Option.bind_some,decide_false,decide_true,_root_.cond_true,Bool.not_false,Bool.true_and,h0,Bool.false_and]
   · rw [if_neg (by omega),List.drop_of_length_le (by omega)]
     rfl
theorem dright_l1 (hd:LowD d) {N:Nat} (hN:5000≤N) (a:Int) (ha: -1000≤a∧a≤1000):∀(m i:Nat),i≤d.Next.length→d.Next.length<i+m→dfa_Right_l1 N d a m i=some (decide (0<a)&&(d.Next.drop i).all fun r=>decide ((r.length:Int)=a)&&r.all (inR d.Next.length)):=by
 intro m
 induction m with
 | zero=>intro i h1 h2;omega
 | succ m ih=>
   intro i h1 h2
   have:=hd.next
   rw [dfa_Right_l1]
   simp only [cm_lss,ll_eq,cond_dec,cm_gtr,cm_neq,cond_not]
   by_cases c:i<d.Next.length
   · have hl:=hd.each d.Next[i] (List.getElem_mem c)
     rw [if_pos (by omega),at_in c,List.drop_eq_getElem_cons c,List.all_cons]
     simp only [Option.bind_some,inc1 (show i≤100000000 by omega)]
     by_cases g:(d.Next[i].length:Int)=a
     · have h4:=dright_l4 hd hl N 0 (by omega) (by omega)
       rw [List.drop_zero] at h4
       have h4':dfa_Right_l4 d d.Next[i] N 0=some (!d.Next[i].all (inR d.Next.length)):=h4
       simp only [g,if_true,h4',Option.bind_some,cond_not,decide_true,Bool.true_and]
       cases d.Next[i].all (inR d.Next.length) with
       | true=>simp only [_root_.cond_true,Bool.true_and];exact ih (i+1) (by omega) (by omega)
       | false=>simp only [_root_.cond_false,Bool.false_and,Bool.and_false]
     · simp only [g,if_false,Option.bind_some,_root_.cond_true,decide_false,Bool.false_and,Bool.and_false]
   · rw [if_neg (by omega),List.drop_of_length_le (by omega)]
     simp
theorem wide_le (b:List Int):0≤wide b∧wide b≤256:=by
 unfold wide
 split
 · rename_i h
   have h1:=bR_in h
   simp only [bR,Bool.and_eq_true] at h
   have h2:=rg_cnt (by omega) h.1
   omega
 · omega
theorem dright_p (hd:LowD d) {N:Nat} (hN:5000≤N):dfa_Right_g N d=some (dR d):=by
 have hw:=wide_le d.Block
 have:=hd.next
 unfold dfa_Right_g dR
 simp only [cm_lss,ll_eq,cond_dec,cm_gtr,cm_neq,cm_geq,cond_not,bcount_p hd.block (show 1001≤N by omega),Option.bind_some,if_bind]
 by_cases g1:(d.Next.length:Int)<1
 · simp only [g1,if_true,decide_true,Bool.not_true,Bool.false_and,_root_.cond_true]
 by_cases g2:4096<(d.Next.length:Int)
 · simp only [g1,g2,if_true,if_false,decide_true,decide_false,Bool.not_true,Bool.not_false,Bool.true_and,Bool.false_and,_root_.cond_true]
 by_cases g3:(d.Final.length:Int)=d.Next.length
 · by_cases g4:d.Start<0
   · simp only [g1,g2,g3,g4,if_true,if_false,decide_true,decide_false,Bool.not_true,Bool.not_false,Bool.true_and,Bool.false_and,_root_.cond_true]
   · by_cases g5:d.Start<(d.Next.length:Int)
     · have g6:¬(d.Next.length:Int)≤d.Start:=by omega
       simp only [g1,g2,g3,g4,g5,g6,if_true,if_false,decide_true,decide_false,Bool.not_false,Bool.true_and,_root_.cond_false]
       have:=dright_l1 hd hN (wide d.Block) (by omega) N 0 (by omega) (by omega)
       rw [List.drop_zero] at this
       exact this
     · have g6:(d.Next.length:Int)≤d.Start:=by omega
       simp only [g1,g2,g3,g4,g5,g6,if_true,if_false,decide_true,decide_false,Bool.not_false,Bool.true_and,Bool.false_and,_root_.cond_true]
 · simp only [g1,g2,g3,if_true,if_false,decide_true,decide_false,Bool.not_false,Bool.true_and,Bool.false_and,_root_.cond_true]
end Dq
end Go.Proofs.YtjhbgkakhaonaaaGreatDoor
namespace Go.Proofs.YtjhbgkakhaonaaaGreatDoor
open Go
open Sh Gn
namespace Dq
theorem works18:l18_works_g 6000=some true:=by decide+kernel
variable {d:GDfa}
def stp (d:GDfa) (at0:Int) (b:UInt8):Int:=(d.Next.getD at0.toNat []).getD (d.Block.getD b.toNat 0).toNat 0
def runs (d:GDfa):Int→List UInt8→Int:=List.foldl (stp d)
def stateS (d:GDfa) (s:List UInt8):Int:=if dR d=true then runs d d.Start s else-1
def runB (d:GDfa) (s:List UInt8):Bool:=dR d&&d.Final.getD (runs d d.Start s).toNat false
structure Fct (d:GDfa):Prop where
 n1:1≤d.Next.length
 n2:d.Next.length≤4096
 fin:d.Final.length=d.Next.length
 s0:0≤d.Start
 s1:d.Start<d.Next.length
 blk:bR d.Block=true
 row:∀r∈d.Next,(r.length:Int)=wide d.Block∧∀x∈r,0≤x∧x<d.Next.length
theorem dR_fct (h:dR d=true):Fct d:=by
 simp only [dR,Bool.and_eq_true,Bool.not_eq_true',decide_eq_false_iff_not,decide_eq_true_eq,List.all_eq_true,inR] at h
 obtain ⟨h1,h2,h3,h4,h5,h6,h7⟩:=h
 refine ⟨by omega,by omega,by omega,by omega,h5,?_,fun r hr=>⟨(h7 r hr).1,fun x hx=>by have:=(h7 r hr).2 x hx;omega⟩⟩
 cases hb:bR d.Block with
 | true=>rfl
 | false=>unfold wide at h6;rw [hb] at h6;simp at h6
theorem stp_in (F:Fct d) {a:Int} (h0:0≤a) (h1:a<d.Next.length) (b:UInt8):∃r k,at_ d.Next a=some r∧at_ d.Block (b.toNat:Int)=some k∧at_ r k=some (stp d a b)∧0≤stp d a b∧stp d a b<d.Next.length:=by
 obtain ⟨r,hr,hr2⟩:=at_int (l:=d.Next) h0 h1
 obtain ⟨hl,hk⟩:=bR_in F.blk
 have hb:b.toNat<256:=b.toNat_lt
 obtain ⟨k,q1,q2⟩:=at_int (l:=d.Block) (x:=(b.toNat:Int)) (by omega) (by omega)
 rw [Int.toNat_natCast] at q2
 have hrm:=F.row r (List.mem_of_getElem? hr2)
 have hkm:=hk k (List.mem_of_getElem? q2)
 obtain ⟨y,q3,q4⟩:=at_int (l:=r) (x:=k) (by omega) (by omega)
 have e:stp d a b=y:=by
  unfold stp
  rw [List.getD_eq_getElem?_getD,List.getD_eq_getElem?_getD,List.getD_eq_getElem?_getD,hr2,q2]
  simp only [Option.getD_some]
  rw [q4]
  rfl
 have hy:=hrm.2 y (List.mem_of_getElem? q4)
 exact ⟨r,k,hr,q1,by rw [e];exact q3,by omega,by omega⟩
theorem runs_in (F:Fct d):∀(s:List UInt8) {a:Int},0≤a→a<d.Next.length→0≤runs d a s∧runs d a s<d.Next.length
 | [],a,h0,h1=>⟨h0,h1⟩
 | b::s,a,h0,h1=>by
   obtain ⟨r,k,-,-,-,h2,h3⟩:=stp_in F h0 h1 b
   exact runs_in F s h2 h3
theorem sa_at {s:ByteArray} {i:Nat} (h:i<s.size):sinB s (i:Int)=true∧sa s (i:Int)=((s.data.toList[i]'(by simpa using h)).toNat:Int):=by
 refine ⟨by simp [sinB,h],?_⟩
 show ((s.data.getD ((i:Int)).toNat 0).toNat:Int)=_
 rw [Int.toNat_natCast]
 simp [Array.getD,h]
theorem dstate_l (F:Fct d) {s:ByteArray} (hs:s.size≤10000):∀(m i:Nat) (a:Int),0≤a→a<d.Next.length→i≤s.size→s.size<i+m→dfa_State_l1 d s m a i=some (runs d a (s.data.toList.drop i)):=by
 intro m
 induction m with
 | zero=>intro i a h1 h2 h3;omega
 | succ m ih=>
   intro i a h1 h2 h3 h4
   rw [dfa_State_l1]
   simp only [cm_lss,sl_eq,cond_dec]
   by_cases c:i<s.size
   · obtain ⟨e1,e2⟩:=sa_at c
     obtain ⟨r,k,q1,q2,q3,q4,q5⟩:=stp_in F h1 h2 (s.data.toList[i]'(by simpa using c))
     rw [if_pos (by omega),q1,e1,e2]
     simp only [Option.bind_some,_root_.cond_true,q2,q3,inc1 (show i≤100000000 by omega)]
     rw [List.drop_eq_getElem_cons (show i<s.data.toList.length by simpa using c)]
     exact ih (i+1) _ q4 q5 (by omega) (by omega)
   · rw [if_neg (by omega),List.drop_of_length_le (by simp;omega)]
     rfl
variable {s:ByteArray} {N:Nat}
theorem dstate_p (hd:LowD d) (hN:5000≤N) (hs:s.size<N) (hs2:s.size≤10000):dfa_State_g N d s=some (stateS d s.data.toList):=by
 unfold dfa_State_g stateS
 rw [dright_p hd hN,Option.bind_some,cond_not]
 cases h:dR d with
 | false=>rfl
 | true=>
   have F:=dR_fct h
   rw [_root_.cond_true,if_pos rfl]
   exact dstate_l F hs2 N 0 _ F.s0 F.s1 (by omega) (by omega)
theorem final_at:(cond (cm .geq (stateS d s.data.toList) 0) ((at_ d.Final (stateS d s.data.toList)).bind fun r2=>some r2) (some false):Option Bool)=some (runB d s.data.toList):=by
 unfold stateS runB
 cases h:dR d with
 | false=>rfl
 | true=>
   have F:=dR_fct h
   obtain ⟨h1,h2⟩:=runs_in F s.data.toList F.s0 F.s1
   obtain ⟨y,q1,q2⟩:=at_int (l:=d.Final) h1 (by rw [F.fin];exact h2)
   simp only [if_true,cm_geq,cond_dec]
   rw [if_pos h1,q1,List.getD_eq_getElem?_getD,q2]
   rfl
theorem drun_p (hd:LowD d) (hN:5000≤N) (hs:s.size<N) (hs2:s.size≤10000):dfa_Run_g N d s=some (runB d s.data.toList):=by
 unfold dfa_Run_g
 rw [dstate_p hd hN hs hs2,Option.bind_some,final_at]
 rfl
end Dq
end Go.Proofs.YtjhbgkakhaonaaaGreatDoor
