/- Texts that the proof leans on. -/
import Derived.Test.YtbpihhelojjedaaDoorK222
set_option linter.unusedVariables false
set_option linter.unusedSimpArgs false
set_option maxRecDepth 100000
set_option maxHeartbeats 4000000
namespace Go.Proofs.YtbpihhelojjedaaDoor
open Go Go.RowKit
open Ab Sh
namespace Gn
def spots_rising_s (R:RF) (r:Bool):V:=fB r
def spots_rising_l1 (p0:List Int) (p1:Int):Nat→Int→Int→Option Bool
| 0,_,_=>none
| m+1,v1,v2=>
 cond (cm .lss v2 (ll (rw _ (cI .i64) p0)))
 ((at_ p0 v2).bind fun r3=>
 (cond (cm .leq r3 v1)
 (some true)
 (some (cm .geq r3 p1)):Option Bool).bind fun j2=>
 cond (j2)
 (some false)
 ((spots_rising_l1 p0 p1 m) r3 (ar .add .i64 v2 1)))
 (some true)
def spots_rising_g (N:Nat) (p0:List Int) (p1:Int):Option Bool:=
 spots_rising_l1 p0 p1 N (-1) 0
def spots_Right_s (R:RF) (r:Bool):V:=fB r
def spots_Right_l3 (N:Nat) (p0:GSpots):Nat→Int→Option Bool
| 0,_=>none
| m+1,v3=>
 cond (cm .lss v3 (ll (rw _ (cLs (cI .i64)) p0.Next)))
 ((at_ p0.Next v3).bind fun r4=>
 (spots_rising_g N r4 (ll (rw _ cSet p0.Sets))).bind fun a5=>
 cond (!a5)
 (some (!(cm .geq v3 0)))
 ((spots_Right_l3 N p0 m) (ar .add .i64 v3 1)))
 (some (!(cm .geq (-1) 0)))
def spots_Right_g (N:Nat) (p0:GSpots):Option Bool:=
 (cond (cm .gtr (ll (rw _ cSet p0.Sets)) 512)
 (some true)
 (cond (cm .neq (ll (rw _ (cLs (cI .i64)) p0.Next)) (ll (rw _ cSet p0.Sets)))
 (some true)
 ((spots_rising_g N p0.First (ll (rw _ cSet p0.Sets))).bind fun a1=>
 cond (!a1)
 (some true)
 ((spots_rising_g N p0.Last (ll (rw _ cSet p0.Sets))).bind fun a2=>
 some !a2))):Option Bool).bind fun j1=>
 cond (j1)
 (some false)
 (spots_Right_l3 N p0 N 0)
def spots_Match_s (R:RF) (r:Bool):V:=fB r
def spots_Match_l5 (p0:GSpots) (v5:List Bool):Nat→Int→Option Bool
| 0,_=>none
| m+1,v14=>
 cond (cm .lss v14 (ll (rw _ (cI .i64) p0.Last)))
 ((at_ p0.Last v14).bind fun r15=>
 (at_ v5 r15).bind fun r16=>
 (at_ v5 r15).bind fun r17=>
 cond (r17)
 (some (cm .geq v14 0))
 ((spots_Match_l5 p0 v5 m) (ar .add .i64 v14 1)))
 (some (cm .geq (-1) 0))
def spots_Match_l8 (k7:Int→List Bool→Option Bool) (v19:Int) (r23:List Int):Nat→Int→List Bool→Option Bool
| 0,_,_=>none
| m+1,v24,v25=>
 cond (cm .lss v24 (ll (rw _ (cI .i64) r23)))
 ((at_ r23 v24).bind fun r26=>
 (at_ v25 r26).bind fun r27=>
 (at_ v25 r26).bind fun r28=>
 put cB v25 r26 true fun l29=>
 (spots_Match_l8 k7 v19 r23 m) (ar .add .i64 v24 1) l29)
 (k7 (ar .add .i64 v19 1) v25)
def spots_Match_l13 (p0:GSpots) (v40:List Bool):Nat→Int→Option Bool
| 0,_=>none
| m+1,v50=>
 cond (cm .lss v50 (ll (rw _ (cI .i64) p0.Last)))
 ((at_ p0.Last v50).bind fun r51=>
 (at_ v40 r51).bind fun r52=>
 (at_ v40 r51).bind fun r53=>
 cond (r53)
 (some (cm .geq v50 0))
 ((spots_Match_l13 p0 v40 m) (ar .add .i64 v50 1)))
 (some (cm .geq (-1) 0))
def spots_Match_l16 (k15:Int→List Bool→Option Bool) (r59:List Int) (v55:Int):Nat→Int→List Bool→Option Bool
| 0,_,_=>none
| m+1,v60,v61=>
 cond (cm .lss v60 (ll (rw _ (cI .i64) r59)))
 ((at_ r59 v60).bind fun r62=>
 (at_ v61 r62).bind fun r63=>
 (at_ v61 r62).bind fun r64=>
 put cB v61 r62 true fun l65=>
 (spots_Match_l16 k15 r59 v55 m) (ar .add .i64 v60 1) l65)
 (k15 (ar .add .i64 v55 1) v61)
def spots_Match_l17 (k1:Int→List Bool→List Int→Option Bool) (v35:Int) (v40:List Bool) (v56:List Bool):Nat→Int→List Int→Option Bool
| 0,_,_=>none
| m+1,v66,v67=>
 cond (cm .lss v66 (ll (rw _ cB v56)))
 ((at_ v56 v66).bind fun r68=>
 (at_ v56 v66).bind fun r69=>
 (cond (r69)
 ((app (cI .i64) v67 [v66]).bind fun l70=>
 some l70)
 (some v67):Option (List Int)).bind fun j630=>
 (spots_Match_l17 k1 v35 v40 v56 m) (ar .add .i64 v66 1) j630)
 (k1 (ar .add .i64 v35 1) v40 v67)
def spots_Match_l15 (N:Nat) (k1:Int→List Bool→List Int→Option Bool) (p0:GSpots) (v35:Int) (v40:List Bool) (v41:List Int):Nat→Int→List Bool→Option Bool
| 0,_,_=>none
| m+1,v55,v56=>
 cond (cm .lss v55 (ll (rw _ (cI .i64) v41)))
 ((at_ v41 v55).bind fun r57=>
 (at_ v41 v55).bind fun r58=>
 (at_ p0.Next r58).bind fun r59=>
 spots_Match_l16 (spots_Match_l15 N k1 p0 v35 v40 v41 m) r59 v55 N 0 v56)
 (spots_Match_l17 k1 v35 v40 v56 N 0 [])
def spots_Match_l10 (N:Nat) (k1:Int→List Bool→List Int→Option Bool) (p0:GSpots) (p1:ByteArray) (v37:List Int) (v35:Int):Nat→Int→List Bool→List Int→Option Bool
| 0,_,_,_=>none
| m+1,v39,v40,v41=>
 cond (cm .lss v39 (ll (rw _ (cI .i64) v37)))
 ((at_ v37 v39).bind fun r42=>
 (at_ v37 v39).bind fun r43=>
 (at_ p0.Sets r43).bind fun r44=>
 cond (sinB p1 v35) ((charset_Has_g r44 (sa p1 v35)).bind fun a45=>
 (cond (a45)
 ((at_ v40 r43).bind fun r46=>
 (at_ v40 r43).bind fun r47=>
 put cB v40 r43 true fun l48=>
 (app (cI .i64) v41 [r43]).bind fun l49=>
 some (l48,l49))
 (some (v40,v41)):Option ((List Bool)×(List Int))).bind fun j626=>
 (spots_Match_l10 N k1 p0 p1 v37 v35 m) (ar .add .i64 v39 1) j626.1 j626.2) none)
 (cond (cm .eql v35 (ar .sub .i64 (sl p1) 1))
 (spots_Match_l13 p0 v40 N 0)
 ((zro cB false (ll (rw _ cB v40)) (ll (rw _ cB v40))).bind fun l54=>
 spots_Match_l15 N k1 p0 v35 v40 v41 N 0 l54))
def spots_Match_l20 (p0:GSpots) (v36:List Bool):Nat→Int→Option Bool
| 0,_=>none
| m+1,v71=>
 cond (cm .lss v71 (ll (rw _ (cI .i64) p0.Last)))
 ((at_ p0.Last v71).bind fun r72=>
 (at_ v36 r72).bind fun r73=>
 (at_ v36 r72).bind fun r74=>
 cond (r74)
 (some (cm .geq v71 0))
 ((spots_Match_l20 p0 v36 m) (ar .add .i64 v71 1)))
 (some (cm .geq (-1) 0))
def spots_Match_l1 (N:Nat) (p0:GSpots) (p1:ByteArray):Nat→Int→List Bool→List Int→Option Bool
| 0,_,_,_=>none
| m+1,v35,v36,v37=>
 cond (cm .lss v35 (sl p1))
 ((some (List.replicate v36.length false)).bind fun l38=>
 spots_Match_l10 N (spots_Match_l1 N p0 p1 m) p0 p1 v37 v35 N 0 l38 [])
 (spots_Match_l20 p0 v36 N 0)
def spots_Match_l9 (N:Nat) (p0:GSpots) (p1:ByteArray) (v20:List Bool) (v5:List Bool):Nat→Int→List Int→Option Bool
| 0,_,_=>none
| m+1,v30,v31=>
 cond (cm .lss v30 (ll (rw _ cB v20)))
 ((at_ v20 v30).bind fun r32=>
 (at_ v20 v30).bind fun r33=>
 (cond (r33)
 ((app (cI .i64) v31 [v30]).bind fun l34=>
 some l34)
 (some v31):Option (List Int)).bind fun j566=>
 (spots_Match_l9 N p0 p1 v20 v5 m) (ar .add .i64 v30 1) j566)
 (spots_Match_l1 N p0 p1 N (ar .add .i64 0 1) v5 v31)
def spots_Match_l7 (N:Nat) (p0:GSpots) (p1:ByteArray) (v6:List Int) (v5:List Bool):Nat→Int→List Bool→Option Bool
| 0,_,_=>none
| m+1,v19,v20=>
 cond (cm .lss v19 (ll (rw _ (cI .i64) v6)))
 ((at_ v6 v19).bind fun r21=>
 (at_ v6 v19).bind fun r22=>
 (at_ p0.Next r22).bind fun r23=>
 spots_Match_l8 (spots_Match_l7 N p0 p1 v6 v5 m) v19 r23 N 0 v20)
 (spots_Match_l9 N p0 p1 v20 v5 N 0 [])
def spots_Match_l2 (N:Nat) (p0:GSpots) (p1:ByteArray):Nat→Int→List Bool→List Int→Option Bool
| 0,_,_,_=>none
| m+1,v4,v5,v6=>
 cond (cm .lss v4 (ll (rw _ (cI .i64) p0.First)))
 ((at_ p0.First v4).bind fun r7=>
 (at_ p0.Sets r7).bind fun r8=>
 cond (sinB p1 0) ((charset_Has_g r8 (sa p1 0)).bind fun a9=>
 (cond (a9)
 ((at_ v5 r7).bind fun r10=>
 (at_ v5 r7).bind fun r11=>
 put cB v5 r7 true fun l12=>
 (app (cI .i64) v6 [r7]).bind fun l13=>
 some (l12,l13))
 (some (v5,v6)):Option ((List Bool)×(List Int))).bind fun j370=>
 (spots_Match_l2 N p0 p1 m) (ar .add .i64 v4 1) j370.1 j370.2) none)
 (cond (cm .eql 0 (ar .sub .i64 (sl p1) 1))
 (spots_Match_l5 p0 v5 N 0)
 ((zro cB false (ll (rw _ cB v5)) (ll (rw _ cB v5))).bind fun l18=>
 spots_Match_l7 N p0 p1 v6 v5 N 0 l18))
def spots_Match_l24 (p0:GSpots) (l2:List Bool):Nat→Int→Option Bool
| 0,_=>none
| m+1,v75=>
 cond (cm .lss v75 (ll (rw _ (cI .i64) p0.Last)))
 ((at_ p0.Last v75).bind fun r76=>
 (at_ l2 r76).bind fun r77=>
 (at_ l2 r76).bind fun r78=>
 cond (r78)
 (some (cm .geq v75 0))
 ((spots_Match_l24 p0 l2 m) (ar .add .i64 v75 1)))
 (some (cm .geq (-1) 0))
def spots_Match_g (N:Nat) (p0:GSpots) (p1:ByteArray):Option Bool:=
 (spots_Right_g N p0).bind fun a1=>
 cond (!a1)
 (some false)
 (cond (sc .eql p1 ByteArray.empty)
 (some p0.None)
 ((zro cB false (ll (rw _ cSet p0.Sets)) (ll (rw _ cSet p0.Sets))).bind fun l2=>
 cond (cm .lss 0 (sl p1))
 ((some (List.replicate l2.length false)).bind fun l3=>
 spots_Match_l2 N p0 p1 N 0 l3 [])
 (spots_Match_l24 p0 l2 N 0)))
def regex_times_s (R:RF) (r:Bool):V:=fB r
def regex_times_g (p0:Int) (p1:Int):Option Bool:=
 (cond (cm .lss p0 0)
 (some true)
 (some (cm .gtr p0 16)):Option Bool).bind fun j1=>
 cond (j1)
 (some false)
 ((cond (cm .eql p1 (-1))
 (some true)
 (cond (cm .geq p1 (mx p0 1))
 (some (cm .leq p1 16))
 (some false)):Option Bool).bind fun j2=>
 some j2)
def regex_Right_s (R:RF) (r:Bool):V:=fB r
def regex_Right_l1 (rec:Node→Option Bool) (p0:Node):Nat→Int→Option Bool
| 0,_=>none
| m+1,v1=>
 cond (cm .lss v1 (ll (rw _ nodeRow p0.kids)))
 ((at_ p0.kids v1).bind fun r2=>
 ((rec r2).bind fun a3=>
 cond (!a3)
 (some true)
 (cond (cm .eql r2.kind p0.kind)
 (some (cm .neq p0.kind 4))
 (some false)):Option Bool).bind fun j4=>
 cond (j4)
 (some false)
 ((regex_Right_l1 rec p0 m) (ar .add .i64 v1 1)))
 ((cond (cm .neq p0.kind 1)
 (cond (!(conj [cm .eql (p0.set.a.toNat:Int) 0,cm .eql (p0.set.b.toNat:Int) 0,cm .eql (p0.set.c.toNat:Int) 0,cm .eql (p0.set.d.toNat:Int) 0]))
 (some true)
 (cond (cm .neq p0.kind 4)
 (cond (cm .neq p0.min 0)
 (some true)
 (some (cm .neq p0.max 0)))
 (some false)))
 (cond (cm .neq p0.kind 4)
 (cond (cm .neq p0.min 0)
 (some true)
 (some (cm .neq p0.max 0)))
 (some false)):Option Bool).bind fun j5=>
 cond (j5)
 (some false)
 (cond (cm .eql p0.kind 1)
 (some (cm .eql (ll (rw _ nodeRow p0.kids)) 0))
 (cond (cm .eql p0.kind 2)
 (some (cm .neq (ll (rw _ nodeRow p0.kids)) 1))
 (cond (cm .eql p0.kind 3)
 (some (cm .gtr (ll (rw _ nodeRow p0.kids)) 1))
 (cond (cm .eql p0.kind 4)
 ((cond (cm .eql (ll (rw _ nodeRow p0.kids)) 1)
 ((regex_times_g p0.min p0.max).bind fun a4=>
 some a4)
 (some false):Option Bool).bind fun j6=>
 some j6)
 (some false))))))
def regex_Right_g:Nat→Node→Option Bool
| 0=>fun _=>none
| N+1=>fun p0=>
 regex_Right_l1 (regex_Right_g N) p0 N 0
def spots_count_s (R:RF) (r:Int):V:=fI .i64 r
def spots_count_l1 (rec:Node→Option Int) (p0:Node):Nat→Int→Int→Option Int
| 0,_,_=>none
| m+1,v1,v2=>
 cond (cm .lss v2 (ll (rw _ nodeRow p0.kids)))
 ((at_ p0.kids v2).bind fun r3=>
 (rec r3).bind fun a4=>
 (spots_count_l1 rec p0 m) (mi (ar .add .i64 v1 a4) 513) (ar .add .i64 v2 1))
 (cond (cm .neq p0.kind 4)
 (some v1)
 (cond (cm .eql p0.max (-1))
 (some (mi (ar .mul .i64 v1 (ar .add .i64 p0.min 1)) 513))
 (some (mi (ar .mul .i64 v1 p0.max) 513))))
def spots_count_g:Nat→Node→Option Int
| 0=>fun _=>none
| N+1=>fun p0=>
 cond (cm .eql p0.kind 1)
 (some 1)
 (spots_count_l1 (spots_count_g N) p0 N 0 0)
def slices_ConcatI_l2 (p0:List (List Int)):Nat→Int→List Int→Option (List Int)
| 0,_,_=>none
| m+1,v4,v5=>
 cond (cm .lss v4 (ll (rw _ (cLs (cI .i64)) p0)))
 ((at_ p0 v4).bind fun r6=>
 (app (cI .i64) v5 r6).bind fun l7=>
 (slices_ConcatI_l2 p0 m) (ar .add .i64 v4 1) l7)
 (some v5)
def slices_ConcatI_l1 (N:Nat) (p0:List (List Int)):Nat→Int→Int→Option (List Int)
| 0,_,_=>none
| m+1,v1,v2=>
 cond (cm .lss v2 (ll (rw _ (cLs (cI .i64)) p0)))
 ((at_ p0 v2).bind fun r3=>
 cond (cm .lss (ar .add .i64 v1 (ll (rw _ (cI .i64) r3))) 0)
 (none)
 ((slices_ConcatI_l1 N p0 m) (ar .add .i64 v1 (ll (rw _ (cI .i64) r3))) (ar .add .i64 v2 1)))
 (cond (growB v1) (slices_ConcatI_l2 p0 N 0 []) none)
def slices_ConcatI_g (N:Nat) (p0:List (List Int)):Option (List Int):=
 slices_ConcatI_l1 N p0 N 0 0
def spots_merge_s (R:RF) (r:List Int):V:=.t (.slc (R _ (cI .i64) r))
def spots_merge_l3 (v3:Int):Nat→Int→Int→List Int→Option (List Int)
| 0,_,_,_=>none
| m+1,v8,v9,v10=>
 cond (winB v10 v3) (cond (cm .lss v9 (ar .sub .i64 (ll (rw _ (cI .i64) v10)) v3))
 (cond (wrowB v10 v3 v9) ((at_ v10 (ar .add .i64 v3 v9)).bind fun r11=>
 cond (wrowB v10 v3 (ar .sub .i64 v9 1)) ((at_ v10 (ar .add .i64 v3 (ar .sub .i64 v9 1))).bind fun r12=>
 (cond (cm .neq r11 r12)
 (cond (wrowB v10 v3 v9) ((at_ v10 (ar .add .i64 v3 v9)).bind fun r13=>
 (at_ v10 v8).bind fun r14=>
 (at_ v10 v8).bind fun r15=>
 put (cI .i64) v10 v8 r13 fun l16=>
 some (ar .add .i64 v8 1,l16)) none)
 (some (v8,v10)):Option (Int ×(List Int))).bind fun j2=>
 (spots_merge_l3 v3 m) j2.1 (ar .add .i64 v9 1) j2.2) none) none)
 (cond (winB v10 v8) ((clr (cI .i64) 0 v10 v8).bind fun l17=>
 (cut (cI .i64) l17 v8).bind fun l18=>
 some l18) none)) none
def spots_merge_l2 (N:Nat) (l2:List Int):Nat→Int→Option (List Int)
| 0,_=>none
| m+1,v3=>
 cond (cm .lss v3 (ll (rw _ (cI .i64) l2)))
 ((at_ l2 v3).bind fun r4=>
 (at_ l2 v3).bind fun r5=>
 (at_ l2 (ar .sub .i64 v3 1)).bind fun r6=>
 (at_ l2 (ar .sub .i64 v3 1)).bind fun r7=>
 cond (cm .eql r5 r7)
 (cond (winB l2 v3) (spots_merge_l3 v3 N v3 1 l2) none)
 ((spots_merge_l2 N l2 m) (ar .add .i64 v3 1)))
 (some l2)
def spots_merge_g (N:Nat) (p0:List Int) (p1:List Int):Option (List Int):=
 (slices_ConcatI_g N [p0,p1]).bind fun l1=>
 (sortI_g l1).bind fun l2=>
 cond (cm .lss (ll (rw _ (cI .i64) l2)) 2)
 (some l2)
 (spots_merge_l2 N l2 N 1)
def spots_writer_next_s (R:RF) (r:Gspots_writer):V:=.tup []
def spots_writer_next_t (R:RF) (r:Gspots_writer):List Row:=[.box 59 [.lst 1,fB r.out.None,.t (.slc (R _ (cI .i64) r.out.First)),.t (.slc (R _ (cI .i64) r.out.Last)),.lst 2],.list 32 4 (R _ cSet r.out.Sets),.list 23 1 (R _ (cLs (cI .i64)) r.out.Next)]
def spots_writer_next_l1 (N:Nat) (p1:List Int) (p2:List Int) (s0:Gspots_writer):Nat→Int→List (List Int)→Option Gspots_writer
| 0,_,_=>none
| m+1,v1,v2=>
 cond (cm .lss v1 (ll (rw _ (cI .i64) p1)))
 ((at_ p1 v1).bind fun r3=>
 (at_ v2 r3).bind fun r4=>
 (at_ v2 r3).bind fun r5=>
 (spots_merge_g N r5 p2).bind fun a6=>
 (at_ v2 r3).bind fun r7=>
 (at_ v2 r3).bind fun r8=>
 put (cLs (cI .i64)) v2 r3 a6 fun l9=>
 (spots_writer_next_l1 N p1 p2 s0 m) (ar .add .i64 v1 1) l9)
 (some (⟨(⟨s0.out.Sets,s0.out.None,s0.out.First,s0.out.Last,v2⟩:GSpots)⟩:Gspots_writer))
def spots_writer_next_g (N:Nat) (p1:List Int) (p2:List Int) (s0:Gspots_writer):Option Gspots_writer:=
 spots_writer_next_l1 N p1 p2 s0 N 0 s0.out.Next
def spots_writer_behind_s (R:RF) (r:Gspots_part × Gspots_writer):V:=.agg [.t (.slc (R _ (cI .i64) r.1.first)),.t (.slc (R _ (cI .i64) r.1.last)),fB r.1.none]
def spots_writer_behind_t (R:RF) (r:Gspots_part × Gspots_writer):List Row:=[.box 59 [.lst 1,fB r.2.out.None,.t (.slc (R _ (cI .i64) r.2.out.First)),.t (.slc (R _ (cI .i64) r.2.out.Last)),.lst 2],.list 32 4 (R _ cSet r.2.out.Sets),.list 23 1 (R _ (cLs (cI .i64)) r.2.out.Next)]
def spots_writer_behind_g (N:Nat) (p1:Gspots_part) (p2:Gspots_part) (s0:Gspots_writer):Option (Gspots_part × Gspots_writer):=
 (spots_writer_next_g N p1.last p2.first s0).bind fun a1=>
 cond (p1.none)
 (cond (p1.none)
 ((spots_merge_g N p1.first p2.first).bind fun a2=>
 (cond (p2.none)
 ((spots_merge_g N p1.last p2.last).bind fun a3=>
 some a3)
 (some p2.last):Option (List Int)).bind fun j1=>
 some ((⟨a2,j1,p2.none⟩:Gspots_part),a1))
 (none))
 (cond (p1.none)
 (none)
 ((cond (p2.none)
 ((spots_merge_g N p1.last p2.last).bind fun a4=>
 some a4)
 (some p2.last):Option (List Int)).bind fun j2=>
 some ((⟨p1.first,j2,false⟩:Gspots_part),a1)))
def spots_writer_often_1_s (R:RF) (r:Gspots_part × Gspots_writer):V:=.agg [.t (.slc (R _ (cI .i64) r.1.first)),.t (.slc (R _ (cI .i64) r.1.last)),fB r.1.none]
def spots_writer_often_1_t (s2:Node) (R:RF) (r:Gspots_part × Gspots_writer):List Row:=[.box 59 [.lst 1,fB r.2.out.None,.t (.slc (R _ (cI .i64) r.2.out.First)),.t (.slc (R _ (cI .i64) r.2.out.Last)),.lst 2],.list 32 4 (R _ cSet r.2.out.Sets),.list 23 1 (R _ (cLs (cI .i64)) r.2.out.Next),.box 78 [.ptr 0 0],.box 35 [fI .i64 s2.kind,fI .u64 (s2.set.a.toNat:Int),fI .u64 (s2.set.b.toNat:Int),fI .u64 (s2.set.c.toNat:Int),fI .u64 (s2.set.d.toNat:Int),.t (.slc (R _ nodeRow s2.kids)),fI .i64 s2.min,fI .i64 s2.max],.box 93 [.fn 63 [.ptr 3 0,.ptr 4 0,.ptr 5 0]]]
def spots_writer_often_s (R:RF) (r:Gspots_part × Gspots_writer):V:=.agg [.t (.slc (R _ (cI .i64) r.1.first)),.t (.slc (R _ (cI .i64) r.1.last)),fB r.1.none]
def spots_writer_often_t (R:RF) (r:Gspots_part × Gspots_writer):List Row:=[.box 59 [.lst 1,fB r.2.out.None,.t (.slc (R _ (cI .i64) r.2.out.First)),.t (.slc (R _ (cI .i64) r.2.out.Last)),.lst 2],.list 32 4 (R _ cSet r.2.out.Sets),.list 23 1 (R _ (cLs (cI .i64)) r.2.out.Next)]
def spots_writer_often_l1 (rec_spots_writer_write:Node→Gspots_writer→Option (Gspots_part × Gspots_writer)) (rec_spots_writer_often_1:Int→Gspots_writer→Node→Option (Gspots_part × Gspots_writer)) (N:Nat) (p1:Node) (r1:Node):Nat→Int→Bool→List Int→List Int→List CSet→List (List Int)→List Int→List Int→Bool→Option (Gspots_part × Gspots_writer)
| 0,_,_,_,_,_,_,_,_,_=>none
| m+1,v3,v4,v5,v6,v7,v8,v9,v10,v11=>
 cond (cm .lss v3 p1.min)
 ((rec_spots_writer_write r1 (⟨(⟨v7,v4,v5,v6,v8⟩:GSpots)⟩:Gspots_writer)).bind fun a12=>
 (spots_writer_behind_g N (⟨v9,v10,v11⟩:Gspots_part) a12.1 a12.2).bind fun a13=>
 (spots_writer_often_l1 rec_spots_writer_write rec_spots_writer_often_1 N p1 r1 m) (ar .add .i64 v3 1) a13.2.out.None a13.2.out.First a13.2.out.Last a13.2.out.Sets a13.2.out.Next a13.1.first a13.1.last a13.1.none)
 (cond (cm .eql p1.max (-1))
 ((rec_spots_writer_write r1 (⟨(⟨v7,v4,v5,v6,v8⟩:GSpots)⟩:Gspots_writer)).bind fun a14=>
 (spots_writer_next_g N a14.1.last a14.1.first a14.2).bind fun a15=>
 (spots_writer_behind_g N (⟨v9,v10,v11⟩:Gspots_part) (⟨a14.1.first,a14.1.last,true⟩:Gspots_part) a15).bind fun a16=>
 some (a16.1,a16.2))
 ((rec_spots_writer_often_1 (ar .sub .i64 p1.max p1.min) (⟨(⟨v7,v4,v5,v6,v8⟩:GSpots)⟩:Gspots_writer) r1).bind fun a17=>
 (spots_writer_behind_g N (⟨v9,v10,v11⟩:Gspots_part) a17.1 a17.2).bind fun a18=>
 some (a18.1,a18.2)))
def spots_writer_write_s (R:RF) (r:Gspots_part × Gspots_writer):V:=.agg [.t (.slc (R _ (cI .i64) r.1.first)),.t (.slc (R _ (cI .i64) r.1.last)),fB r.1.none]
def spots_writer_write_t (R:RF) (r:Gspots_part × Gspots_writer):List Row:=[.box 59 [.lst 1,fB r.2.out.None,.t (.slc (R _ (cI .i64) r.2.out.First)),.t (.slc (R _ (cI .i64) r.2.out.Last)),.lst 2],.list 32 4 (R _ cSet r.2.out.Sets),.list 23 1 (R _ (cLs (cI .i64)) r.2.out.Next)]
def spots_writer_write_l1 (rec_spots_writer_write:Node→Gspots_writer→Option (Gspots_part × Gspots_writer)) (N:Nat) (p1:Node):Nat→Int→Bool→List Int→List Int→List CSet→List (List Int)→List Int→List Int→Bool→Option (Gspots_part × Gspots_writer)
| 0,_,_,_,_,_,_,_,_,_=>none
| m+1,v3,v4,v5,v6,v7,v8,v9,v10,v11=>
 cond (cm .lss v3 (ll (rw _ nodeRow p1.kids)))
 ((at_ p1.kids v3).bind fun r12=>
 (rec_spots_writer_write r12 (⟨(⟨v7,v4,v5,v6,v8⟩:GSpots)⟩:Gspots_writer)).bind fun a13=>
 (spots_merge_g N v9 a13.1.first).bind fun a14=>
 (spots_merge_g N v10 a13.1.last).bind fun a15=>
 cond (v11)
 (cond (v11)
 (cond (v11)
 ((spots_writer_write_l1 rec_spots_writer_write N p1 m) (ar .add .i64 v3 1) a13.2.out.None a13.2.out.First a13.2.out.Last a13.2.out.Sets a13.2.out.Next a14 a15 true)
 (none))
 (none))
 (cond (v11)
 (none)
 (cond (v11)
 (none)
 ((spots_writer_write_l1 rec_spots_writer_write N p1 m) (ar .add .i64 v3 1) a13.2.out.None a13.2.out.First a13.2.out.Last a13.2.out.Sets a13.2.out.Next a14 a15 a13.1.none))))
 (some ((⟨v9,v10,v11⟩:Gspots_part),(⟨(⟨v7,v4,v5,v6,v8⟩:GSpots)⟩:Gspots_writer)))
def spots_writer_write_l2 (rec_spots_writer_write:Node→Gspots_writer→Option (Gspots_part × Gspots_writer)) (N:Nat) (p1:Node):Nat→Int→Bool→List Int→List Int→List CSet→List (List Int)→List Int→List Int→Bool→Option (Gspots_part × Gspots_writer)
| 0,_,_,_,_,_,_,_,_,_=>none
| m+1,v17,v18,v19,v20,v21,v22,v23,v24,v25=>
 cond (cm .lss v17 (ll (rw _ nodeRow p1.kids)))
 ((at_ p1.kids v17).bind fun r26=>
 (rec_spots_writer_write r26 (⟨(⟨v21,v18,v19,v20,v22⟩:GSpots)⟩:Gspots_writer)).bind fun a27=>
 (spots_writer_behind_g N (⟨v23,v24,v25⟩:Gspots_part) a27.1 a27.2).bind fun a28=>
 (spots_writer_write_l2 rec_spots_writer_write N p1 m) (ar .add .i64 v17 1) a28.2.out.None a28.2.out.First a28.2.out.Last a28.2.out.Sets a28.2.out.Next a28.1.first a28.1.last a28.1.none)
 (some ((⟨v23,v24,v25⟩:Gspots_part),(⟨(⟨v21,v18,v19,v20,v22⟩:GSpots)⟩:Gspots_writer)))
mutual
def spots_writer_often_1_g:Nat→Int→Gspots_writer→Node→Option (Gspots_part × Gspots_writer)
| 0=>fun _ _ _=>none
| N+1=>fun p0 s0 s2=>
 cond (cm .eql p0 0)
 (some ((⟨[],[],true⟩:Gspots_part),s0))
 (((spots_writer_write_g N) s2 s0).bind fun a1=>
 ((spots_writer_often_1_g N) (ar .sub .i64 p0 1) a1.2 s2).bind fun a2=>
 (spots_writer_behind_g N a1.1 a2.1 a2.2).bind fun a3=>
 some ((⟨a3.1.first,a3.1.last,true⟩:Gspots_part),a3.2))
def spots_writer_often_g:Nat→Node→Gspots_writer→Option (Gspots_part × Gspots_writer)
| 0=>fun _ _=>none
| N+1=>fun p1 s0=>
 (at_ p1.kids 0).bind fun r1=>
 (spots_count_g N r1).bind fun a2=>
 cond (cm .eql a2 0)
 (some ((⟨[],[],true⟩:Gspots_part),s0))
 (spots_writer_often_l1 (spots_writer_write_g N) (spots_writer_often_1_g N) N p1 r1 N 0 s0.out.None s0.out.First s0.out.Last s0.out.Sets s0.out.Next [] [] true)
def spots_writer_write_g:Nat→Node→Gspots_writer→Option (Gspots_part × Gspots_writer)
| 0=>fun _ _=>none
| N+1=>fun p1 s0=>
 cond (cm .eql p1.kind 1)
 ((app cSet s0.out.Sets [p1.set]).bind fun l1=>
 (app (cLs (cI .i64)) s0.out.Next [[]]).bind fun l2=>
 some ((⟨[ll (rw _ cSet s0.out.Sets)],[ll (rw _ cSet s0.out.Sets)],false⟩:Gspots_part),(⟨(⟨l1,s0.out.None,s0.out.First,s0.out.Last,l2⟩:GSpots)⟩:Gspots_writer)))
 (cond (cm .eql p1.kind 3)
 (spots_writer_write_l1 (spots_writer_write_g N) N p1 N 0 s0.out.None s0.out.First s0.out.Last s0.out.Sets s0.out.Next [] [] false)
 (cond (cm .eql p1.kind 4)
 (((spots_writer_often_g N) p1 s0).bind fun a16=>
 some (a16.1,a16.2))
 (spots_writer_write_l2 (spots_writer_write_g N) N p1 N 0 s0.out.None s0.out.First s0.out.Last s0.out.Sets s0.out.Next [] [] true)))
end
def slices_CloneI_s (R:RF) (r:List Int):V:=.t (.slc (R _ (cI .i64) r))
def slices_CloneI_g (p0:List Int):Option (List Int):=
 nilq p0
 (some [])
 ((some []).bind fun l1=>
 (app (cI .i64) l1 p0).bind fun l2=>
 some l2)
def spots_Of_s (R:RF) (r:GSpots × Int):V:=.tup [.agg [.t (.slc (R _ cSet r.1.Sets)),fB r.1.None,.t (.slc (R _ (cI .i64) r.1.First)),.t (.slc (R _ (cI .i64) r.1.Last)),.t (.slc (R _ (cLs (cI .i64)) r.1.Next))],fI .i64 r.2]
def spots_Of_g (N:Nat) (p0:Node):Option (GSpots × Int):=
 (regex_Right_g N p0).bind fun a1=>
 cond (!a1)
 (some ((⟨[],false,[],[],[]⟩:GSpots),7))
 ((spots_count_g N p0).bind fun a2=>
 cond (cm .gtr a2 512)
 (some ((⟨[],false,[],[],[]⟩:GSpots),16))
 ((spots_writer_write_g N p0 (⟨(⟨[],false,[],[],[]⟩:GSpots)⟩:Gspots_writer)).bind fun a3=>
 (slices_CloneI_g a3.1.first).bind fun a4=>
 (slices_CloneI_g a3.1.last).bind fun a5=>
 some ((⟨a3.2.out.Sets,a3.1.none,a4,a5,a3.2.out.Next⟩:GSpots),0)))
def l16_works_s (R:RF) (r:Bool):V:=fB r
def l16_works_g (N:Nat):Option Bool:=
 (regex_Parse_g (ByteArray.mk #[97,40,98,124,99,41,42])).bind fun a1=>
 (spots_Of_g N a1.1).bind fun a2=>
 (cond (conj [cm .eql a1.2.E 0,cm .eql a1.2.At 0])
 (cond (cm .eql a2.2 0)
 (cond (cm .eql (ll (rw _ cSet a2.1.Sets)) 3)
 (cond (cm .eql (ll (rw _ (cLs (cI .i64)) a2.1.Next)) 3)
 (cond (!a2.1.None)
 (cond (cm .eql (ll (rw _ (cI .i64) a2.1.First)) 1)
 (cond (cm .eql (ll (rw _ (cI .i64) a2.1.Last)) 3)
 ((at_ a2.1.Next 0).bind fun r3=>
 cond (cm .eql (ll (rw _ (cI .i64) r3)) 2)
 ((at_ a2.1.Next 0).bind fun r4=>
 (at_ r4 0).bind fun r5=>
 cond (cm .eql r5 1)
 ((spots_Match_g N a2.1 (ByteArray.mk #[97,98,99,98])).bind fun a6=>
 cond (a6)
 ((spots_Match_g N a2.1 ByteArray.empty).bind fun a7=>
 some !a7)
 (some false))
 (some false))
 (some false))
 (some false))
 (some false))
 (some false))
 (some false))
 (some false))
 (some false))
 (some false):Option Bool).bind fun j1=>
 some j1
def spots_Count_s (R:RF) (r:Int):V:=fI .i64 r
def spots_Count_g (N:Nat) (p0:Node):Option Int:=
 (regex_Right_g N p0).bind fun a1=>
 cond (!a1)
 (some 0)
 ((spots_count_g N p0).bind fun a2=>
 some a2)
def r13_Size_s (R:RF) (r:Int × Int):V:=.tup [fI .i64 r.1,fI .i64 r.2]
def r13_Size_l1 (rec:Node→Option (Int × Int)) (p0:Node):Nat→Int→Int→Int→Option (Int × Int)
| 0,_,_,_=>none
| m+1,v1,v2,v3=>
 cond (cm .lss v3 (ll (rw _ nodeRow p0.kids)))
 ((at_ p0.kids v3).bind fun r4=>
 (rec r4).bind fun a5=>
 (cond (cm .gtr a5.2 v2)
 (some a5.2)
 (some v2):Option Int).bind fun j1=>
 (r13_Size_l1 rec p0 m) (ar .add .i64 v1 a5.1) j1 (ar .add .i64 v3 1))
 (some (v1,ar .add .i64 v2 1))
def r13_Size_g:Nat→Node→Option (Int × Int)
| 0=>fun _=>none
| N+1=>fun p0=>
 r13_Size_l1 (r13_Size_g N) p0 N 1 0 0
def l13_Great_s (R:RF) (r:Bool):V:=fB r
def l13_Great_g (N:Nat) (p0:Node):Option Bool:=
 (r13_Size_g N p0).bind fun a1=>
 (cond (cm .gtr a1.1 300)
 (some true)
 (some (cm .gtr a1.2 40)):Option Bool).bind fun j1=>
 some j1
def slices_Index_152_s (R:RF) (r:Int):V:=fI .i64 r
def slices_Index_152_l1 (p0:List Int) (p1:Int):Nat→Int→Option Int
| 0,_=>none
| m+1,v1=>
 cond (cm .lss v1 (ll (rw _ (cI .i64) p0)))
 ((at_ p0 v1).bind fun r2=>
 cond (cm .eql p1 r2)
 (some v1)
 ((slices_Index_152_l1 p0 p1 m) (ar .add .i64 v1 1)))
 (some (-1))
def slices_Index_152_g (N:Nat) (p0:List Int) (p1:Int):Option Int:=
 slices_Index_152_l1 p0 p1 N 0
def slices_Contains_150_s (R:RF) (r:Bool):V:=fB r
def slices_Contains_150_g (N:Nat) (p0:List Int) (p1:Int):Option Bool:=
 (slices_Index_152_g N p0 p1).bind fun a1=>
 some (cm .geq a1 0)
def slices_Clone_159_g (p0:List Bool):Option (List Bool):=
 nilq p0
 (some [])
 ((some []).bind fun l1=>
 (app cB l1 p0).bind fun l2=>
 some l2)
def slices_Equal_160_s (R:RF) (r:Bool):V:=fB r
def slices_Equal_160_l1 (p0:List Bool) (p1:List Bool):Nat→Int→Option Bool
| 0,_=>none
| m+1,v1=>
 cond (cm .lss v1 (ll (rw _ cB p0)))
 ((at_ p0 v1).bind fun r2=>
 (at_ p1 v1).bind fun r3=>
 cond (!(conj [r2==r3]))
 (some false)
 ((slices_Equal_160_l1 p0 p1 m) (ar .add .i64 v1 1)))
 (some true)
def slices_Equal_160_g (N:Nat) (p0:List Bool) (p1:List Bool):Option Bool:=
 cond (cm .neq (ll (rw _ cB p0)) (ll (rw _ cB p1)))
 (some false)
 (slices_Equal_160_l1 p0 p1 N 0)
def match_often_l4 (k2:Int→List Bool→List Bool→Option (List Bool)) (v10:List Bool) (v8:Int) (l12:List Bool):Nat→Bool→Int→List Bool→Option (List Bool)
| 0,_,_,_=>none
| m+1,v13,v14,v15=>
 cond (cm .lss v14 (ll (rw _ cB v10)))
 ((cond (v13)
 (some true)
 ((at_ l12 v14).bind fun r16=>
 (at_ l12 v14).bind fun r17=>
 cond (r17)
 ((at_ v15 v14).bind fun r18=>
 (at_ v15 v14).bind fun r19=>
 some !r19)
 (some false)):Option Bool).bind fun j29=>
 ((at_ v15 v14).bind fun r20=>
 (at_ v15 v14).bind fun r21=>
 cond (r21)
 ((at_ v15 v14).bind fun r22=>
 (at_ v15 v14).bind fun r23=>
 put cB v15 v14 true fun l24=>
 some l24)
 ((at_ l12 v14).bind fun r25=>
 (at_ l12 v14).bind fun r26=>
 (at_ v15 v14).bind fun r27=>
 (at_ v15 v14).bind fun r28=>
 put cB v15 v14 r26 fun l29=>
 some l29):Option (List Bool)).bind fun j30=>
 (match_often_l4 k2 v10 v8 l12 m) j29 (ar .add .i64 v14 1) j30)
 (cond (!v13)
 (some v15)
 (k2 (ar .add .i64 v8 1) l12 v15))
def match_often_l2 (rec:Node→ByteArray→List Bool→Option (List Bool)) (N:Nat) (p0:Node) (p1:ByteArray):Nat→Int→List Bool→List Bool→Option (List Bool)
| 0,_,_,_=>none
| m+1,v8,v9,v10=>
 (cond (cm .eql p0.max (-1))
 (some true)
 (some (cm .lss v8 p0.max)):Option Bool).bind fun j26=>
 cond (j26)
 ((at_ p0.kids 0).bind fun r11=>
 (rec r11 p1 v9).bind fun l12=>
 match_often_l4 (match_often_l2 rec N p0 p1 m) v10 v8 l12 N false 0 v10)
 (some v10)
def match_often_l7 (k5:Int→List Bool→List Bool→Option (List Bool)) (v33:List Bool) (v31:Int) (l35:List Bool):Nat→Bool→Int→List Bool→Option (List Bool)
| 0,_,_,_=>none
| m+1,v36,v37,v38=>
 cond (cm .lss v37 (ll (rw _ cB v33)))
 ((cond (v36)
 (some true)
 ((at_ l35 v37).bind fun r39=>
 (at_ l35 v37).bind fun r40=>
 cond (r40)
 ((at_ v38 v37).bind fun r41=>
 (at_ v38 v37).bind fun r42=>
 some !r42)
 (some false)):Option Bool).bind fun j39=>
 ((at_ v38 v37).bind fun r43=>
 (at_ v38 v37).bind fun r44=>
 cond (r44)
 ((at_ v38 v37).bind fun r45=>
 (at_ v38 v37).bind fun r46=>
 put cB v38 v37 true fun l47=>
 some l47)
 ((at_ l35 v37).bind fun r48=>
 (at_ l35 v37).bind fun r49=>
 (at_ v38 v37).bind fun r50=>
 (at_ v38 v37).bind fun r51=>
 put cB v38 v37 r49 fun l52=>
 some l52):Option (List Bool)).bind fun j40=>
 (match_often_l7 k5 v33 v31 l35 m) j39 (ar .add .i64 v37 1) j40)
 (cond (!v36)
 (some v38)
 (k5 (ar .add .i64 v31 1) l35 v38))
def match_often_l5 (rec:Node→ByteArray→List Bool→Option (List Bool)) (N:Nat) (p0:Node) (p1:ByteArray):Nat→Int→List Bool→List Bool→Option (List Bool)
| 0,_,_,_=>none
| m+1,v31,v32,v33=>
 (cond (cm .eql p0.max (-1))
 (some true)
 (some (cm .lss v31 p0.max)):Option Bool).bind fun j36=>
 cond (j36)
 ((at_ p0.kids 0).bind fun r34=>
 (rec r34 p1 v32).bind fun l35=>
 match_often_l7 (match_often_l5 rec N p0 p1 m) v33 v31 l35 N false 0 v33)
 (some v33)
def match_often_l1 (rec:Node→ByteArray→List Bool→Option (List Bool)) (N:Nat) (p0:Node) (p1:ByteArray):Nat→Int→List Bool→Option (List Bool)
| 0,_,_=>none
| m+1,v2,v3=>
 cond (cm .lss v2 p0.min)
 ((at_ p0.kids 0).bind fun r4=>
 (rec r4 p1 v3).bind fun l5=>
 (slices_Equal_160_g N l5 v3).bind fun a6=>
 cond (a6)
 ((slices_Clone_159_g v3).bind fun l7=>
 match_often_l2 rec N p0 p1 N p0.min v3 l7)
 ((match_often_l1 rec N p0 p1 m) (ar .add .i64 v2 1) l5))
 ((slices_Clone_159_g v3).bind fun l30=>
 match_often_l5 rec N p0 p1 N p0.min v3 l30)
def match_often_g (rec:Node→ByteArray→List Bool→Option (List Bool)) (N:Nat) (p0:Node) (p1:ByteArray) (p2:List Bool):Option (List Bool):=
 (slices_Clone_159_g p2).bind fun l1=>
 match_often_l1 rec N p0 p1 N 0 l1
def match_moved_l1 (p0:Node) (p1:ByteArray) (p2:List Bool):Nat→Int→List Bool→Option (List Bool)
| 0,_,_=>none
| m+1,v2,v3=>
 cond (cm .lss v2 (sl p1))
 ((at_ p2 v2).bind fun r4=>
 cond (r4)
 (cond (r4)
 (cond (r4)
 (cond (r4)
 (cond (r4)
 (cond (sinB p1 v2) (cond (r4)
 ((charset_Has_g p0.set (sa p1 v2)).bind fun a5=>
 cond (r4)
 ((at_ v3 (ar .add .i64 v2 1)).bind fun r6=>
 (at_ v3 (ar .add .i64 v2 1)).bind fun r7=>
 put cB v3 (ar .add .i64 v2 1) a5 fun l8=>
 (match_moved_l1 p0 p1 p2 m) (ar .add .i64 v2 1) l8)
 (none))
 (none)) none)
 (none))
 (none))
 (none))
 (none))
 (cond (r4)
 (none)
 (cond (r4)
 (none)
 (cond (r4)
 (none)
 (cond (r4)
 (none)
 (cond (r4)
 (none)
 (cond (r4)
 (none)
 ((at_ v3 (ar .add .i64 v2 1)).bind fun r9=>
 (at_ v3 (ar .add .i64 v2 1)).bind fun r10=>
 put cB v3 (ar .add .i64 v2 1) false fun l11=>
 (match_moved_l1 p0 p1 p2 m) (ar .add .i64 v2 1) l11))))))))
 (some v3)
def match_moved_l2 (rec:Node→ByteArray→List Bool→Option (List Bool)) (p0:Node) (p1:ByteArray):Nat→Int→List Bool→Option (List Bool)
| 0,_,_=>none
| m+1,v13,v14=>
 cond (cm .lss v13 (ll (rw _ nodeRow p0.kids)))
 ((at_ p0.kids v13).bind fun r15=>
 (rec r15 p1 v14).bind fun l16=>
 (match_moved_l2 rec p0 p1 m) (ar .add .i64 v13 1) l16)
 (some v14)
def match_moved_l5 (k3:Int→List Bool→Option (List Bool)) (v17:Int) (v18:List Bool) (l20:List Bool):Nat→Bool→Int→List Bool→Option (List Bool)
| 0,_,_,_=>none
| m+1,v21,v22,v23=>
 cond (cm .lss v22 (ll (rw _ cB v18)))
 ((cond (v21)
 (some true)
 ((at_ l20 v22).bind fun r24=>
 (at_ l20 v22).bind fun r25=>
 cond (r25)
 ((at_ v23 v22).bind fun r26=>
 (at_ v23 v22).bind fun r27=>
 some !r27)
 (some false)):Option Bool).bind fun j7=>
 ((at_ v23 v22).bind fun r28=>
 (at_ v23 v22).bind fun r29=>
 cond (r29)
 ((at_ v23 v22).bind fun r30=>
 (at_ v23 v22).bind fun r31=>
 put cB v23 v22 true fun l32=>
 some l32)
 ((at_ l20 v22).bind fun r33=>
 (at_ l20 v22).bind fun r34=>
 (at_ v23 v22).bind fun r35=>
 (at_ v23 v22).bind fun r36=>
 put cB v23 v22 r34 fun l37=>
 some l37):Option (List Bool)).bind fun j8=>
 (match_moved_l5 k3 v17 v18 l20 m) j7 (ar .add .i64 v22 1) j8)
 (k3 (ar .add .i64 v17 1) v23)
def match_moved_l3 (rec:Node→ByteArray→List Bool→Option (List Bool)) (N:Nat) (p0:Node) (p1:ByteArray) (p2:List Bool):Nat→Int→List Bool→Option (List Bool)
| 0,_,_=>none
| m+1,v17,v18=>
 cond (cm .lss v17 (ll (rw _ nodeRow p0.kids)))
 ((at_ p0.kids v17).bind fun r19=>
 (rec r19 p1 p2).bind fun l20=>
 match_moved_l5 (match_moved_l3 rec N p0 p1 p2 m) v17 v18 l20 N false 0 v18)
 (some v18)
def match_moved_g:Nat→Node→ByteArray→List Bool→Option (List Bool)
| 0=>fun _ _ _=>none
| N+1=>fun p0 p1 p2=>
 (zro cB false (ll (rw _ cB p2)) (ll (rw _ cB p2))).bind fun l1=>
 cond (cm .eql p0.kind 1)
 (match_moved_l1 p0 p1 p2 N 0 l1)
 (cond (cm .eql p0.kind 2)
 ((cpy cB l1 p2).bind fun l12=>
 match_moved_l2 (match_moved_g N) p0 p1 N 0 l12)
 (cond (cm .eql p0.kind 3)
 (match_moved_l3 (match_moved_g N) N p0 p1 p2 N 0 l1)
 (cond (cm .eql p0.kind 4)
 ((match_often_g (match_moved_g N) N p0 p1 p2).bind fun l38=>
 some l38)
 (some l1))))
def match_Ends_l1 (l6:List Bool):Nat→Int→List Int→Option (List Int)
| 0,_,_=>none
| m+1,v7,v8=>
 cond (cm .lss v7 (ll (rw _ cB l6)))
 ((at_ l6 v7).bind fun r9=>
 (at_ l6 v7).bind fun r10=>
 (cond (r10)
 ((app (cI .i64) v8 [v7]).bind fun l11=>
 some l11)
 (some v8):Option (List Int)).bind fun j3=>
 (match_Ends_l1 l6 m) (ar .add .i64 v7 1) j3)
 (some v8)
def match_Ends_g (N:Nat) (p0:Node) (p1:ByteArray) (p2:Int):Option (List Int):=
 ((regex_Right_g N p0).bind fun a1=>
 cond (!a1)
 (some true)
 (cond (cm .lss p2 0)
 (some true)
 (some (cm .gtr p2 (sl p1)))):Option Bool).bind fun j1=>
 cond (j1)
 (some [])
 ((zro cB false (ar .add .i64 (sl p1) 1) (ar .add .i64 (sl p1) 1)).bind fun l2=>
 (at_ l2 p2).bind fun r3=>
 (at_ l2 p2).bind fun r4=>
 put cB l2 p2 true fun l5=>
 (match_moved_g N p0 p1 l5).bind fun l6=>
 match_Ends_l1 l6 N 0 [])
def match_Match_s (R:RF) (r:Bool):V:=fB r
def match_Match_g (N:Nat) (p0:Node) (p1:ByteArray):Option Bool:=
 (match_Ends_g N p0 p1 0).bind fun l1=>
 (slices_Contains_150_g N l1 (sl p1)).bind fun a2=>
 some a2
end Gn
end Go.Proofs.YtbpihhelojjedaaDoor
namespace Go.Proofs.YtbpihhelojjedaaDoor
open Go
open Sh Gn
namespace Pl
theorem works16:l16_works_g 300=some true:=by decide+kernel
theorem at_nat {α:Type} (l:List α) (i:Nat):at_ l (i:Int)=l[i]?:=by
 unfold at_;rw [if_pos (by omega)];simp
theorem at_in {α:Type} {l:List α} {i:Nat} (h:i<l.length):at_ l (i:Int)=some l[i]:=by rw [at_nat,List.getElem?_eq_getElem h]
theorem at_int {α:Type} {l:List α} {x:Int} (h0:0≤x) (h:x<l.length):∃y,at_ l x=some y∧l[x.toNat]?=some y:=by
 obtain ⟨i,rfl⟩:=Int.eq_ofNat_of_zero_le h0
 exact ⟨l[i]'(by omega),at_in (by omega),by rw [Int.toNat_natCast];exact List.getElem?_eq_getElem (by omega)⟩
theorem inc1 {i:Nat} (h:i≤100000000):ar .add .i64 (i:Int) 1=((i+1:Nat):Int):=by rw [ar_add (by omega) (by omega)];omega
theorem app_eq {α:Type} {c:α→List Ab.T} {l m:List α} (h:l.length+m.length≤1000000000):app c l m=some (l++m):=by unfold app;rw [if_pos h]
def rs (many:Int):Int→List Int→Bool
 | _,[]=>true
 | last,x::l=>if x≤last∨many≤x then false else rs many x l
theorem rising_p {l:List Int} {many:Int} (hl:l.length≤1000000):∀(m i:Nat) (last:Int),i≤l.length→l.length<i+m→spots_rising_l1 l many m last i=some (rs many last (l.drop i)):=by
 intro m
 induction m with
 | zero=>intro i last h1 h2;omega
 | succ m ih=>
   intro i last h1 h2
   rw [spots_rising_l1]
   simp only [cm_lss,ll_eq,cond_dec,cm_leq,cm_geq]
   by_cases c:i<l.length
   · rw [if_pos (by omega),at_in c,List.drop_eq_getElem_cons c,rs]
     simp only [Option.bind_some,inc1 (show i≤100000000 by omega)]
     by_cases g:l[i]≤last
     · simp only [g,if_true,Option.bind_some,true_or,_root_.cond_true]
     · by_cases g2:many≤l[i]
       · simp only [g,g2,if_false,Option.bind_some,decide_true,or_true,if_true,_root_.cond_true]
       · simp only [g,g2,if_false,Option.bind_some,decide_false,or_false,_root_.cond_false]
         exact ih (i+1) _ (by omega) (by omega)
   · rw [if_neg (by omega),List.drop_of_length_le (by omega),rs]
theorem rs_in {many:Int}:∀{l:List Int} {last:Int},rs many last l=true→-1≤last→∀x∈l,0≤x∧x<many
 | [],_,_,_,x,h=>by cases h
 | y ::l,last,h,hl,x,hx=>by
   rw [rs] at h
   split at h
   · cases h
   · rename_i g
     rcases List.mem_cons.1 hx with rfl | hx
     · omega
     · exact rs_in h (by omega) x hx
def okB (p:GSpots):Bool:= !(decide (512<(p.Sets.length:Int)))&&(decide ((p.Next.length:Int)=p.Sets.length)&&(rs p.Sets.length (-1) p.First&&(rs p.Sets.length (-1) p.Last&&p.Next.all (rs p.Sets.length (-1)))))
structure Low (p:GSpots):Prop where
 sets:p.Sets.length≤200
 next:p.Next.length≤200
 first:p.First.length≤200
 last:p.Last.length≤200
 each:∀l∈p.Next,l.length≤200
variable {p:GSpots}
theorem right_l (hp:Low p) {N:Nat} (hN:250≤N):∀(m i:Nat),i≤p.Next.length→p.Next.length<i+m→spots_Right_l3 N p m i=some ((p.Next.drop i).all (rs p.Sets.length (-1))):=by
 intro m
 induction m with
 | zero=>intro i h1 h2;omega
 | succ m ih=>
   intro i h1 h2
   have:=hp.next
   rw [spots_Right_l3]
   simp only [cm_lss,ll_eq,cond_dec,cm_geq]
   by_cases c:i<p.Next.length
   · have hl:=hp.each p.Next[i] (List.getElem_mem c)
     have h5:spots_rising_g N p.Next[i] p.Sets.length=some (rs p.Sets.length (-1) p.Next[i]):=rising_p (by omega) N 0 (-1) (by omega) (by omega)
     rw [if_pos (by omega),at_in c,List.drop_eq_getElem_cons c,List.all_cons]
     simp only [Option.bind_some,h5,inc1 (show i≤100000000 by omega),cond_not]
     cases h6:rs p.Sets.length (-1) p.Next[i] with
     | true=>simp only [_root_.cond_true,Bool.true_and];exact ih (i+1) (by omega) (by omega)
     | false=>
       have:(0:Int)≤i:=by omega
       simp only [_root_.cond_false,Bool.false_and,this,decide_true,Bool.not_true]
   · rw [if_neg (by omega),List.drop_of_length_le (by omega)]
     rfl
theorem right_p (hp:Low p) {N:Nat} (hN:250≤N):spots_Right_g N p=some (okB p):=by
 have h1:=hp.sets
 have h2:=hp.next
 have h3:=hp.first
 have h4:=hp.last
 have f:spots_rising_g N p.First p.Sets.length=some (rs p.Sets.length (-1) p.First):=rising_p (by omega) N 0 (-1) (by omega) (by omega)
 have g:spots_rising_g N p.Last p.Sets.length=some (rs p.Sets.length (-1) p.Last):=rising_p (by omega) N 0 (-1) (by omega) (by omega)
 have r:spots_Right_l3 N p N 0=some (p.Next.all (rs p.Sets.length (-1))):=right_l hp hN N 0 (by omega) (by omega)
 unfold spots_Right_g okB
 simp only [cm_gtr,ll_eq,cond_dec,cm_neq,cond_not,f,g,r,Option.bind_some]
 have c:¬(512:Int)<p.Sets.length:=by omega
 simp only [c,if_false,decide_false,Bool.not_false,Bool.true_and]
 by_cases c2:(p.Next.length:Int)=p.Sets.length
 · simp only [c2,if_true,decide_true,Bool.true_and]
   cases rs p.Sets.length (-1) p.First<;>cases rs p.Sets.length (-1) p.Last<;>rfl
 · simp only [c2,if_false,decide_false,Bool.false_and];rfl
end Pl
end Go.Proofs.YtbpihhelojjedaaDoor
