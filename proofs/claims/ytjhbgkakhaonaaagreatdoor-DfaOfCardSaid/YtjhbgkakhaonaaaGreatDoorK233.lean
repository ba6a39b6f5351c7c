/- Texts that the proof leans on. -/
import Derived.Test.YtjhbgkakhaonaaaGreatDoorK229
set_option linter.unusedVariables false
set_option linter.unusedSimpArgs false
set_option maxRecDepth 100000
set_option maxHeartbeats 4000000
namespace Go.Proofs.YtjhbgkakhaonaaaGreatDoor
open Go Go.RowKit
namespace Ab
section
variable {P:Program} {A:Run} {E:Env} {L:TypeId→Option Lt}
theorem use_bare (hE:dom P A=E) {f:FuncId} {args args' args'':List V} {s:St} {v:V} {K:V→St→Prop} (hF:Fun P f args' v) (hz:frzL s.heap args=some args'') (he:nrm.nrmL args''=args') (hb:v.bare=true) (hK:K v s):E.call f args s K:=by
 subst hE;exact call_bare (hF.args he) hz hb hK
variable (hE:dom P A=E)
include hE
end
end Ab
end Go.Proofs.YtjhbgkakhaonaaaGreatDoor
namespace Go.Proofs.YtjhbgkakhaonaaaGreatDoor
open Go Go.RowKit
open Ab
namespace Sh
def nx {β:Type} (s:ByteArray) (p:Int) (y:Int→Int→Option β) (n:Option β):Option β:=if p.toNat<s.size then y (p+(Utf8.decode s p.toNat).2) (Utf8.decode s p.toNat).1 else n
section
variable {P:Program} {A:Run} {W:Wd} {E:Env} {L:TypeId→Option Lt}
variable (hE:dom P A=mkE W E)
include hE
section
variable {β α:Type} {v:β} {f:FuncId} {args args' args'':List V} {s:St} {sh:RF→α→V} {g:Option α} {X:α→Option β} {K:V→St→Prop}
theorem L_bare {R:RF} (hR:R=rw) (h:g.bind X=some v) (hF:∀r,g=some r→FunS P f args' (sh rw) r) (hz:frzL s.heap args=some args'') (he:nrm.nrmL args''=args') (hb:∀r,(sh rw r).bare=true) (hK:∀r,X r=some v→K (sh R r) s):E.call f args s K:=by
 obtain ⟨r,h1,h2⟩:=conv_some h
 subst hR
 exact use_bare hE (v:=sh rw r) (hF r h1) hz he (hb r) (hK r h2)
end
end
end Sh
end Go.Proofs.YtjhbgkakhaonaaaGreatDoor
namespace Go.Proofs.YtjhbgkakhaonaaaGreatDoor
open Go Go.RowKit
open Ab Sh
namespace Gn
def cSpots (x:GSpots):List Ab.T:=[.slc (rw _ cSet x.Sets),.flat (.bool x.None),.slc (rw _ (cI .i64) x.First),.slc (rw _ (cI .i64) x.Last),.slc (rw _ (cLs (cI .i64)) x.Next)]
end Gn
end Go.Proofs.YtjhbgkakhaonaaaGreatDoor
namespace Go.Proofs.YtjhbgkakhaonaaaGreatDoor
open Go Go.RowKit
open Ab Sh
namespace Gn
def r16_rising_s (R:RF) (r:Bool):V:=fB r
def r16_rising_l1 (p0:List Int) (p1:Int):Nat→Int→Option Bool
| 0,_=>none
| m+1,v1=>
 cond (cm .lss v1 (ll (rw _ (cI .i64) p0)))
 ((at_ p0 v1).bind fun r2=>
 cond (cm .lss r2 0)
 (cond (cm .lss r2 0)
 (cond (cm .lss r2 0)
 (cond (cm .lss r2 0)
 (cond (cm .lss r2 0)
 (cond (cm .lss r2 0)
 (cond (cm .lss r2 0)
 (some false)
 (none))
 (none))
 (none))
 (none))
 (none))
 (none))
 (cond (cm .lss r2 0)
 (none)
 (cond (cm .lss r2 0)
 (none)
 ((at_ p0 v1).bind fun r3=>
 cond (cm .lss r2 0)
 (none)
 (cond (cm .lss r2 0)
 (none)
 (cond (cm .lss r2 0)
 (none)
 (cond (cm .lss r2 0)
 (none)
 (cond (cm .geq r3 p1)
 (cond (cm .geq r3 p1)
 (cond (cm .geq r3 p1)
 (cond (cm .geq r3 p1)
 (cond (cm .geq r3 p1)
 (some false)
 (none))
 (none))
 (none))
 (none))
 (cond (cm .geq r3 p1)
 (none)
 (cond (cm .geq r3 p1)
 (none)
 (cond (cm .gtr v1 0)
 (cond (cm .gtr v1 0)
 (cond (cm .gtr v1 0)
 (cond (cm .gtr v1 0)
 ((at_ p0 (ar .sub .i64 v1 1)).bind fun r4=>
 cond (cm .gtr v1 0)
 (cond (cm .gtr v1 0)
 (cond (cm .gtr v1 0)
 (cond (cm .gtr v1 0)
 ((at_ p0 v1).bind fun r5=>
 cond (cm .gtr v1 0)
 (cond (cm .gtr v1 0)
 (cond (cm .geq r3 p1)
 (none)
 (cond (cm .gtr v1 0)
 (cond (cm .geq r3 p1)
 (none)
 (cond (cm .geq r4 r5)
 (some false)
 ((r16_rising_l1 p0 p1 m) (ar .add .i64 v1 1))))
 (none)))
 (none))
 (none))
 (none))
 (none))
 (none))
 (none))
 (none))
 (none))
 (none))
 (cond (cm .gtr v1 0)
 (none)
 (cond (cm .gtr v1 0)
 (none)
 (cond (cm .gtr v1 0)
 (none)
 (cond (cm .gtr v1 0)
 (none)
 (cond (cm .gtr v1 0)
 (none)
 (cond (cm .gtr v1 0)
 (none)
 (cond (cm .gtr v1 0)
 (none)
 (cond (cm .gtr v1 0)
 (none)
 (cond (cm .gtr v1 0)
 (none)
 (cond (cm .geq r3 p1)
 (none)
 (cond (cm .gtr v1 0)
 (none)
 (cond (cm .geq r3 p1)
 (none)
 ((r16_rising_l1 p0 p1 m) (ar .add .i64 v1 1)))))))))))))))))))))))))
 (some true)
def r16_rising_g (N:Nat) (p0:List Int) (p1:Int):Option Bool:=
 r16_rising_l1 p0 p1 N 0
def r16_Right_s (R:RF) (r:Bool):V:=fB r
def r16_Right_l1 (N:Nat) (p0:GSpots):Nat→Int→Option Bool
| 0,_=>none
| m+1,v3=>
 cond (cm .lss v3 (ll (rw _ cSet p0.Sets)))
 ((at_ p0.Next v3).bind fun r4=>
 (r16_rising_g N r4 (ll (rw _ cSet p0.Sets))).bind fun a5=>
 cond (!a5)
 (some false)
 ((r16_Right_l1 N p0 m) (ar .add .i64 v3 1)))
 (some true)
def r16_Right_g (N:Nat) (p0:GSpots):Option Bool:=
 (cond (cm .gtr (ll (rw _ cSet p0.Sets)) 512)
 (some true)
 (cond (cm .neq (ll (rw _ (cLs (cI .i64)) p0.Next)) (ll (rw _ cSet p0.Sets)))
 (some true)
 ((r16_rising_g N p0.First (ll (rw _ cSet p0.Sets))).bind fun a1=>
 cond (!a1)
 (some true)
 ((r16_rising_g N p0.Last (ll (rw _ cSet p0.Sets))).bind fun a2=>
 some !a2))):Option Bool).bind fun j1=>
 cond (j1)
 (some false)
 (r16_Right_l1 N p0 N 0)
def r16_in_s (R:RF) (r:Bool):V:=fB r
def r16_in_l1 (p0:List Int) (p1:Int):Nat→Int→Option Bool
| 0,_=>none
| m+1,v1=>
 cond (cm .lss v1 (ll (rw _ (cI .i64) p0)))
 ((at_ p0 v1).bind fun r2=>
 cond (cm .eql r2 p1)
 (some true)
 ((r16_in_l1 p0 p1 m) (ar .add .i64 v1 1)))
 (some false)
def r16_in_g (N:Nat) (p0:List Int) (p1:Int):Option Bool:=
 r16_in_l1 p0 p1 N 0
def r16_Join_s (R:RF) (r:List Int):V:=.t (.slc (R _ (cI .i64) r))
def r16_Join_l1 (N:Nat) (p0:List Int) (p1:List Int) (p2:Int):Nat→Int→List Int→Option (List Int)
| 0,_,_=>none
| m+1,v1,v2=>
 cond (cm .lss v1 p2)
 (((r16_in_g N p0 v1).bind fun a3=>
 cond (a3)
 (some true)
 ((r16_in_g N p1 v1).bind fun a4=>
 some a4):Option Bool).bind fun j3=>
 (cond (j3)
 ((app (cI .i64) v2 [v1]).bind fun l5=>
 some l5)
 (some v2):Option (List Int)).bind fun j4=>
 (r16_Join_l1 N p0 p1 p2 m) (ar .add .i64 v1 1) j4)
 (some v2)
def r16_Join_g (N:Nat) (p0:List Int) (p1:List Int) (p2:Int):Option (List Int):=
 r16_Join_l1 N p0 p1 p2 N 0 []
end Gn
end Go.Proofs.YtjhbgkakhaonaaaGreatDoor
namespace Go.Proofs.YtjhbgkakhaonaaaGreatDoor
open Go Go.RowKit
open Ab
namespace Sh
section
variable {P:Program} {A:Run} {W:Wd} {E:Env} {L:TypeId→Option Lt} (hE:dom P A=mkE W E)
include hE
theorem L_denil {c:Code} {s:St} {Q:Ex→St→Prop} (k:Nat) (hk:s.tmps[k]?=some vNil) (h:E.other c ⟨s.tmps.set k (.t (.slc [])),s.heap,s.base⟩ Q):E.other c s Q:=by
 have h':(mkE W E).other c ⟨s.tmps.set k (.t (.slc [])),s.heap,s.base⟩ Q:=h
 show (mkE W E).other c s Q
 rw [←hE] at h' ⊢
 intro cx a w R
 refine h' cx a w ⟨⟨by rw [List.length_set];exact R.tm.1,fun i x u h1 h2=>?_⟩,R.df,R.hp,R.kp,R.bs⟩
 by_cases e:k=i
 · subst e
   rw [List.getElem?_set_self (List.getElem?_eq_some_iff.1 hk).1] at h1
   cases h1
   exact nrm_le vNil _ _ _ (R.tm.2 k vNil u hk h2)
 · rw [List.getElem?_set_ne e] at h1
   exact R.tm.2 i x u h1 h2
end
end Sh
end Go.Proofs.YtjhbgkakhaonaaaGreatDoor
namespace Go.Proofs.YtjhbgkakhaonaaaGreatDoor
open Go Go.RowKit
open Ab
namespace Sh
theorem L_junk {P:Program} {A:Run} {W:Wd} {E:Env} (hE:dom P A=mkE W E) {c:Code} {s:St} {Q:Ex→St→Prop} (k:Nat) (h:E.other c ⟨s.tmps.set k .junk,s.heap,s.base⟩ Q):E.other c s Q:=by
 have h':(mkE W E).other c ⟨s.tmps.set k .junk,s.heap,s.base⟩ Q:=h
 show (mkE W E).other c s Q
 rw [←hE] at h' ⊢
 intro cx a w R
 refine h' cx a w ⟨⟨by rw [List.length_set];exact R.tm.1,fun i x u h1 h2=>?_⟩,R.df,R.hp,R.kp,R.bs⟩
 by_cases e:k=i
 · subst e
   by_cases hk:k<s.tmps.length
   · rw [List.getElem?_set_self hk] at h1
     cases h1
     exact .junk _
   · rw [List.set_eq_of_length_le (by omega)] at h1
     exact R.tm.2 k x u h1 h2
 · rw [List.getElem?_set_ne e] at h1
   exact R.tm.2 i x u h1 h2
end Sh
end Go.Proofs.YtjhbgkakhaonaaaGreatDoor
namespace Go.Proofs.YtjhbgkakhaonaaaGreatDoor
open Go Go.RowKit
open Ab Sh
namespace Gn
def r17_Right_s (R:RF) (r:Bool):V:=fB r
def r17_Right_l1 (p0:List Int):Nat→Int→Int→Option Bool
| 0,_,_=>none
| m+1,v1,v2=>
 cond (cm .lss v2 256)
 (((at_ p0 v2).bind fun r3=>
 cond (cm .lss r3 0)
 (some true)
 ((at_ p0 v2).bind fun r4=>
 some (cm .gtr r4 (ar .add .i64 v1 1))):Option Bool).bind fun j3=>
 cond (j3)
 (some false)
 ((at_ p0 v2).bind fun r5=>
 (cond (cm .gtr r5 v1)
 ((at_ p0 v2).bind fun r6=>
 some r6)
 (some v1):Option Int).bind fun j4=>
 (r17_Right_l1 p0 m) j4 (ar .add .i64 v2 1)))
 (some true)
def r17_Right_g (N:Nat) (p0:List Int):Option Bool:=
 cond (cm .neq (ll (rw _ (cI .i64) p0)) 256)
 (some false)
 (r17_Right_l1 p0 N (-1) 0)
def r17_Count_s (R:RF) (r:Int):V:=fI .i64 r
def r17_Count_l1 (N:Nat) (p0:List Int):Nat→Int→Int→Option Int
| 0,_,_=>none
| m+1,v1,v2=>
 (cond (cm .lss v2 (ll (rw _ (cI .i64) p0)))
 ((r17_Right_g N p0).bind fun a3=>
 some a3)
 (some false):Option Bool).bind fun j1=>
 cond (j1)
 ((at_ p0 v2).bind fun r4=>
 (cond (cm .gtr r4 v1)
 ((at_ p0 v2).bind fun r5=>
 some r5)
 (some v1):Option Int).bind fun j2=>
 (r17_Count_l1 N p0 m) j2 (ar .add .i64 v2 1))
 (some (ar .add .i64 v1 1))
def r17_Count_g (N:Nat) (p0:List Int):Option Int:=
 r17_Count_l1 N p0 N (-1) 0
def r18_Right_s (R:RF) (r:Bool):V:=fB r
def r18_Right_l2 (k1:Int→Option Bool) (p0:GDfa) (a1:Int) (v2:Int):Nat→Int→Option Bool
| 0,_=>none
| m+1,v4=>
 cond (cm .lss v4 a1)
 (((at_ p0.Next v2).bind fun r5=>
 (at_ r5 v4).bind fun r6=>
 cond (cm .lss r6 0)
 (some true)
 ((at_ p0.Next v2).bind fun r7=>
 (at_ r7 v4).bind fun r8=>
 some (cm .geq r8 (ll (rw _ (cLs (cI .i64)) p0.Next)))):Option Bool).bind fun j5=>
 cond (j5)
 (some false)
 ((r18_Right_l2 k1 p0 a1 v2 m) (ar .add .i64 v4 1)))
 (k1 (ar .add .i64 v2 1))
def r18_Right_l1 (N:Nat) (p0:GDfa) (a1:Int):Nat→Int→Option Bool
| 0,_=>none
| m+1,v2=>
 cond (cm .lss v2 (ll (rw _ (cLs (cI .i64)) p0.Next)))
 ((at_ p0.Next v2).bind fun r3=>
 cond (cm .neq (ll (rw _ (cI .i64) r3)) a1)
 (some false)
 (r18_Right_l2 (r18_Right_l1 N p0 a1 m) p0 a1 v2 N 0))
 (some true)
def r18_Right_g (N:Nat) (p0:GDfa):Option Bool:=
 (r17_Count_g N p0.Block).bind fun a1=>
 (cond (cm .lss (ll (rw _ (cLs (cI .i64)) p0.Next)) 1)
 (some true)
 (cond (cm .gtr (ll (rw _ (cLs (cI .i64)) p0.Next)) 4096)
 (some true)
 (cond (cm .neq (ll (rw _ cB p0.Final)) (ll (rw _ (cLs (cI .i64)) p0.Next)))
 (some true)
 (cond (cm .lss p0.Start 0)
 (some true)
 (cond (cm .geq p0.Start (ll (rw _ (cLs (cI .i64)) p0.Next)))
 (some true)
 (some (cm .lss a1 1)))))):Option Bool).bind fun j1=>
 cond (j1)
 (some false)
 (r18_Right_l1 N p0 a1 N 0)
def r18_State_s (R:RF) (r:Int):V:=fI .i64 r
def r18_State_l1 (p0:GDfa) (p1:ByteArray):Nat→Int→Int→Option Int
| 0,_,_=>none
| m+1,v2,v3=>
 cond (cm .lss v3 (sl p1))
 ((at_ p0.Next v2).bind fun r4=>
 cond (sinB p1 v3) ((at_ p0.Block (cv .i64 (sa p1 v3))).bind fun r5=>
 (at_ r4 r5).bind fun r6=>
 (r18_State_l1 p0 p1 m) r6 (ar .add .i64 v3 1)) none)
 (some v2)
def r18_State_g (N:Nat) (p0:GDfa) (p1:ByteArray):Option Int:=
 (r18_Right_g N p0).bind fun a1=>
 cond (!a1)
 (some (-1))
 (r18_State_l1 p0 p1 N p0.Start 0)
def r18_Run_s (R:RF) (r:Bool):V:=fB r
def r18_Run_g (N:Nat) (p0:GDfa) (p1:ByteArray):Option Bool:=
 (r18_State_g N p0 p1).bind fun a1=>
 (cond (cm .geq a1 0)
 ((at_ p0.Final a1).bind fun r2=>
 some r2)
 (some false):Option Bool).bind fun j1=>
 some j1
def l18_DfaRuns_s (R:RF) (r:Bool):V:=fB r
def l18_DfaRuns_g (N:Nat) (p0:GDfa) (p1:ByteArray):Option Bool:=
 ((l18_Great_g N p0).bind fun a1=>
 cond (a1)
 (some true)
 (some (cm .gtr (sl p1) 60)):Option Bool).bind fun j1=>
 cond (j1)
 ((l18_works_g N).bind fun a2=>
 some a2)
 ((dfa_Right_g N p0).bind fun a3=>
 (r18_Right_g N p0).bind fun a4=>
 cond (conj [a3==a4])
 (cond (conj [a3==a4])
 (cond (conj [a3==a4])
 ((dfa_State_g N p0 p1).bind fun a5=>
 cond (conj [a3==a4])
 (cond (conj [a3==a4])
 (cond (conj [a3==a4])
 ((r18_State_g N p0 p1).bind fun a6=>
 cond (conj [a3==a4])
 (cond (conj [a3==a4])
 (cond (cm .eql a5 a6)
 (cond (cm .eql a5 a6)
 (cond (cm .eql a5 a6)
 ((dfa_Run_g N p0 p1).bind fun a7=>
 cond (cm .eql a5 a6)
 (cond (cm .eql a5 a6)
 (cond (cm .eql a5 a6)
 ((r18_Run_g N p0 p1).bind fun a8=>
 cond (cm .eql a5 a6)
 (cond (cm .eql a5 a6)
 (cond (conj [a7==a8])
 ((l18_works_g N).bind fun a9=>
 cond (conj [a7==a8])
 (some a9)
 (none))
 (cond (conj [a7==a8])
 (none)
 (some false)))
 (none))
 (none))
 (none))
 (none))
 (none))
 (none))
 (none))
 (cond (cm .eql a5 a6)
 (none)
 (cond (cm .eql a5 a6)
 (none)
 (cond (cm .eql a5 a6)
 (none)
 (cond (cm .eql a5 a6)
 (none)
 (cond (cm .eql a5 a6)
 (none)
 (cond (cm .eql a5 a6)
 (none)
 (cond (cm .eql a5 a6)
 (none)
 (some false)))))))))
 (none))
 (none))
 (none))
 (none))
 (none))
 (none))
 (none))
 (cond (conj [a3==a4])
 (none)
 (cond (conj [a3==a4])
 (none)
 (cond (conj [a3==a4])
 (none)
 (cond (conj [a3==a4])
 (none)
 (cond (conj [a3==a4])
 (none)
 (cond (conj [a3==a4])
 (none)
 (cond (conj [a3==a4])
 (none)
 (some false)))))))))
def l18_Small_s (R:RF) (r:Bool):V:=fB r
def l18_Small_l1 (p0:GSpots):Nat→Int→Option Bool
| 0,_=>none
| m+1,v1=>
 cond (cm .lss v1 (ll (rw _ (cLs (cI .i64)) p0.Next)))
 ((at_ p0.Next v1).bind fun r2=>
 cond (cm .gtr (ll (rw _ (cI .i64) r2)) 40)
 (some false)
 ((l18_Small_l1 p0 m) (ar .add .i64 v1 1)))
 (some true)
def l18_Small_g (N:Nat) (p0:GSpots) (p1:Int):Option Bool:=
 (cond (cm .gtr (ll (rw _ cSet p0.Sets)) p1)
 (some true)
 (cond (cm .gtr (ll (rw _ (cLs (cI .i64)) p0.Next)) p1)
 (some true)
 (cond (cm .gtr (ll (rw _ (cI .i64) p0.First)) 40)
 (some true)
 (some (cm .gtr (ll (rw _ (cI .i64) p0.Last)) 40)))):Option Bool).bind fun j1=>
 cond (j1)
 (some false)
 (l18_Small_l1 p0 N 0)
def r17_alike_s (R:RF) (r:Bool):V:=fB r
def r17_alike_l1 (p0:List CSet) (p1:Int) (p2:Int):Nat→Int→Option Bool
| 0,_=>none
| m+1,v1=>
 cond (cm .lss v1 (ll (rw _ cSet p0)))
 ((at_ p0 v1).bind fun r2=>
 (r12_Has_g r2 p1).bind fun a3=>
 (at_ p0 v1).bind fun r4=>
 (r12_Has_g r4 p2).bind fun a5=>
 cond (!(conj [a3==a5]))
 (some false)
 ((r17_alike_l1 p0 p1 p2 m) (ar .add .i64 v1 1)))
 (some true)
def r17_alike_g (N:Nat) (p0:List CSet) (p1:Int) (p2:Int):Option Bool:=
 r17_alike_l1 p0 p1 p2 N 0
def r17_Of_s (R:RF) (r:List Int):V:=.t (.slc (R _ (cI .i64) r))
def r17_Of_l2 (N:Nat) (k1:Int→Int→List Int→Option (List Int)) (p0:List CSet) (v1:Int) (v2:Int) (v3:List Int):Nat→Int→Int→Option (List Int)
| 0,_,_=>none
| m+1,v4,v5=>
 (cond (cm .lss v5 v2)
 (some (cm .lss v4 0))
 (some false):Option Bool).bind fun j4=>
 cond (j4)
 ((r17_alike_g N p0 v5 v2).bind fun a6=>
 (cond (a6)
 ((at_ v3 v5).bind fun r7=>
 (at_ v3 v5).bind fun r8=>
 some r8)
 (some v4):Option Int).bind fun j5=>
 (r17_Of_l2 N k1 p0 v1 v2 v3 m) j5 (ar .add .i64 v5 1))
 ((cond (cm .lss v4 0)
 (some (ar .add .i64 v1 1,v1))
 (some (v1,v4)):Option (Int × Int)).bind fun j6=>
 (app (cI .i64) v3 [j6.2]).bind fun l9=>
 k1 j6.1 (ar .add .i64 v2 1) l9)
def r17_Of_l1 (N:Nat) (p0:List CSet):Nat→Int→Int→List Int→Option (List Int)
| 0,_,_,_=>none
| m+1,v1,v2,v3=>
 cond (cm .lss v2 256)
 (r17_Of_l2 N (r17_Of_l1 N p0 m) p0 v1 v2 v3 N (-1) 0)
 (some v3)
def r17_Of_g (N:Nat) (p0:List CSet):Option (List Int):=
 r17_Of_l1 N p0 N 0 0 []
def r18_in_s (R:RF) (r:Bool):V:=fB r
def r18_in_l1 (p0:List Int) (p1:Int):Nat→Int→Option Bool
| 0,_=>none
| m+1,v1=>
 cond (cm .lss v1 (ll (rw _ (cI .i64) p0)))
 ((at_ p0 v1).bind fun r2=>
 cond (cm .eql r2 p1)
 (some true)
 ((r18_in_l1 p0 p1 m) (ar .add .i64 v1 1)))
 (some false)
def r18_in_g (N:Nat) (p0:List Int) (p1:Int):Option Bool:=
 r18_in_l1 p0 p1 N 0
def porterbase_SameInts_s (R:RF) (r:Bool):V:=fB r
def porterbase_SameInts_l1 (p0:List Int) (p1:List Int):Nat→Int→Option Bool
| 0,_=>none
| m+1,v1=>
 cond (cm .lss v1 (ll (rw _ (cI .i64) p0)))
 ((at_ p0 v1).bind fun r2=>
 (at_ p1 v1).bind fun r3=>
 cond (cm .neq r2 r3)
 (some false)
 ((porterbase_SameInts_l1 p0 p1 m) (ar .add .i64 v1 1)))
 (some true)
def porterbase_SameInts_g (N:Nat) (p0:List Int) (p1:List Int):Option Bool:=
 cond (cm .neq (ll (rw _ (cI .i64) p0)) (ll (rw _ (cI .i64) p1)))
 (some false)
 (porterbase_SameInts_l1 p0 p1 N 0)
def r18_find_s (R:RF) (r:Int):V:=fI .i64 r
def r18_find_l1 (N:Nat) (p0:List (List Int)) (p1:List Int):Nat→Int→Option Int
| 0,_=>none
| m+1,v1=>
 cond (cm .lss v1 (ll (rw _ (cLs (cI .i64)) p0)))
 ((at_ p0 v1).bind fun r2=>
 (porterbase_SameInts_g N r2 p1).bind fun a3=>
 cond (a3)
 (some v1)
 ((r18_find_l1 N p0 p1 m) (ar .add .i64 v1 1)))
 (some (-1))
def r18_find_g (N:Nat) (p0:List (List Int)) (p1:List Int):Option Int:=
 r18_find_l1 N p0 p1 N 1
def r18_Of_s (R:RF) (r:GDfa × Int):V:=.tup [.agg [fI .i64 r.1.Start,.t (.slc (R _ cB r.1.Final)),.t (.slc (R _ (cI .i64) r.1.Block)),.t (.slc (R _ (cLs (cI .i64)) r.1.Next))],fI .i64 r.2]
def r18_Of_l5 (N:Nat) (k3:Int→List Bool→List (List Int)→List Int→Option (GDfa × Int)) (p0:GSpots) (p1:Int) (v19:Int) (v21:List (List Int)) (v22:List Int) (v23:Int) (v20:List Bool) (v10:List Int):Nat→Bool→Int→List Int→Option (GDfa × Int)
| 0,_,_,_=>none
| m+1,v25,v26,v27=>
 cond (cm .lss v26 (ll (rw _ (cI .i64) v10)))
 ((at_ v10 v26).bind fun r28=>
 (at_ p0.Sets r28).bind fun r29=>
 (r12_Has_g r29 v23).bind fun a30=>
 (cond (a30)
 ((at_ v10 v26).bind fun r31=>
 (app (cI .i64) v27 [r31]).bind fun l32=>
 cond (v25)
 (cond (v25)
 (cond (v25)
 (cond (v25)
 (cond (v25)
 (cond (v25)
 (cond (v25)
 (cond (v25)
 (some (true,l32))
 (none))
 (none))
 (none))
 (none))
 (none))
 (none))
 (none))
 (cond (v25)
 (none)
 (cond (v25)
 (none)
 (cond (v25)
 (none)
 (cond (v25)
 (none)
 ((at_ v10 v26).bind fun r33=>
 cond (v25)
 (none)
 (cond (v25)
 (none)
 ((r18_in_g N p0.Last r33).bind fun a34=>
 cond (v25)
 (none)
 (some (a34,l32))))))))))
 (some (v25,v27)):Option (Bool ×(List Int))).bind fun j30=>
 (r18_Of_l5 N k3 p0 p1 v19 v21 v22 v23 v20 v10 m) j30.1 (ar .add .i64 v26 1) j30.2)
 ((r18_find_g N v21 v27).bind fun a35=>
 cond (cm .lss a35 0)
 ((app (cLs (cI .i64)) v21 [v27]).bind fun l36=>
 (app cB v20 [v25]).bind fun l37=>
 cond (cm .gtr (ll (rw _ (cLs (cI .i64)) l36)) p1)
 (some ((⟨0,[],[],[]⟩:GDfa),16))
 ((app (cI .i64) v22 [ll (rw _ (cLs (cI .i64)) v21)]).bind fun l38=>
 k3 (ar .add .i64 v19 1) l37 l36 l38))
 (cond (cm .gtr (ll (rw _ (cLs (cI .i64)) v21)) p1)
 (some ((⟨0,[],[],[]⟩:GDfa),16))
 ((app (cI .i64) v22 [a35]).bind fun l39=>
 k3 (ar .add .i64 v19 1) v20 v21 l39)))
def r18_Of_l4 (N:Nat) (k3:Int→List Bool→List (List Int)→List Int→Option (GDfa × Int)) (p0:GSpots) (p1:Int) (a2:List Int) (v19:Int) (v21:List (List Int)) (v22:List Int) (v20:List Bool) (v10:List Int):Nat→Int→Option (GDfa × Int)
| 0,_=>none
| m+1,v23=>
 (at_ a2 v23).bind fun r24=>
 cond (cm .neq r24 v19)
 ((r18_Of_l4 N k3 p0 p1 a2 v19 v21 v22 v20 v10 m) (ar .add .i64 v23 1))
 (r18_Of_l5 N k3 p0 p1 v19 v21 v22 v23 v20 v10 N false 0 [])
def r18_Of_l3 (N:Nat) (k1:Int→List Bool→List (List Int)→List (List Int)→Option (GDfa × Int)) (p0:GSpots) (p1:Int) (a2:List Int) (a3:Int) (v6:Int) (v9:List (List Int)) (v10:List Int):Nat→Int→List Bool→List (List Int)→List Int→Option (GDfa × Int)
| 0,_,_,_,_=>none
| m+1,v19,v20,v21,v22=>
 cond (cm .lss v19 a3)
 (r18_Of_l4 N (r18_Of_l3 N k1 p0 p1 a2 a3 v6 v9 v10 m) p0 p1 a2 v19 v21 v22 v20 v10 N 0)
 ((app (cLs (cI .i64)) v9 [v22]).bind fun l40=>
 k1 (ar .add .i64 v6 1) v20 v21 l40)
def r18_Of_l2 (N:Nat) (k1:Int→List Bool→List (List Int)→List (List Int)→Option (GDfa × Int)) (p0:GSpots) (p1:Int) (a2:List Int) (a3:Int) (v6:Int) (v7:List Bool) (v8:List (List Int)) (v9:List (List Int)):Nat→List Int→Int→Option (GDfa × Int)
| 0,_,_=>none
| m+1,v10,v11=>
 (at_ v8 v6).bind fun r12=>
 (at_ v8 v6).bind fun r13=>
 cond (cm .lss v11 (ll (rw _ (cI .i64) r13)))
 ((at_ v8 v6).bind fun r14=>
 (at_ v8 v6).bind fun r15=>
 (at_ r15 v11).bind fun r16=>
 (at_ p0.Next r16).bind fun r17=>
 (r16_Join_g N v10 r17 (ll (rw _ cSet p0.Sets))).bind fun a18=>
 (r18_Of_l2 N k1 p0 p1 a2 a3 v6 v7 v8 v9 m) a18 (ar .add .i64 v11 1))
 (r18_Of_l3 N k1 p0 p1 a2 a3 v6 v9 v10 N 0 v7 v8 [])
def r18_Of_l1 (N:Nat) (p0:GSpots) (p1:Int) (a2:List Int) (a3:Int):Nat→Int→List Bool→List (List Int)→List (List Int)→Option (GDfa × Int)
| 0,_,_,_,_=>none
| m+1,v6,v7,v8,v9=>
 cond (cm .lss v6 (ll (rw _ (cLs (cI .i64)) v8)))
 ((cond (cm .eql v6 0)
 (some p0.First)
 (some []):Option (List Int)).bind fun j21=>
 r18_Of_l2 N (r18_Of_l1 N p0 p1 a2 a3 m) p0 p1 a2 a3 v6 v7 v8 v9 N j21 0)
 (some ((⟨0,v7,a2,v9⟩:GDfa),0))
def r18_Of_g (N:Nat) (p0:GSpots) (p1:Int):Option (GDfa × Int):=
 (r16_Right_g N p0).bind fun a1=>
 cond (!a1)
 (some ((⟨0,[],[],[]⟩:GDfa),7))
 ((r17_Of_g N p0.Sets).bind fun a2=>
 (r17_Count_g N a2).bind fun a3=>
 (some [[]]).bind fun l4=>
 (some [p0.None]).bind fun l5=>
 r18_Of_l1 N p0 p1 a2 a3 N 0 l5 l4 [])
def porterbase_SameBools_s (R:RF) (r:Bool):V:=fB r
def porterbase_SameBools_l1 (p0:List Bool) (p1:List Bool):Nat→Int→Option Bool
| 0,_=>none
| m+1,v1=>
 cond (cm .lss v1 (ll (rw _ cB p0)))
 ((at_ p0 v1).bind fun r2=>
 (at_ p1 v1).bind fun r3=>
 cond (!(conj [r2==r3]))
 (some false)
 ((porterbase_SameBools_l1 p0 p1 m) (ar .add .i64 v1 1)))
 (some true)
def porterbase_SameBools_g (N:Nat) (p0:List Bool) (p1:List Bool):Option Bool:=
 cond (cm .neq (ll (rw _ cB p0)) (ll (rw _ cB p1)))
 (some false)
 (porterbase_SameBools_l1 p0 p1 N 0)
def r18_SameRows_s (R:RF) (r:Bool):V:=fB r
def r18_SameRows_l1 (N:Nat) (p0:List (List Int)) (p1:List (List Int)):Nat→Int→Option Bool
| 0,_=>none
| m+1,v1=>
 cond (cm .lss v1 (ll (rw _ (cLs (cI .i64)) p0)))
 ((at_ p0 v1).bind fun r2=>
 (at_ p1 v1).bind fun r3=>
 (porterbase_SameInts_g N r2 r3).bind fun a4=>
 cond (!a4)
 (some false)
 ((r18_SameRows_l1 N p0 p1 m) (ar .add .i64 v1 1)))
 (some true)
def r18_SameRows_g (N:Nat) (p0:List (List Int)) (p1:List (List Int)):Option Bool:=
 cond (cm .neq (ll (rw _ (cLs (cI .i64)) p0)) (ll (rw _ (cLs (cI .i64)) p1)))
 (some false)
 (r18_SameRows_l1 N p0 p1 N 0)
def r18_Same_s (R:RF) (r:Bool):V:=fB r
def r18_Same_g (N:Nat) (p0:GDfa) (p1:GDfa):Option Bool:=
 (cond (cm .eql p0.Start p1.Start)
 ((porterbase_SameBools_g N p0.Final p1.Final).bind fun a1=>
 cond (a1)
 ((porterbase_SameInts_g N p0.Block p1.Block).bind fun a2=>
 cond (a2)
 ((r18_SameRows_g N p0.Next p1.Next).bind fun a3=>
 some a3)
 (some false))
 (some false))
 (some false):Option Bool).bind fun j1=>
 some j1
def l18_DfaOf_s (R:RF) (r:Bool):V:=fB r
def l18_DfaOf_g (N:Nat) (p0:GSpots):Option Bool:=
 (l18_Small_g N p0 7).bind fun a1=>
 cond (!a1)
 ((l18_works_g N).bind fun a2=>
 some a2)
 ((dfa_Of_g N p0).bind fun a3=>
 (r18_Of_g N p0 4096).bind fun a4=>
 ((r18_Same_g N a3.1 a4.1).bind fun a5=>
 cond (a5)
 (cond (cm .eql a3.2 a4.2)
 ((l18_works_g N).bind fun a6=>
 some a6)
 (some false))
 (some false):Option Bool).bind fun j1=>
 some j1)
end Gn
end Go.Proofs.YtjhbgkakhaonaaaGreatDoor
namespace Go.Proofs.YtjhbgkakhaonaaaGreatDoor
open Go
open Sh Gn
namespace Dq
theorem rbright_l {b:List Int} (hb:b.length=256):∀(m i:Nat) (v:Int),-1≤v→v≤1000+i→i≤256→256<i+m→r17_Right_l1 b m v i=some (rg (v+1) (b.drop i)):=by
 intro m
 induction m with
 | zero=>intro i v h1 h2 h3;omega
 | succ m ih=>
   intro i v h1 h2 h3 h4
   rw [r17_Right_l1]
   simp only [cm_lss,cond_dec,cm_gtr]
   by_cases c:i<b.length
   · rw [if_pos (by omega),at_in c,List.drop_eq_getElem_cons c,rg]
     have e1:ar .add .i64 v 1=v+1:=ar_add (by omega) (by omega)
     simp only [Option.bind_some,inc1 (show i≤100000000 by omega),e1]
     by_cases g:b[i]<0
     · simp only [g,if_true,Option.bind_some,true_or,_root_.cond_true]
     · by_cases g2:v+1<b[i]
       · simp only [g,g2,if_false,if_true,Option.bind_some,decide_true,or_true,_root_.cond_true]
       · simp only [g,g2,if_false,Option.bind_some,decide_false,or_false,_root_.cond_false]
         by_cases e:b[i]=v+1
         · have g3:v<b[i]:=by omega
           simp only [g3,e,if_true,Option.bind_some]
           rw [if_pos (by omega),Option.bind_some]
           exact ih (i+1) _ (by omega) (by omega) (by omega) (by omega)
         · have g3:¬ v<b[i]:=by omega
           simp only [g3,e,if_false,Option.bind_some]
           exact ih (i+1) _ (by omega) (by omega) (by omega) (by omega)
   · rw [if_neg (by omega),List.drop_of_length_le (by omega),rg]
theorem rbright_p {b:List Int} (hb:b.length≤1000) {N:Nat} (hN:1001≤N):r17_Right_g N b=some (bR b):=by
 unfold r17_Right_g bR
 simp only [cm_neq,ll_eq,cond_not,cond_dec]
 by_cases h:(b.length:Int)=256
 · rw [if_pos h]
   have:=rbright_l (b:=b) (by omega) N 0 (-1) (by omega) (by omega) (by omega) (by omega)
   simp only [h,decide_true,Bool.and_true]
   exact this
 · rw [if_neg h]
   simp only [h,decide_false,Bool.and_false]
theorem rbcount_l {b:List Int} (hb:b.length=256) {N:Nat} (hN:1001≤N) (hr:bR b=true):∀(m i:Nat) (v:Int),-1≤v→v≤1000→i≤256→256<i+m→r17_Count_l1 N b m v i=some (cnt (v+1) (b.drop i)):=by
 intro m
 induction m with
 | zero=>intro i v h1 h2 h3;omega
 | succ m ih=>
   intro i v h1 h2 h3 h4
   rw [r17_Count_l1]
   simp only [cm_lss,ll_eq,cond_dec,cm_gtr,rbright_p (show b.length≤1000 by omega) hN,Option.bind_some,hr]
   by_cases c:i<b.length
   · have hx:=(bR_in hr).2 b[i] (List.getElem_mem c)
     rw [if_pos (by omega),Option.bind_some,_root_.cond_true,at_in c,List.drop_eq_getElem_cons c,cnt]
     simp only [Option.bind_some,inc1 (show i≤100000000 by omega)]
     by_cases g:v<b[i]
     · have e2:max (v+1) (b[i]+1)=b[i]+1:=by omega
       simp only [g,if_true,Option.bind_some,e2]
       exact ih (i+1) _ (by omega) (by omega) (by omega) (by omega)
     · have e2:max (v+1) (b[i]+1)=v+1:=by omega
       simp only [g,if_false,Option.bind_some,e2]
       exact ih (i+1) _ (by omega) (by omega) (by omega) (by omega)
   · rw [if_neg (by omega),Option.bind_some,_root_.cond_false,List.drop_of_length_le (by omega),cnt,ar_add (by omega) (by omega)]
theorem rbcount_p {b:List Int} (hb:b.length≤1000) {N:Nat} (hN:1001≤N):r17_Count_g N b=some (wide b):=by
 unfold r17_Count_g wide
 cases h:bR b with
 | false=>
   rw [if_neg (by simp)]
   obtain ⟨n,rfl⟩:∃n,N=n+1:=⟨N-1,by omega⟩
   rw [r17_Count_l1]
   simp only [cm_lss,ll_eq,cond_dec,rbright_p hb hN,Option.bind_some,h]
   have e0:ar .add .i64 (-1) 1=0:=ar_add (by omega) (by omega)
   split<;>simp only [Option.bind_some,_root_.cond_false,e0]
 | true=>
   rw [if_pos rfl]
   exact rbcount_l (bR_in h).1 hN h N 0 (-1) (by omega) (by omega) (by omega) (by omega)
end Dq
end Go.Proofs.YtjhbgkakhaonaaaGreatDoor
namespace Go.Proofs.YtjhbgkakhaonaaaGreatDoor
open Go
open Sh Gn
namespace Dq
theorem cnt_snoc:∀{l:List Int} {m x:Int},cnt m (l++[x])=max (cnt m l) (x+1)
 | [],m,x=>rfl
 | k::l,m,x=>by rw [List.cons_append,cnt,cnt,cnt_snoc]
theorem Blk.uniq {A B:List Int} (hA:Blk A) (hB:Blk B) (hk:∀(i j:Nat) x y u v,i<j→A[i]?=some x→A[j]?=some y→B[i]?=some u→B[j]?=some v→(x=y↔u=v)):A=B:=by
 have hl:A.length=B.length:=hA.len.trans hB.len.symm
 have key:∀n,n≤A.length→A.take n=B.take n:=by
  intro n
  induction n with
  | zero=>intro _;simp
  | succ n ih=>
    intro hn
    have ih:=ih (by omega)
    have a1:=List.getElem?_eq_getElem (show n<A.length by omega)
    have b1:=List.getElem?_eq_getElem (show n<B.length by omega)
    have hget:∀j,j<n→A[j]?=B[j]?:=fun j hj=>by
     have:=congrArg (fun l:List Int=>l[j]?) ih
     simpa [List.getElem?_take,hj] using this
    have e:A[n]'(by omega)=B[n]'(by omega):=by
     rcases hA.ord n _ a1 with ⟨j,h1,h2⟩ | h1
     · have h3:B[j]?=some (A[n]'(by omega)):=by rw [←hget j h1];exact h2
       exact (hk j n _ _ _ _ h1 h2 a1 h3 b1).1 rfl
     · rcases hB.ord n _ b1 with ⟨j,h3,h4⟩ | h3
       · have h5:A[j]?=some (B[n]'(by omega)):=by rw [hget j h3];exact h4
         exact ((hk j n _ _ _ _ h3 h5 a1 h4 b1).2 rfl).symm
       · rw [h1,h3,ih]
    rw [List.take_add_one,List.take_add_one,ih,a1,b1,e]
 have:=key A.length (Nat.le_refl _)
 rwa [List.take_length,hl,List.take_length] at this
end Dq
end Go.Proofs.YtjhbgkakhaonaaaGreatDoor
namespace Go.Proofs.YtjhbgkakhaonaaaGreatDoor
open Go
open Sh Gn
namespace Dq
theorem rhas_p {S:CSet} {b:Nat} (h:b<256):r12_Has_g S (b:Int)=some (hs S b):=by
 rw [r12_Has_g,if_pos (by omega),Int.toNat_natCast]
 rfl
def alk (l:List CSet) (i j:Nat):Bool:=l.all fun S=>hs S i==hs S j
theorem alike_l {l:List CSet} (hl:l.length≤100000) {a b:Nat} (ha:a<256) (hb:b<256):∀(m i:Nat),i≤l.length→l.length<i+m→r17_alike_l1 l a b m i=some (alk (l.drop i) a b):=by
 intro m
 induction m with
 | zero=>intro i h1 h2;omega
 | succ m ih=>
   intro i h1 h2
   rw [r17_alike_l1]
   simp only [cm_lss,ll_eq,cond_dec]
   by_cases c:i<l.length
   · rw [if_pos (by omega),at_in c,List.drop_eq_getElem_cons c]
     simp only [Option.bind_some,rhas_p ha,rhas_p hb,cond_not,inc1 (show i≤100000000 by omega)]
     have e:conj [hs l[i] a==hs l[i] b]=(hs l[i] a==hs l[i] b):=by simp [conj]
     rw [e,alk,List.all_cons]
     cases hs l[i] a==hs l[i] b with
     | true=>rw [_root_.cond_true,Bool.true_and];exact ih (i+1) (by omega) (by omega)
     | false=>rfl
   · rw [if_neg (by omega),List.drop_of_length_le (by omega)]
     rfl
def frst (l:List CSet) (b:Nat):Nat→Nat→Option Nat
 | 0,_=>none
 | n+1,k=>if alk l k b=true then some k else frst l b n (k+1)
theorem frst_some {l:List CSet} {b:Nat}:∀{n k j:Nat},frst l b n k=some j→k≤j∧j<k+n∧alk l j b=true
 | 0,k,j,h=>by cases h
 | n +1,k,j,h=>by
   rw [frst] at h
   split at h
   · cases h;exact ⟨Nat.le_refl _,by omega,by assumption⟩
   · obtain ⟨h1,h2,h3⟩:=frst_some h
     exact ⟨by omega,by omega,h3⟩
theorem frst_none {l:List CSet} {b:Nat}:∀{n k j:Nat},frst l b n k=none→k≤j→j<k+n→alk l j b=false
 | 0,k,j,h,h1,h2=>by omega
 | n +1,k,j,h,h1,h2=>by
   rw [frst] at h
   split at h
   · cases h
   · rename_i g
     by_cases e:j=k
     · subst e;simpa using g
     · exact frst_none h (by omega) (by omega)
theorem rof_l2 {N:Nat} {k1:Int→Int→List Int→Option (List Int)} {l:List CSet} (hl:l.length≤100000) (hN:l.length<N) {v1:Int} (hv1:0≤v1∧v1≤1000) {b:Nat} (hb:b<256) {P:List Int} (hP:P.length=b) (hnn:∀x∈P,0≤x):∀(m k:Nat),k≤b→b<k+m→
 r17_Of_l2 N k1 l v1 b P m (-1) k=match frst l b (b-k) k with
  | some j=>k1 v1 ((b+1:Nat):Int) (P++[P.getD j 0])
  | none=>k1 (v1+1) ((b+1:Nat):Int) (P++[v1]):=by
 have ex:∀(m:Nat) (x:Int) (k:Int),0≤x→r17_Of_l2 N k1 l v1 b P (m+1) x k=k1 v1 ((b+1:Nat):Int) (P++[x]):=fun m x k hx=>by
  have g:¬ x<0:=by omega
  rw [r17_Of_l2]
  simp only [cm_lss,cond_dec,g,if_false,decide_false]
  have:((if k<(b:Int) then some false else some false:Option Bool))=some false:=by split<;>rfl
  rw [this]
  simp only [Option.bind_some,_root_.cond_false,inc1 (show b≤100000000 by omega)]
  rw [app_eq (by simp;omega)]
  rfl
 intro m
 induction m with
 | zero=>intro k h1 h2;omega
 | succ m ih=>
   intro k h1 h2
   by_cases c:k<b
   · rw [r17_Of_l2]
     have g0:(-1:Int)<0:=by omega
     simp only [cm_lss,cond_dec,g0,if_true,decide_true]
     have ha:=alike_l hl (show k<256 by omega) hb N 0 (by omega) (by omega)
     have ha':r17_alike_g N l (k:Int) (b:Int)=some (alk l k b):=ha
     rw [if_pos (by omega),Option.bind_some,_root_.cond_true,ha',Option.bind_some,show b-k=(b-k-1)+1 by omega,frst]
     cases hk:alk l k b with
     | true=>
       have hpk:=at_in (l:=P) (i:=k) (by omega)
       have hget:P.getD k 0=P[k]'(by omega):=by rw [List.getD_eq_getElem?_getD,List.getElem?_eq_getElem (by omega)];rfl
       rw [_root_.cond_true,hpk]
       simp only [Option.bind_some,if_true]
       cases m with
       | zero=>omega
       | succ m=>rw [ex m _ _ (hnn _ (List.getElem_mem _)),hget]
     | false=>
       rw [_root_.cond_false,Option.bind_some,inc1 (by omega),if_neg (by simp),ih (k+1) (by omega) (by omega),show b-k-1=b-(k+1) by omega]
   · have e:k=b:=by omega
     subst e
     rw [r17_Of_l2]
     have g0:(-1:Int)<0:=by omega
     simp only [cm_lss,cond_dec,g0,if_true,Nat.sub_self,frst]
     rw [if_neg (by omega)]
     simp only [Option.bind_some,_root_.cond_false,inc1 (show k≤100000000 by omega),ar_add (show-9223372036854775808≤v1+1 by omega) (show v1+1≤9223372036854775807 by omega)]
     rw [app_eq (by simp;omega)]
     rfl
def refP (l:List CSet):Nat→List Int
 | 0=>[]
 | b+1=>refP l b++[match frst l b b 0 with
   | some j=>(refP l b).getD j 0
   | none=>cnt 0 (refP l b)]
theorem refP_len (l:List CSet):∀b,(refP l b).length=b
 | 0=>rfl
 | b+1=>by rw [refP,List.length_append,refP_len l b];rfl
theorem refP_nn (l:List CSet):∀b,∀x∈refP l b,0≤x
 | 0,x,h=>by cases h
 | b + 1,x,h=>by
   rw [refP] at h
   rcases List.mem_append.1 h with h | h
   · exact refP_nn l b x h
   · rw [List.mem_singleton] at h
     subst h
     split
     · rename_i j hj
       have:=frst_some hj
       have hlt:j<(refP l b).length:=by rw [refP_len];omega
       rw [List.getD_eq_getElem?_getD,List.getElem?_eq_getElem hlt]
       exact refP_nn l b _ (List.getElem_mem hlt)
     · exact cnt_ge.1
theorem refP_cnt (l:List CSet):∀b,cnt 0 (refP l b)≤b
 | 0=>by simp [refP,cnt]
 | b +1=>by
   have ih:=refP_cnt l b
   rw [refP,cnt_snoc]
   split
   · rename_i j hj
     have:=frst_some hj
     have hlt:j<(refP l b).length:=by rw [refP_len];omega
     have h1:=(cnt_ge (l:=refP l b) (m:=0)).2 _ (List.getElem_mem hlt)
     rw [List.getD_eq_getElem?_getD,List.getElem?_eq_getElem hlt,Option.getD_some]
     omega
   · omega
theorem rof_l1 {l:List CSet} (hl:l.length≤100000) {N:Nat} (hN:300≤N) (hN2:l.length<N):∀(m b:Nat),b≤256→256<b+m→r17_Of_l1 N l m (cnt 0 (refP l b)) b (refP l b)=some (refP l 256):=by
 intro m
 induction m with
 | zero=>intro b h1 h2;omega
 | succ m ih=>
   intro b h1 h2
   rw [r17_Of_l1]
   simp only [cm_lss,cond_dec]
   by_cases c:b<256
   · have hc0:0≤cnt 0 (refP l b):=cnt_ge.1
     have hc1:=refP_cnt l b
     have h:=rof_l2 (k1:=r17_Of_l1 N l m) hl hN2 (v1:=cnt 0 (refP l b)) (by omega) c (refP_len l b) (refP_nn l b) N 0 (by omega) (by omega)
     have h':r17_Of_l2 N (r17_Of_l1 N l m) l (cnt 0 (refP l b)) (b:Int) (refP l b) N (-1) 0=_:=h
     rw [if_pos (by omega),h',Nat.sub_zero]
     have ih:=ih (b+1) (by omega) (by omega)
     rw [refP] at ih
     rw [cnt_snoc] at ih
     split
     · rename_i j hj
       rw [hj] at ih
       simp only at ih
       have:=frst_some hj
       have hlt:j<(refP l b).length:=by rw [refP_len];omega
       have h1:=(cnt_ge (l:=refP l b) (m:=0)).2 _ (List.getElem_mem hlt)
       have e:(refP l b).getD j 0=(refP l b)[j]:=by rw [List.getD_eq_getElem?_getD,List.getElem?_eq_getElem hlt];rfl
       rw [e] at ih ⊢
       rw [show max (cnt 0 (refP l b)) ((refP l b)[j]+1)=cnt 0 (refP l b) by omega] at ih
       exact ih
     · rename_i hj
       rw [hj] at ih
       simp only at ih
       rw [show max (cnt 0 (refP l b)) (cnt 0 (refP l b)+1)=cnt 0 (refP l b)+1 by omega] at ih
       exact ih
   · have e:b=256:=by omega
     subst e
     rw [if_neg (by omega)]
theorem refP_get (l:List CSet) {b c i:Nat} (h:i<b) (hc:b≤c):(refP l c)[i]?=(refP l b)[i]?:=by
 induction c with
 | zero=>omega
 | succ c ih=>
   by_cases e:b=c+1
   · rw [e]
   · rw [refP,List.getElem?_append_left (by rw [refP_len];omega),ih (by omega)]
theorem refP_take (l:List CSet) {b c:Nat} (hc:b≤c):(refP l c).take b=refP l b:=by
 apply List.ext_getElem?
 intro i
 rw [List.getElem?_take]
 split
 · exact refP_get l (by assumption) hc
 · rw [List.getElem?_eq_none (by rw [refP_len];omega)]
theorem refP_at (l:List CSet) {b:Nat} {x:Int} (h:(refP l (b+1))[b]?=some x):(∃j,frst l b b 0=some j∧(refP l b)[j]?=some x)∨(frst l b b 0=none∧x=cnt 0 (refP l b)):=by
 rw [refP,List.getElem?_append_right (by rw [refP_len];exact Nat.le_refl _),refP_len,Nat.sub_self] at h
 simp at h
 split at h
 · rename_i j hj
   have:=frst_some hj
   have hlt:j<(refP l b).length:=by rw [refP_len];omega
   refine .inl ⟨j,hj,?_⟩
   rw [List.getElem?_eq_getElem hlt] at h ⊢
   simp at h
   rw [h]
 · rename_i hj
   exact .inr ⟨hj,h.symm⟩
theorem refP_blk (l:List CSet):Blk (refP l 256):=by
 refine ⟨refP_len l 256,fun i x h=>refP_nn l 256 x (List.mem_of_getElem? h),fun i x h=>?_⟩
 have hi:i<256:=by have:=(List.getElem?_eq_some_iff.1 h).1;rw [refP_len] at this;exact this
 rw [refP_get l (b:=i+1) (by omega) (by omega)] at h
 rcases refP_at l h with ⟨j,hj,hx⟩ | ⟨-,hx⟩
 · have:=frst_some hj
   exact .inl ⟨j,by omega,by rw [refP_get l (b:=i) (by omega) (by omega)];exact hx⟩
 · exact .inr (by rw [refP_take l (by omega)];exact hx)
theorem alk_iff {l:List CSet} {i j:Nat}:alk l i j=true↔∀S∈l,hs S i=hs S j:=by
 simp [alk,List.all_eq_true]
theorem refP_same (l:List CSet):∀(j i:Nat) (x y:Int),i<j→(refP l (j+1))[i]?=some x→(refP l (j+1))[j]?=some y→(x=y↔alk l i j=true):=by
 intro j
 induction j using Nat.strongRecOn with
 | ind j ih=>
   intro i x y hij h1 h2
   rw [refP_get l (b:=j) hij (by omega)] at h1
   rcases refP_at l h2 with ⟨k,hk,hy⟩ | ⟨hk,rfl⟩
   · obtain ⟨-,k1,k2⟩:=frst_some hk
     rw [Nat.zero_add] at k1
     rw [alk_iff] at k2 ⊢
     have main:∀{a b:Nat} {u v:Int},a<b→b<j→(refP l j)[a]?=some u→(refP l j)[b]?=some v→(u=v↔∀S∈l,hs S a=hs S b):=fun {a b u v} hab hbj ha hb=>by
      rw [refP_get l (b:=b+1) (by omega) (by omega)] at ha hb
      rw [ih b hbj a u v hab ha hb,alk_iff]
     rcases Nat.lt_trichotomy i k with h | h | h
     · rw [main h k1 h1 hy]
       constructor
       · intro q S hS;rw [q S hS,k2 S hS]
       · intro q S hS;rw [q S hS,k2 S hS]
     · subst h
       rw [h1] at hy
       cases hy
       exact ⟨fun _=>k2,fun _=>rfl⟩
     · rw [eq_comm,main h hij hy h1]
       constructor
       · intro q S hS;rw [←q S hS,k2 S hS]
       · intro q S hS;rw [k2 S hS,q S hS]
   · have hm:=List.mem_of_getElem? h1
     have:=(cnt_ge (l:=refP l j) (m:=0)).2 x hm
     have hf:=frst_none hk (j:=i) (by omega) (by omega)
     rw [hf]
     simp
     omega
theorem ref_blk (l:List CSet):refP l 256=blkS l:=by
 refine (refP_blk l).uniq (blkS_blk l) fun i j x y u v hij h1 h2 h3 h4=>?_
 have hj:j<256:=by have:=(List.getElem?_eq_some_iff.1 h2).1;rw [refP_len] at this;exact this
 rw [refP_get l (b:=j+1) (by omega) (by omega)] at h1 h2
 rw [refP_same l j i x y hij h1 h2,alk_iff,blkS_same hij hj h3 h4]
theorem rof_p {l:List CSet} (hl:l.length≤100000) {N:Nat} (hN:300≤N) (hN2:l.length<N):r17_Of_g N l=some (blkS l):=by
 rw [←ref_blk]
 exact rof_l1 hl hN hN2 N 0 (by omega) (by omega)
end Dq
end Go.Proofs.YtjhbgkakhaonaaaGreatDoor
