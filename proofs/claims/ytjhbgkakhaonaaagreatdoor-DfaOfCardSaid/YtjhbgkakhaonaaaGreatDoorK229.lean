/- Texts that the proof leans on. -/
import Derived.Test.YtjhbgkakhaonaaaGreatDoorK228
set_option linter.unusedVariables false
set_option linter.unusedSimpArgs false
set_option maxRecDepth 100000
set_option maxHeartbeats 4000000
namespace Go.Proofs.YtjhbgkakhaonaaaGreatDoor
open Go
open Sh Gn
namespace Dq
def hs (S:CSet) (b:Nat):Bool:=S.has b
theorem has_p {S:CSet} {b:Nat} (h:b<256):charset_Has_g S (cv .u8 (b:Int))=some (hs S b):=by
 have e:cv .u8 (b:Int)=(b:Int):=by
  show IntKind.wrap .u8 (b:Int)=_
  unfold IntKind.wrap
  simp [IntKind.bits,IntKind.signed]
  omega
 rw [e,charset_Has_g,if_pos (by omega),Int.toNat_natCast]
 rfl
def keyP (v:List Int) (S:CSet) (b:Nat):Int × Int:=(v.getD b 0,if hs S b=true then 1 else 0)
def keysP (v:List Int) (S:CSet):List (Int × Int):=(List.range 256).map (keyP v S)
theorem keysP_at {v:List Int} {S:CSet} {i:Nat} (h:i<256):(keysP v S).drop i=keyP v S i::(keysP v S).drop (i+1):=by
 have hl:i<(keysP v S).length:=by simp [keysP,h]
 rw [List.drop_eq_getElem_cons hl]
 simp [keysP]
theorem set_pre {pre:List Int} {i:Nat} {n:Int} (hp:pre.length=i) (hi:i<256):(pre++List.replicate (256-i) (0:Int)).set i n=(pre++[n])++List.replicate (256-(i+1)) 0:=by
 rw [List.set_append_right _ _ (by omega),hp,Nat.sub_self,show 256-i=(256-(i+1))+1 by omega,List.replicate_succ]
 simp
theorem pre_at {pre:List Int} {i:Nat} (hp:pre.length=i) (hi:i<256):∃x,at_ (pre++List.replicate (256-i) (0:Int)) (i:Int)=some x:=by
 obtain ⟨y,h,-⟩:=at_int (l:=pre++List.replicate (256-i) (0:Int)) (x:=(i:Int)) (by omega) (by simp;omega)
 exact ⟨y,h⟩
theorem bof_l3 {k1:Int→List Int→Option (List Int)} {v2:Int} {v3:List Int} {S:CSet} {l5:List Int} (h3:v3.length=256) (h5:l5.length=256) (hv:∀x∈v3,0≤x∧x≤1000):∀(m i:Nat) (pre:List Int) (mp:List ((Int × Int)× Int)),pre.length=i→i≤256→256<i+m→
 Okm mp→mp.length≤i→blocks_Of_l3 k1 v2 v3 S l5 m i (pre++List.replicate (256-i) 0) mp=k1 (ar .add .i64 v2 1) (pre++numG mp ((keysP v3 S).drop i)):=by
 intro m
 induction m with
 | zero=>intro i pre mp h1 h2 h4;omega
 | succ m ih=>
   intro i pre mp h1 h2 h4 hok hml
   rw [blocks_Of_l3]
   simp only [cm_lss,ll_eq,cond_dec]
   by_cases c:i<256
   · have hk:v3.getD i 0=v3[i]'(by omega):=by rw [List.getD_eq_getElem?_getD,List.getElem?_eq_getElem (by omega)];rfl
     have hvi:=hv (v3[i]'(by omega)) (List.getElem_mem _)
     obtain ⟨x0,hx0⟩:=pre_at h1 c
     have step:∀(n:Int) (mp':List ((Int × Int)× Int)),Okm mp'→mp'.length≤i+1→((at_ (pre++List.replicate (256-i) (0:Int)) (i:Int)).bind fun _=>(at_ (pre++List.replicate (256-i) (0:Int)) (i:Int)).bind fun _=>
      put (cI .i64) (pre++List.replicate (256-i) (0:Int)) (i:Int) n fun l16=>blocks_Of_l3 k1 v2 v3 S l5 m (ar .add .i64 (i:Int) 1) l16 mp')=k1 (ar .add .i64 v2 1) (pre++(n::numG mp' ((keysP v3 S).drop (i+1)))):=fun n mp' ho hl=>by
      rw [hx0]
      simp only [Option.bind_some,put,Int.toNat_natCast,inc1 (show i≤100000000 by omega)]
      rw [set_pre h1 c,ih (i+1) (pre++[n]) mp' (by simp [h1]) (by omega) (by omega) ho hl,List.append_assoc]
      rfl
     rw [if_pos (by omega),has_p c,Option.bind_some,at_in (l:=v3) (i:=i) (by omega)]
     have hkey:keyP v3 S i=(v3[i]'(by omega),if hs S i=true then 1 else 0):=by rw [keyP,hk]
     have okk:∀z:Int,z=0∨z=1→okB (kP (v3[i]'(by omega),z))=true:=fun z hz=>by simp [okB,kP];omega
     rw [keysP_at c,numG,hkey]
     cases hh:hs S i with
     | true=>
       simp only [_root_.cond_true,Option.bind_some,mgt,okk 1 (.inr rfl),if_true]
       cases hm:mfind mp (v3[i]'(by omega),1) with
       | some n=>
         simp only [Bool.not_true,_root_.cond_false,Option.bind_some]
         exact step n mp hok (by omega)
       | none=>
         simp only [Bool.not_false,_root_.cond_true,Option.bind_some,mpt,okk 1 (.inr rfl),if_true]
         rw [mput_new hm]
         exact step mp.length _ (hok.add hm) (by simp;omega)
     | false=>
       simp only [_root_.cond_false,Option.bind_some,mgt,okk 0 (.inl rfl),if_true,Bool.false_eq_true,if_false]
       cases hm:mfind mp (v3[i]'(by omega),0) with
       | some n=>
         simp only [Bool.not_true,_root_.cond_false,Option.bind_some]
         exact step n mp hok (by omega)
       | none=>
         simp only [Bool.not_false,_root_.cond_true,Option.bind_some,mpt,okk 0 (.inl rfl),if_true]
         rw [mput_new hm]
         exact step mp.length _ (hok.add hm) (by simp;omega)
   · have e:i=256:=by omega
     subst e
     rw [if_neg (by omega),List.drop_of_length_le (by simp [keysP])]
     simp [numG]
def blkP:List Int→List CSet→List Int
 | v,[]=>v
 | v,S::l=>blkP (numG [] (keysP v S)) l
theorem keysP_get {v:List Int} {S:CSet} {i:Nat} (h:i<256):(keysP v S)[i]?=some (keyP v S i):=by
 simp [keysP,h]
theorem numG_blk (v:List Int) (S:CSet):Blk (numG [] (keysP v S)):=by
 refine ⟨by rw [numG_len];simp [keysP],fun i x h=>numG_0 okm_nil h,fun i x h=>?_⟩
 rcases numG_D okm_nil h with h1 | h1 | h1
 · have:=numG_0 okm_nil h
   simp at h1
   omega
 · exact .inl h1
 · exact .inr h1
theorem Blk.small {v:List Int} (h:Blk v):∀x∈v,0≤x∧x≤1000:=fun x hx=>by
 have:=(bR_in h.rgt).2 x hx
 omega
theorem blk0:Blk (List.replicate 256 0):=by
 refine ⟨by simp,fun i x h=>?_,fun i x h=>?_⟩
 · rw [List.getElem?_replicate] at h
   split at h<;>cases h
   omega
 · rw [List.getElem?_replicate] at h
   split at h<;>cases h
   cases i with
   | zero=>exact .inr (by simp [cnt])
   | succ i=>exact .inl ⟨0,by omega,by simp⟩
theorem blkP_blk:∀{l:List CSet} {v:List Int},Blk v→Blk (blkP v l)
 | [],_,h=>h
 | S::l,v,_=>blkP_blk (l:=l) (numG_blk v S)
theorem blkP_same:∀{l:List CSet} {v:List Int} {i j:Nat} {x y a b:Int},Blk v→i<j→j<256→v[i]?=some a→v[j]?=some b→(blkP v l)[i]?=some x→(blkP v l)[j]?=some y→
 (x=y↔a=b∧∀S∈l,hs S i=hs S j)
 | [],v,i,j,x,y,a,b,_,_,_,h1,h2,h3,h4=>by
   simp only [blkP] at h3 h4
   rw [h1] at h3
   rw [h2] at h4
   cases h3
   cases h4
   simp
 | S::l,v,i,j,x,y,a,b,hb,hij,hj,h1,h2,h3,h4=>by
   have nb:=numG_blk v S
   have gi:=List.getElem?_eq_getElem (show i<(numG [] (keysP v S)).length by rw [nb.len];omega)
   have gj:=List.getElem?_eq_getElem (show j<(numG [] (keysP v S)).length by rw [nb.len];omega)
   rw [blkP_same (l:=l) nb hij hj gi gj h3 h4,numG_B okm_nil hij (keysP_get (by omega)) (keysP_get hj) gi gj]
   have ea:keyP v S i=(a,if hs S i=true then 1 else 0):=by rw [keyP,List.getD_eq_getElem?_getD,h1];rfl
   have eb:keyP v S j=(b,if hs S j=true then 1 else 0):=by rw [keyP,List.getD_eq_getElem?_getD,h2];rfl
   rw [ea,eb,Prod.mk.injEq]
   have e:((if hs S i=true then (1:Int) else 0)=if hs S j=true then 1 else 0)↔hs S i=hs S j:=by
    cases hs S i<;>cases hs S j<;>simp
   rw [e]
   simp only [List.mem_cons,forall_eq_or_imp]
   constructor
   · rintro ⟨⟨q1,q2⟩,q3⟩;exact ⟨q1,q2,q3⟩
   · rintro ⟨q1,q2,q3⟩;exact ⟨⟨q1,q2⟩,q3⟩
def blkS (l:List CSet):List Int:=blkP (List.replicate 256 0) l
theorem blkS_blk (l:List CSet):Blk (blkS l):=blkP_blk blk0
theorem blkS_same {l:List CSet} {i j:Nat} {x y:Int} (hij:i<j) (hj:j<256) (h3:(blkS l)[i]?=some x) (h4:(blkS l)[j]?=some y):(x=y↔∀S∈l,hs S i=hs S j):=by
 rw [blkP_same blk0 hij hj (a:=0) (b:=0) (by rw [List.getElem?_replicate,if_pos (by omega)]) (by rw [List.getElem?_replicate,if_pos (by omega)]) h3 h4]
 simp
theorem bof_l1 {p0:List CSet} (hl:p0.length≤100000) {N:Nat} (hN:300≤N):∀(m j:Nat) (v:List Int),Blk v→j≤p0.length→p0.length<j+m→blocks_Of_l1 N p0 m j v=some (blkP v (p0.drop j)):=by
 intro m
 induction m with
 | zero=>intro j v h1 h2 h3;omega
 | succ m ih=>
   intro j v hv h2 h3
   rw [blocks_Of_l1]
   simp only [cm_lss,ll_eq,cond_dec]
   by_cases c:j<p0.length
   · rw [if_pos (by omega),at_in c,List.drop_eq_getElem_cons c,blkP]
     have hz:zro (cI .i64) (0:Int) 256 256=some (List.replicate 256 0):=by simp [zro]
     simp only [Option.bind_some,hz]
     have h:=bof_l3 (k1:=blocks_Of_l1 N p0 m) (v2:=(j:Int)) (S:=p0[j]) (l5:=List.replicate 256 0) hv.len (by simp) hv.small N 0 [] [] rfl (by omega) (by omega) okm_nil (by simp)
     have h':blocks_Of_l3 (blocks_Of_l1 N p0 m) (j:Int) v p0[j] (List.replicate 256 0) N 0 (List.replicate 256 0) []=_:=h
     rw [h',inc1 (by omega),List.nil_append,List.drop_zero]
     exact ih (j+1) _ (numG_blk _ _) (by omega) (by omega)
   · rw [if_neg (by omega),List.drop_of_length_le (by omega)]
     rfl
theorem bof_p {p0:List CSet} (hl:p0.length≤100000) {N:Nat} (hN:300≤N) (hN2:p0.length<N):blocks_Of_g N p0=some (blkS p0):=by
 have hz:zro (cI .i64) (0:Int) 256 256=some (List.replicate 256 0):=by simp [zro]
 unfold blocks_Of_g
 rw [hz,Option.bind_some]
 exact bof_l1 hl hN N 0 _ blk0 (by omega) (by omega)
end Dq
end Go.Proofs.YtjhbgkakhaonaaaGreatDoor
namespace Go.Proofs.YtjhbgkakhaonaaaGreatDoor
open Go
open Sh Gn
namespace Pl
def rs (many:Int):Int→List Int→Bool
 | _,[]=>true
 | last,x::l=>if x≤last∨many≤x then false else rs many x l
variable {p:GSpots}
end Pl
end Go.Proofs.YtjhbgkakhaonaaaGreatDoor
namespace Go.Proofs.YtjhbgkakhaonaaaGreatDoor
open Go
open Sh Gn
namespace Pl
def nextOf (p:GSpots) (k:Int):List Int:=p.Next.getD k.toNat []
variable {p:GSpots}
end Pl
end Go.Proofs.YtjhbgkakhaonaaaGreatDoor
namespace Go.Proofs.YtjhbgkakhaonaaaGreatDoor
open Go
open Sh Gn
open Pl (nextOf rs)
namespace Dq
def hb (p:GSpots) (b:Nat) (x:Int):Bool:=match p.Sets[x.toNat]? with
 | some S=>hs S b
 | none=>false
def may (p:GSpots) (n:Nat) (x:List Int):List Int:=(if n=0 then p.First else [])++x.flatMap (nextOf p)
variable {p:GSpots}
end Dq
end Go.Proofs.YtjhbgkakhaonaaaGreatDoor
namespace Go.Proofs.YtjhbgkakhaonaaaGreatDoor
open Go
open Sh Gn
open Pl (nextOf rs)
namespace Dq
variable {p:GSpots}
theorem zro_eq {α:Type} {c:α→List Ab.T} {z:α} {n:Nat} (h:n≤1000000):zro c z (n:Int) (n:Int)=some (List.replicate n z):=by
 unfold zro
 rw [if_pos ⟨rfl,by omega,by omega⟩,Int.toNat_natCast]
end Dq
end Go.Proofs.YtjhbgkakhaonaaaGreatDoor
namespace Go.Proofs.YtjhbgkakhaonaaaGreatDoor
open Go
open Sh Gn
open Pl (nextOf rs)
namespace Dq
variable {p:GSpots}
theorem wide_pos {B:List Int} (hB:bR B=true):1≤wide B:=by
 have hl:=(bR_in hB).1
 have:=(bR_in hB).2 B[0] (List.getElem_mem (by omega))
 omega
end Dq
end Go.Proofs.YtjhbgkakhaonaaaGreatDoor
namespace Go.Proofs.YtjhbgkakhaonaaaGreatDoor
open Go Go.RowKit
open Ab Sh
namespace Gn
theorem l18_Great_w {N:Nat} {p0:GDfa} {r:Bool} (h:l18_Great_g N p0=some r):FunS Tryz.prog 7 [.agg [fI .i64 p0.Start,.t (.slc (rw _ cB p0.Final)),.t (.slc (rw _ (cI .i64) p0.Block)),.t (.slc (rw _ (cLs (cI .i64)) p0.Next))]] (l18_Great_s rw) r:=by
 refine fun_w lay_ok Tryz.call7 Tryz.func7 rfl ?_
 intro A W E Q R hE hR hf hQ;rcases W with ⟨ar,cm,conj,cv,sl,sc,ct,sa,ss,ll,_,_,_,_,mi,mx,_,_,_,_,_⟩
 rw [←hR]
 unfold l18_Great_g at h
 rw [q_cm hE,q_ll hE,←hR] at h
 cbv
 refine L_rgJ hE lay_ok h 1 (fun j1:Bool=>[(19,fB j1)]) (fun j1=>[]) (fun j1 h=>?_) (fun j1 h=>?_)<;>cbv
 · refine L_if hE h (fun h=>?_) (fun h=>?_)<;>cbv
   · cases h;(cbv;(try simp only [e_rnil hR]);repeat' (first | exact trivial | exact rfl | exact Or.inr trivial | apply And.intro))
   refine L_if hE h (fun h=>?_) (fun h=>?_)<;>cbv
   · cases h;(cbv;(try simp only [e_rnil hR]);repeat' (first | exact trivial | exact rfl | exact Or.inr trivial | apply And.intro))
   cases h;(cbv;(try simp only [e_rnil hR]);repeat' (first | exact trivial | exact rfl | exact Or.inr trivial | apply And.intro))
 refine L_if hE h (fun h=>?_) (fun h=>?_)<;>cbv
 · exact And.left (hQ _ _ _ rfl rfl (by cases h;subst hR;rfl))
 refine L_for hE lay_ok 1 (fun g:Int × Nat=>[(2,fB false),(3,fI .i64 g.1)]) (fun g=>[]) (fun g=>l18_Great_l1 p0 g.2 g.1=some r) (fun g=>g.2) (_,N) h ?_ ?_
 · (cbv;(try simp only [e_rnil hR]);repeat' (first | exact trivial | exact rfl | exact Or.inr trivial | apply And.intro))
 rintro ⟨v1,m1⟩ h Q1 hN1 hT1 hX1
 have h:l18_Great_l1 p0 m1 v1=some r:=h
 cases m1 with
 | zero=>exact nomatch (show (none:Option _)=some _ from h)
 | succ m1=>
 rw [l18_Great_l1] at h
 rw [q_ar hE,q_cm hE,q_ll hE,←hR] at h
 cbv
 refine L_if hE h (fun h=>?_) (fun h=>?_)<;>cbv
 · refine L_rowL hE hR h fun r2 h=>?_;cbv
   refine L_if hE h (fun h=>?_) (fun h=>?_)<;>cbv
   · refine hT1 _ ?_
     exact And.left (hQ _ _ _ rfl rfl (by cases h;subst hR;rfl))
   refine hN1 _ (_,m1) [] h (Nat.lt_succ_self _) trivial ?_;(cbv;(try simp only [e_rnil hR]);repeat' (first | exact trivial | exact rfl | exact Or.inr trivial | apply And.intro))
 refine hX1 _ _ ?_;cbv
 exact And.left (hQ _ _ _ rfl rfl (by cases h;subst hR;rfl))
theorem blocks_Right_w {N:Nat} {p0:List Int} {r:Bool} (h:blocks_Right_g N p0=some r):FunS Tryz.prog 57 [.t (.slc (rw _ (cI .i64) p0))] (blocks_Right_s rw) r:=by
 refine fun_w lay_ok Tryz.call57 Tryz.func57 rfl ?_
 intro A W E Q R hE hR hf hQ;rcases W with ⟨ar,cm,conj,cv,sl,sc,ct,sa,ss,ll,_,_,_,_,mi,mx,_,_,_,_,_⟩
 rw [←hR]
 unfold blocks_Right_g at h
 skip
 cbv
 refine L_for hE lay_ok 0 (fun g:Int × Int × Nat=>[(2,fB false),(3,fI .i64 g.1),(8,fI .i64 g.2.1)]) (fun g=>[]) (fun g=>blocks_Right_l1 p0 g.2.2 g.1 g.2.1=some r) (fun g=>g.2.2) (_,_,N) h ?_ ?_
 · (cbv;(try simp only [e_rnil hR]);repeat' (first | exact trivial | exact rfl | exact Or.inr trivial | apply And.intro))
 rintro ⟨v1,v2,m1⟩ h Q1 hN1 hT1 hX1
 have h:blocks_Right_l1 p0 m1 v1 v2=some r:=h
 cases m1 with
 | zero=>exact nomatch (show (none:Option _)=some _ from h)
 | succ m1=>
 rw [blocks_Right_l1] at h
 rw [q_ar hE,q_cm hE,q_ll hE,←hR] at h
 cbv
 refine L_if hE h (fun h=>?_) (fun h=>?_)<;>cbv
 · refine L_row hE hR h fun r3 h=>?_;cbv
   refine L_rgJ hE lay_ok h 0 (fun j3:Bool=>[(18,fB j3)]) (fun j3=>[]) (fun j3 h=>?_) (fun j3 h=>?_)<;>cbv
   · refine L_if hE h (fun h=>?_) (fun h=>?_)<;>cbv
     · cases h;(cbv;(try simp only [e_rnil hR]);repeat' (first | exact trivial | exact rfl | exact Or.inr trivial | apply And.intro))
     cases h;(cbv;(try simp only [e_rnil hR]);repeat' (first | exact trivial | exact rfl | exact Or.inr trivial | apply And.intro))
   refine L_if hE h (fun h=>?_) (fun h=>?_)<;>cbv
   · refine hT1 _ ?_
     exact And.left (hQ _ _ _ rfl rfl (by cases h;subst hR;rfl))
   refine L_cdJ hE lay_ok h 0 (fun j4:Int=>[(3,fI .i64 j4)]) (fun j4=>[]) (fun j4 h=>?_) (fun j4 h=>?_)<;>cbv
   · refine L_if hE h (fun h=>?_) (fun h=>?_)<;>cbv
     · cases h;(cbv;(try simp only [e_rnil hR]);repeat' (first | exact trivial | exact rfl | exact Or.inr trivial | apply And.intro))
     cases h;(cbv;(try simp only [e_rnil hR]);repeat' (first | exact trivial | exact rfl | exact Or.inr trivial | apply And.intro))
   refine hN1 _ (_,_,m1) [] h (Nat.lt_succ_self _) trivial ?_;(cbv;(try simp only [e_rnil hR]);repeat' (first | exact trivial | exact rfl | exact Or.inr trivial | apply And.intro))
 refine hX1 _ _ ?_;cbv
 exact And.left (hQ _ _ _ rfl rfl (by cases h;subst hR;rfl))
theorem blocks_Count_w {N:Nat} {p0:List Int} {r:Int} (h:blocks_Count_g N p0=some r):FunS Tryz.prog 25 [.t (.slc (rw _ (cI .i64) p0))] (blocks_Count_s rw) r:=by
 refine fun_w lay_ok Tryz.call25 Tryz.func25 rfl ?_
 intro A W E Q R hE hR hf hQ;rcases W with ⟨ar,cm,conj,cv,sl,sc,ct,sa,ss,ll,_,_,_,_,mi,mx,_,_,_,_,_⟩
 rw [←hR]
 unfold blocks_Count_g at h
 skip
 cbv
 refine L_call hE hR h (fun _ e=>blocks_Right_w e) (by subst hR;rfl) rfl fun a1 h=>?_;cbv
 refine L_if hE h (fun h=>?_) (fun h=>?_)<;>cbv
 · exact And.left (hQ _ _ _ rfl rfl (by cases h;subst hR;rfl))
 refine L_for hE lay_ok 0 (fun g:Int × Int × Nat=>[(3,fI .i64 g.1),(11,fI .i64 g.2.1)]) (fun g=>[]) (fun g=>blocks_Count_l1 p0 g.2.2 g.1 g.2.1=some r) (fun g=>g.2.2) (_,_,N) h ?_ ?_
 · (cbv;(try simp only [e_rnil hR]);repeat' (first | exact trivial | exact rfl | exact Or.inr trivial | apply And.intro))
 rintro ⟨v2,v3,m1⟩ h Q1 hN1 hT1 hX1
 have h:blocks_Count_l1 p0 m1 v2 v3=some r:=h
 cases m1 with
 | zero=>exact nomatch (show (none:Option _)=some _ from h)
 | succ m1=>
 rw [blocks_Count_l1] at h
 rw [q_ar hE,q_cm hE,q_ll hE,q_mx hE,←hR] at h
 cbv
 refine L_if hE h (fun h=>?_) (fun h=>?_)<;>cbv
 · refine L_row hE hR h fun r4 h=>?_;cbv
   refine hN1 _ (_,_,m1) [] h (Nat.lt_succ_self _) trivial ?_;(cbv;(try simp only [e_rnil hR]);repeat' (first | exact trivial | exact rfl | exact Or.inr trivial | apply And.intro))
 refine hX1 _ _ ?_;cbv
 exact And.left (hQ _ _ _ rfl rfl (by cases h;subst hR;rfl))
theorem dfa_Right_w {N:Nat} {p0:GDfa} {r:Bool} (h:dfa_Right_g N p0=some r):FunS Tryz.prog 9 [.agg [fI .i64 p0.Start,.t (.slc (rw _ cB p0.Final)),.t (.slc (rw _ (cI .i64) p0.Block)),.t (.slc (rw _ (cLs (cI .i64)) p0.Next))]] (dfa_Right_s rw) r:=by
 refine fun_w lay_ok Tryz.call9 Tryz.func9 rfl ?_
 intro A W E Q R hE hR hf hQ;rcases W with ⟨ar,cm,conj,cv,sl,sc,ct,sa,ss,ll,_,_,_,_,mi,mx,_,_,_,_,_⟩
 rw [←hR]
 unfold dfa_Right_g at h
 rw [q_cm hE,q_ll hE,←hR] at h
 cbv
 refine L_rgJ hE lay_ok h 2 (fun j1:Bool=>[(33,fB j1)]) (fun j1=>[]) (fun j1 h=>?_) (fun j1 h=>?_)<;>cbv
 · refine L_if hE h (fun h=>?_) (fun h=>?_)<;>cbv
   · cases h;(cbv;(try simp only [e_rnil hR]);repeat' (first | exact trivial | exact rfl | exact Or.inr trivial | apply And.intro))
   refine L_if hE h (fun h=>?_) (fun h=>?_)<;>cbv
   · cases h;(cbv;(try simp only [e_rnil hR]);repeat' (first | exact trivial | exact rfl | exact Or.inr trivial | apply And.intro))
   refine L_if hE h (fun h=>?_) (fun h=>?_)<;>cbv
   · cases h;(cbv;(try simp only [e_rnil hR]);repeat' (first | exact trivial | exact rfl | exact Or.inr trivial | apply And.intro))
   refine L_if hE h (fun h=>?_) (fun h=>?_)<;>cbv
   · cases h;(cbv;(try simp only [e_rnil hR]);repeat' (first | exact trivial | exact rfl | exact Or.inr trivial | apply And.intro))
   cases h;(cbv;(try simp only [e_rnil hR]);repeat' (first | exact trivial | exact rfl | exact Or.inr trivial | apply And.intro))
 refine L_if hE h (fun h=>?_) (fun h=>?_)<;>cbv
 · exact And.left (hQ _ _ _ rfl rfl (by cases h;subst hR;rfl))
 refine L_call hE hR h (fun _ e=>blocks_Count_w e) (by subst hR;rfl) rfl fun a1 h=>?_;cbv
 refine L_for hE lay_ok 2 (fun g:Int × Nat=>[(2,fB false),(40,fI .i64 g.1)]) (fun g=>[]) (fun g=>dfa_Right_l1 N p0 a1 g.2 g.1=some r) (fun g=>g.2) (_,N) h ?_ ?_
 · (cbv;(try simp only [e_rnil hR]);repeat' (first | exact trivial | exact rfl | exact Or.inr trivial | apply And.intro))
 rintro ⟨v2,m1⟩ h Q1 hN1 hT1 hX1
 have h:dfa_Right_l1 N p0 a1 m1 v2=some r:=h
 cases m1 with
 | zero=>exact nomatch (show (none:Option _)=some _ from h)
 | succ m1=>
 rw [dfa_Right_l1] at h
 rw [q_ar hE,q_cm hE,q_ll hE,←hR] at h
 cbv
 refine L_if hE h (fun h=>?_) (fun h=>?_)<;>cbv
 · refine L_rowL hE hR h fun r3 h=>?_;cbv
   refine L_rgJ hE lay_ok h 2 (fun j7:Bool=>[(52,fB j7)]) (fun j7=>[]) (fun j7 h=>?_) (fun j7 h=>?_)<;>cbv
   · refine L_if hE h (fun h=>?_) (fun h=>?_)<;>cbv
     · cases h;(cbv;(try simp only [e_rnil hR]);repeat' (first | exact trivial | exact rfl | exact Or.inr trivial | apply And.intro))
     refine L_keep hE lay_ok Tryz.call26 Tryz.func26 rfl ?_
     intro A2 E2 Q2 hE2 hf2 hQ2;cbv
     refine L_keep hE2 lay_ok Tryz.call58 Tryz.func58 rfl ?_
     intro A3 E3 Q3 hE3 hf3 hQ3;cbv
     refine L_for hE3 lay_ok 2 (fun g:Int × Nat=>[(4,fI .i64 0),(8,fI .i64 g.1)]) (fun g=>[]) (fun g=>dfa_Right_l4 p0 r3 g.2 g.1=some j7) (fun g=>g.2) (_,N) h ?_ ?_
     · (cbv;(try simp only [e_rnil hR]);repeat' (first | exact trivial | exact rfl | exact Or.inr trivial | apply And.intro))
     rintro ⟨v4,m4⟩ h Q4 hN4 hT4 hX4
     have h:dfa_Right_l4 p0 r3 m4 v4=some j7:=h
     cases m4 with
     | zero=>exact nomatch (show (none:Option _)=some _ from h)
     | succ m4=>
     rw [dfa_Right_l4] at h
     rw [q_ar hE,q_cm hE,q_ll hE,←hR] at h
     cbv
     refine L_if hE3 h (fun h=>?_) (fun h=>?_)<;>cbv
     · refine L_row hE3 hR h fun r5 h=>?_;cbv
       refine L_keep hE3 lay_ok Tryz.call27 Tryz.func27 rfl ?_
       intro A5 E5 Q5 hE5 hf5 hQ5;cbv
       refine L_rgJ hE5 lay_ok h 2 (fun j6:Bool=>[(3,fB j6)]) (fun j6=>[]) (fun j6 h=>?_) (fun j6 h=>?_)<;>cbv
       · refine L_if hE5 h (fun h=>?_) (fun h=>?_)<;>cbv
         · cases h;(cbv;(try simp only [e_rnil hR]);repeat' (first | exact trivial | exact rfl | exact Or.inr trivial | apply And.intro))
         cases h;(cbv;(try simp only [e_rnil hR]);repeat' (first | exact trivial | exact rfl | exact Or.inr trivial | apply And.intro))
       refine And.left (hQ5 _ _ rfl ?_);cbv
       refine L_if hE3 h (fun h=>?_) (fun h=>?_)<;>cbv
       · refine hT4 _ ?_
         refine And.left (hQ3 _ _ rfl ?_);cbv
         refine And.left (hQ2 _ _ rfl ?_);cbv
         cases h;(cbv;(try simp only [e_rnil hR]);repeat' (first | exact trivial | exact rfl | exact Or.inr trivial | apply And.intro))
       refine hN4 _ (_,m4) [] h (Nat.lt_succ_self _) trivial ?_;(cbv;(try simp only [e_rnil hR]);repeat' (first | exact trivial | exact rfl | exact Or.inr trivial | apply And.intro))
     refine hX4 _ _ ?_;cbv
     refine And.left (hQ3 _ _ rfl ?_);cbv
     refine And.left (hQ2 _ _ rfl ?_);cbv
     cases h;(cbv;(try simp only [e_rnil hR]);repeat' (first | exact trivial | exact rfl | exact Or.inr trivial | apply And.intro))
   refine L_if hE h (fun h=>?_) (fun h=>?_)<;>cbv
   · refine hT1 _ ?_
     exact And.left (hQ _ _ _ rfl rfl (by cases h;subst hR;rfl))
   refine hN1 _ (_,m1) [] h (Nat.lt_succ_self _) trivial ?_;(cbv;(try simp only [e_rnil hR]);repeat' (first | exact trivial | exact rfl | exact Or.inr trivial | apply And.intro))
 refine hX1 _ _ ?_;cbv
 exact And.left (hQ _ _ _ rfl rfl (by cases h;subst hR;rfl))
end Gn
end Go.Proofs.YtjhbgkakhaonaaaGreatDoor
namespace Go.Proofs.YtjhbgkakhaonaaaGreatDoor
open Go Go.RowKit
open Ab Sh
namespace Gn
theorem dfa_State_w {N:Nat} {p0:GDfa} {p1:ByteArray} {r:Int} (h:dfa_State_g N p0 p1=some r):FunS Tryz.prog 11 [.agg [fI .i64 p0.Start,.t (.slc (rw _ cB p0.Final)),.t (.slc (rw _ (cI .i64) p0.Block)),.t (.slc (rw _ (cLs (cI .i64)) p0.Next))],fS p1] (dfa_State_s rw) r:=by
 refine fun_w lay_ok Tryz.call11 Tryz.func11 rfl ?_
 intro A W E Q R hE hR hf hQ;rcases W with ⟨ar,cm,conj,cv,sl,sc,ct,sa,ss,ll,_,_,_,_,mi,mx,_,_,_,_,_⟩
 rw [←hR]
 unfold dfa_State_g at h
 skip
 cbv
 refine L_call hE hR h (fun _ e=>dfa_Right_w e) (by subst hR;rfl) rfl fun a1 h=>?_;cbv
 refine L_if hE h (fun h=>?_) (fun h=>?_)<;>cbv
 · exact And.left (hQ _ _ _ rfl rfl (by cases h;subst hR;rfl))
 refine L_for hE lay_ok 1 (fun g:Int × Int × Nat=>[(5,fI .i64 g.1),(14,fI .i64 g.2.1)]) (fun g=>[]) (fun g=>dfa_State_l1 p0 p1 g.2.2 g.1 g.2.1=some r) (fun g=>g.2.2) (_,_,N) h ?_ ?_
 · (cbv;(try simp only [e_rnil hR]);repeat' (first | exact trivial | exact rfl | exact Or.inr trivial | apply And.intro))
 rintro ⟨v2,v3,m1⟩ h Q1 hN1 hT1 hX1
 have h:dfa_State_l1 p0 p1 m1 v2 v3=some r:=h
 cases m1 with
 | zero=>exact nomatch (show (none:Option _)=some _ from h)
 | succ m1=>
 rw [dfa_State_l1] at h
 rw [q_ar hE,q_cm hE,q_sl hE,q_sa hE] at h
 cbv
 refine L_if hE h (fun h=>?_) (fun h=>?_)<;>cbv
 · refine L_whole hE lay_ok (by kernel_rfl) (by kernel_rfl) ?_;cbv
   refine L_rowL hE hR h fun r4 h=>?_;cbv
   refine L_sin hE h fun h=>?_
   refine L_row hE hR h fun r5 h=>?_;cbv
   refine L_row hE hR h fun r6 h=>?_;cbv
   refine hN1 _ (_,_,m1) [] h (Nat.lt_succ_self _) trivial ?_;(cbv;(try simp only [e_rnil hR]);repeat' (first | exact trivial | exact rfl | exact Or.inr trivial | apply And.intro))
 refine hX1 _ _ ?_;cbv
 exact And.left (hQ _ _ _ rfl rfl (by cases h;subst hR;rfl))
theorem dfa_Run_w {N:Nat} {p0:GDfa} {p1:ByteArray} {r:Bool} (h:dfa_Run_g N p0 p1=some r):FunS Tryz.prog 13 [.agg [fI .i64 p0.Start,.t (.slc (rw _ cB p0.Final)),.t (.slc (rw _ (cI .i64) p0.Block)),.t (.slc (rw _ (cLs (cI .i64)) p0.Next))],fS p1] (dfa_Run_s rw) r:=by
 refine fun_w lay_ok Tryz.call13 Tryz.func13 rfl ?_
 intro A W E Q R hE hR hf hQ;rcases W with ⟨ar,cm,conj,cv,sl,sc,ct,sa,ss,ll,_,_,_,_,mi,mx,_,_,_,_,_⟩
 rw [←hR]
 unfold dfa_Run_g at h
 rw [q_cm hE] at h
 cbv
 refine L_call hE hR h (fun _ e=>dfa_State_w e) (by subst hR;rfl) rfl fun a1 h=>?_;cbv
 refine L_rgJ hE lay_ok h 1 (fun j1:Bool=>[(4,fB j1)]) (fun j1=>[]) (fun j1 h=>?_) (fun j1 h=>?_)<;>cbv
 · refine L_if hE h (fun h=>?_) (fun h=>?_)<;>cbv
   · refine L_row hE hR h fun r2 h=>?_;cbv
     cases h;(cbv;(try simp only [e_rnil hR]);repeat' (first | exact trivial | exact rfl | exact Or.inr trivial | apply And.intro))
   cases h;(cbv;(try simp only [e_rnil hR]);repeat' (first | exact trivial | exact rfl | exact Or.inr trivial | apply And.intro))
 exact And.left (hQ _ _ _ rfl rfl (by cases h;subst hR;rfl))
theorem spots_rising_w {N:Nat} {p0:List Int} {p1:Int} {r:Bool} (h:spots_rising_g N p0 p1=some r):FunS Tryz.prog 60 [.t (.slc (rw _ (cI .i64) p0)),fI .i64 p1] (spots_rising_s rw) r:=by
 refine fun_w lay_ok Tryz.call60 Tryz.func60 rfl ?_
 intro A W E Q R hE hR hf hQ;rcases W with ⟨ar,cm,conj,cv,sl,sc,ct,sa,ss,ll,_,_,_,_,mi,mx,_,_,_,_,_⟩
 rw [←hR]
 unfold spots_rising_g at h
 skip
 cbv
 refine L_for hE lay_ok 0 (fun g:Int × Int × Nat=>[(4,fB false),(5,fI .i64 g.1),(10,fI .i64 g.2.1)]) (fun g=>[]) (fun g=>spots_rising_l1 p0 p1 g.2.2 g.1 g.2.1=some r) (fun g=>g.2.2) (_,_,N) h ?_ ?_
 · (cbv;(try simp only [e_rnil hR]);repeat' (first | exact trivial | exact rfl | exact Or.inr trivial | apply And.intro))
 rintro ⟨v1,v2,m1⟩ h Q1 hN1 hT1 hX1
 have h:spots_rising_l1 p0 p1 m1 v1 v2=some r:=h
 cases m1 with
 | zero=>exact nomatch (show (none:Option _)=some _ from h)
 | succ m1=>
 rw [spots_rising_l1] at h
 rw [q_ar hE,q_cm hE,q_ll hE,←hR] at h
 cbv
 refine L_if hE h (fun h=>?_) (fun h=>?_)<;>cbv
 · refine L_row hE hR h fun r3 h=>?_;cbv
   refine L_rgJ hE lay_ok h 0 (fun j2:Bool=>[(21,fB j2)]) (fun j2=>[]) (fun j2 h=>?_) (fun j2 h=>?_)<;>cbv
   · refine L_if hE h (fun h=>?_) (fun h=>?_)<;>cbv
     · cases h;(cbv;(try simp only [e_rnil hR]);repeat' (first | exact trivial | exact rfl | exact Or.inr trivial | apply And.intro))
     cases h;(cbv;(try simp only [e_rnil hR]);repeat' (first | exact trivial | exact rfl | exact Or.inr trivial | apply And.intro))
   refine L_if hE h (fun h=>?_) (fun h=>?_)<;>cbv
   · refine hT1 _ ?_
     exact And.left (hQ _ _ _ rfl rfl (by cases h;subst hR;rfl))
   refine hN1 _ (_,_,m1) [] h (Nat.lt_succ_self _) trivial ?_;(cbv;(try simp only [e_rnil hR]);repeat' (first | exact trivial | exact rfl | exact Or.inr trivial | apply And.intro))
 refine hX1 _ _ ?_;cbv
 exact And.left (hQ _ _ _ rfl rfl (by cases h;subst hR;rfl))
theorem spots_Right_w {N:Nat} {p0:GSpots} {r:Bool} (h:spots_Right_g N p0=some r):FunS Tryz.prog 29 [.agg [.t (.slc (rw _ cSet p0.Sets)),fB p0.None,.t (.slc (rw _ (cI .i64) p0.First)),.t (.slc (rw _ (cI .i64) p0.Last)),.t (.slc (rw _ (cLs (cI .i64)) p0.Next))]] (spots_Right_s rw) r:=by
 refine fun_w lay_ok Tryz.call29 Tryz.func29 rfl ?_
 intro A W E Q R hE hR hf hQ;rcases W with ⟨ar,cm,conj,cv,sl,sc,ct,sa,ss,ll,_,_,_,_,mi,mx,_,_,_,_,_⟩
 rw [←hR]
 unfold spots_Right_g at h
 rw [q_cm hE,q_ll hE,←hR] at h
 cbv
 refine L_rgJ hE lay_ok h 2 (fun j1:Bool=>[(29,fB j1)]) (fun j1=>[]) (fun j1 h=>?_) (fun j1 h=>?_)<;>cbv
 · refine L_if hE h (fun h=>?_) (fun h=>?_)<;>cbv
   · cases h;(cbv;(try simp only [e_rnil hR]);repeat' (first | exact trivial | exact rfl | exact Or.inr trivial | apply And.intro))
   refine L_if hE h (fun h=>?_) (fun h=>?_)<;>cbv
   · cases h;(cbv;(try simp only [e_rnil hR]);repeat' (first | exact trivial | exact rfl | exact Or.inr trivial | apply And.intro))
   refine L_call hE hR h (fun _ e=>spots_rising_w e) (by subst hR;rfl) rfl fun a1 h=>?_;cbv
   refine L_if hE h (fun h=>?_) (fun h=>?_)<;>cbv
   · cases h;(cbv;(try simp only [e_rnil hR]);repeat' (first | exact trivial | exact rfl | exact Or.inr trivial | apply And.intro))
   refine L_call hE hR h (fun _ e=>spots_rising_w e) (by subst hR;rfl) rfl fun a2 h=>?_;cbv
   cases h;(cbv;(try simp only [e_rnil hR]);repeat' (first | exact trivial | exact rfl | exact Or.inr trivial | apply And.intro))
 refine L_if hE h (fun h=>?_) (fun h=>?_)<;>cbv
 · exact And.left (hQ _ _ _ rfl rfl (by cases h;subst hR;rfl))
 refine L_keep hE lay_ok Tryz.call61 Tryz.func61 rfl ?_
 intro A1 E1 Q1 hE1 hf1 hQ1;cbv
 refine L_keep hE1 lay_ok Tryz.call82 Tryz.func82 rfl ?_
 intro A2 E2 Q2 hE2 hf2 hQ2;cbv
 refine L_for hE2 lay_ok 2 (fun g:Int × Nat=>[(4,fI .i64 0),(8,fI .i64 g.1)]) (fun g=>[]) (fun g=>spots_Right_l3 N p0 g.2 g.1=some r) (fun g=>g.2) (_,N) h ?_ ?_
 · (cbv;(try simp only [e_rnil hR]);repeat' (first | exact trivial | exact rfl | exact Or.inr trivial | apply And.intro))
 rintro ⟨v3,m3⟩ h Q3 hN3 hT3 hX3
 have h:spots_Right_l3 N p0 m3 v3=some r:=h
 cases m3 with
 | zero=>exact nomatch (show (none:Option _)=some _ from h)
 | succ m3=>
 rw [spots_Right_l3] at h
 rw [q_ar hE,q_cm hE,q_ll hE,←hR] at h
 cbv
 refine L_if hE2 h (fun h=>?_) (fun h=>?_)<;>cbv
 · refine L_rowL hE2 hR h fun r4 h=>?_;cbv
   refine L_keep hE2 lay_ok Tryz.call62 Tryz.func62 rfl ?_
   intro A4 E4 Q4 hE4 hf4 hQ4;cbv
   refine L_call hE4 hR h (fun _ e=>spots_rising_w e) (by subst hR;rfl) rfl fun a5 h=>?_;cbv
   refine And.left (hQ4 _ _ rfl ?_);cbv
   refine L_if hE2 h (fun h=>?_) (fun h=>?_)<;>cbv
   · refine hT3 _ ?_
     refine And.left (hQ2 _ _ rfl ?_);cbv
     refine And.left (hQ1 _ _ rfl ?_);cbv
     exact And.left (hQ _ _ _ rfl rfl (by cases h;subst hR;rfl))
   refine hN3 _ (_,m3) [] h (Nat.lt_succ_self _) trivial ?_;(cbv;(try simp only [e_rnil hR]);repeat' (first | exact trivial | exact rfl | exact Or.inr trivial | apply And.intro))
 refine hX3 _ _ ?_;cbv
 refine And.left (hQ2 _ _ rfl ?_);cbv
 refine And.left (hQ1 _ _ rfl ?_);cbv
 exact And.left (hQ _ _ _ rfl rfl (by cases h;subst hR;rfl))
end Gn
end Go.Proofs.YtjhbgkakhaonaaaGreatDoor
