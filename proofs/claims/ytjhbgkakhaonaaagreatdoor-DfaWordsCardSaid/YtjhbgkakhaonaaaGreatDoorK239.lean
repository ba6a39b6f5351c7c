/- Texts that the proof leans on. -/
import Derived.Test.YtjhbgkakhaonaaaGreatDoorK232
set_option linter.unusedVariables false
set_option linter.unusedSimpArgs false
set_option maxRecDepth 100000
set_option maxHeartbeats 4000000
namespace Go.Proofs.YtjhbgkakhaonaaaGreatDoor
open Go Go.RowKit
open Ab
namespace Sh
section
variable {P:Program} {A:Run} {W:Wd} {E:Env} {L:TypeId→Option Lt}
variable (hE:dom P A=mkE W E)
include hE
theorem q_sc:sc=W.scmp:=by rw [wE hE];rfl
end
section
variable {β:Type} {x y:Int} {s t:ByteArray} {i j:Int}
theorem sl_eq:sl s=s.size:=rfl
theorem sc_eql:sc .eql s t=decide (s=t):=by
 by_cases h:s=t
 · subst h;rw [decide_eq_true rfl];exact beq_self_eq_true s.toList
 · rw [decide_eq_false h];exact beq_eq_false_iff_ne.2 fun e=>h (by rw [ByteArray.toList_eq,ByteArray.toList_eq] at e;obtain ⟨⟨x⟩⟩:=s;obtain ⟨⟨y⟩⟩:=t;simpa using e)
end
end Sh
end Go.Proofs.YtjhbgkakhaonaaaGreatDoor
namespace Go.Proofs.YtjhbgkakhaonaaaGreatDoor
open Go Go.RowKit Go.Lib
open Ab Sh
namespace Lw
theorem flat_rep {x:Value} (h:oneV x=true) (cx:Cx) (w:World):VRep cx w (.t (.flat x)) x:=.t _ _ (.flat _ h)
end Lw
end Go.Proofs.YtjhbgkakhaonaaaGreatDoor
namespace Go.Proofs.YtjhbgkakhaonaaaGreatDoor
open Go Go.RowKit
open Ab Sh
namespace Gn
def l18_DfaWords_s (R:RF) (r:Bool):V:=fB r
def l18_DfaWords_g (N:Nat) (p0:ByteArray) (p1:ByteArray):Option Bool:=
 (cond (cm .gtr (sl p0) 100)
 (cond (cm .leq (sl p0) 1024)
 (some true)
 (cond (cm .gtr (sl p0) 2000)
 (some true)
 (some (cm .gtr (sl p1) 100))))
 (cond (cm .gtr (sl p0) 2000)
 (some true)
 (some (cm .gtr (sl p1) 100))):Option Bool).bind fun j1=>
 cond (j1)
 ((l18_works_g N).bind fun a1=>
 some a1)
 ((dfa_Word_g N p0).bind fun a2=>
 cond (cm .gtr (sl p0) 1024)
 ((cond (cm .eql a2.2 3)
 (cond (cm .eql (ll (rw _ (cLs (cI .i64)) a2.1.Next)) 0)
 ((l18_works_g N).bind fun a3=>
 some a3)
 (some false))
 (some false):Option Bool).bind fun j2=>
 some j2)
 ((cond (cm .eql a2.2 0)
 ((dfa_Right_g N a2.1).bind fun a4=>
 cond (a4)
 (cond (cm .eql (ll (rw _ (cLs (cI .i64)) a2.1.Next)) (ar .add .i64 (sl p0) 2))
 ((dfa_Run_g N a2.1 p0).bind fun a5=>
 cond (a5)
 ((dfa_Run_g N a2.1 p1).bind fun a6=>
 cond (conj [a6==(sc .eql p0 p1)])
 ((l18_works_g N).bind fun a7=>
 some a7)
 (some false))
 (some false))
 (some false))
 (some false))
 (some false):Option Bool).bind fun j3=>
 some j3))
end Gn
end Go.Proofs.YtjhbgkakhaonaaaGreatDoor
namespace Go.Proofs.YtjhbgkakhaonaaaGreatDoor
open Go
open Sh Gn
namespace Dq
theorem if_bind {α β:Type} {p:Prop} [Decidable p] {a b:Option α} {f:α→Option β}:(if p then a else b).bind f=if p then a.bind f else b.bind f:=by split<;>rfl
end Dq
end Go.Proofs.YtjhbgkakhaonaaaGreatDoor
namespace Go.Proofs.YtjhbgkakhaonaaaGreatDoor
open Go
open Sh Gn
namespace Dq
def inR (many:Int) (x:Int):Bool:= !(decide (x<0))&&decide (x<many)
def dR (d:GDfa):Bool:=
 !(decide ((d.Next.length:Int)<1))&&(!(decide (4096<(d.Next.length:Int)))&&(decide ((d.Final.length:Int)=d.Next.length)&&(!(decide (d.Start<0))&&(decide (d.Start<(d.Next.length:Int))&&
   (decide (0<wide d.Block)&&d.Next.all fun r=>decide ((r.length:Int)=wide d.Block)&&r.all (inR d.Next.length))))))
structure LowD (d:GDfa):Prop where
 next:d.Next.length≤4200
 final:d.Final.length≤5000
 block:d.Block.length≤1000
 each:∀l∈d.Next,l.length≤1000
variable {d:GDfa}
theorem dright_l4 (hd:LowD d) {r:List Int} (hr:r.length≤1000):∀(m i:Nat),i≤r.length→r.length<i+m→dfa_Right_l4 d r m i=some (!(r.drop i).all (inR d.Next.length)):=by
 intro m
 induction m with
 | zero=>intro i h1 h2;omega
 | succ m ih=>
   intro i h1 h2
   rw [dfa_Right_l4]
   simp only [cm_lss,ll_eq,cond_dec,cm_geq]
   by_cases c:i<r.length
   · rw [if_pos (by omega),at_in c,List.drop_eq_getElem_cons c,List.all_cons]
     simp only [Option.bind_some,inc1 (show i≤100000000 by omega),inR]
     have h0:(0:Int)≤i:=by omega
     by_cases g:r[i]<0
     · simp only [g,if_true,Option.bind_some,_root_.cond_true,h0,decide_true,Bool.not_true,Bool.false_and,Bool.not_false]
     · by_cases g2:r[i]<d.Next.length
       · have g3:¬(d.Next.length:Int)≤r[i]:=by omega
         simp only [g,g2,g3,if_false,Option.bind_some,decide_false,decide_true,_root_.cond_false,Bool.not_false,Bool.true_and]
         exact ih (i+1) (by omega) (by omega)
       · have g3:(d.Next.length:Int)≤r[i]:=by omega
         simp only [g,g2,g3,if_false,Option.bind_some,decide_false,decide_true,_root_.cond_true,Bool.not_false,Bool.true_and,h0,Bool.false_and]
   · rw [if_neg (by omega),List.drop_of_length_le (by omega)]
     rfl
theorem dright_l1 (hd:LowD d) {N:Nat} (hN:5000≤N) (a:Int) (ha: -1000≤a∧a≤1000):∀(m i:Nat),i≤d.Next.length→d.Next.length<i+m→dfa_Right_l1 N d a m i=some (decide (0<a)&&(d.Next.drop i).all fun r=>decide ((r.length:Int)=a)&&r.all (inR d.Next.length)):=by
 intro m
 induction m with
 | zero=>intro i h1 h2;omega
 | succ m ih=>
   intro i h1 h2
   have:=hd.next
   rw [dfa_Right_l1]
   simp only [cm_lss,ll_eq,cond_dec,cm_gtr,cm_neq,cond_not]
   by_cases c:i<d.Next.length
   · have hl:=hd.each d.Next[i] (List.getElem_mem c)
     rw [if_pos (by omega),at_in c,List.drop_eq_getElem_cons c,List.all_cons]
     simp only [Option.bind_some,inc1 (show i≤100000000 by omega)]
     by_cases g:(d.Next[i].length:Int)=a
     · have h4:=dright_l4 hd hl N 0 (by omega) (by omega)
       rw [List.drop_zero] at h4
       have h4':dfa_Right_l4 d d.Next[i] N 0=some (!d.Next[i].all (inR d.Next.length)):=h4
       simp only [g,if_true,h4',Option.bind_some,cond_not,decide_true,Bool.true_and]
       cases d.Next[i].all (inR d.Next.length) with
       | true=>simp only [_root_.cond_true,Bool.true_and];exact ih (i+1) (by omega) (by omega)
       | false=>simp only [_root_.cond_false,Bool.false_and,Bool.and_false]
     · simp only [g,if_false,Option.bind_some,_root_.cond_true,decide_false,Bool.false_and,Bool.and_false]
   · rw [if_neg (by omega),List.drop_of_length_le (by omega)]
     simp
theorem dright_p (hd:LowD d) {N:Nat} (hN:5000≤N):dfa_Right_g N d=some (dR d):=by
 have hw:=wide_le d.Block
 have:=hd.next
 unfold dfa_Right_g dR
 simp only [cm_lss,ll_eq,cond_dec,cm_gtr,cm_neq,cm_geq,cond_not,bcount_p hd.block (show 1001≤N by omega),Option.bind_some,if_bind]
 by_cases g1:(d.Next.length:Int)<1
 · simp only [g1,if_true,decide_true,Bool.not_true,Bool.false_and,_root_.cond_true]
 by_cases g2:4096<(d.Next.length:Int)
 · simp only [g1,g2,if_true,if_false,decide_true,decide_false,Bool.not_true,Bool.not_false,Bool.true_and,Bool.false_and,_root_.cond_true]
 by_cases g3:(d.Final.length:Int)=d.Next.length
 · by_cases g4:d.Start<0
   · simp only [g1,g2,g3,g4,if_true,if_false,decide_true,decide_false,Bool.not_true,Bool.not_false,Bool.true_and,Bool.false_and,_root_.cond_true]
   · by_cases g5:d.Start<(d.Next.length:Int)
     · have g6:¬(d.Next.length:Int)≤d.Start:=by omega
       simp only [g1,g2,g3,g4,g5,g6,if_true,if_false,decide_true,decide_false,Bool.not_false,Bool.true_and,_root_.cond_false]
       have:=dright_l1 hd hN (wide d.Block) (by omega) N 0 (by omega) (by omega)
       rw [List.drop_zero] at this
       exact this
     · have g6:(d.Next.length:Int)≤d.Start:=by omega
       simp only [g1,g2,g3,g4,g5,g6,if_true,if_false,decide_true,decide_false,Bool.not_false,Bool.true_and,Bool.false_and,_root_.cond_true]
 · simp only [g1,g2,g3,if_true,if_false,decide_true,decide_false,Bool.not_false,Bool.true_and,Bool.false_and,_root_.cond_true]
end Dq
end Go.Proofs.YtjhbgkakhaonaaaGreatDoor
namespace Go.Proofs.YtjhbgkakhaonaaaGreatDoor
open Go
open Sh Gn
namespace Dq
variable {d:GDfa}
def stp (d:GDfa) (at0:Int) (b:UInt8):Int:=(d.Next.getD at0.toNat []).getD (d.Block.getD b.toNat 0).toNat 0
def runs (d:GDfa):Int→List UInt8→Int:=List.foldl (stp d)
def stateS (d:GDfa) (s:List UInt8):Int:=if dR d=true then runs d d.Start s else-1
def runB (d:GDfa) (s:List UInt8):Bool:=dR d&&d.Final.getD (runs d d.Start s).toNat false
structure Fct (d:GDfa):Prop where
 n1:1≤d.Next.length
 n2:d.Next.length≤4096
 fin:d.Final.length=d.Next.length
 s0:0≤d.Start
 s1:d.Start<d.Next.length
 blk:bR d.Block=true
 row:∀r∈d.Next,(r.length:Int)=wide d.Block∧∀x∈r,0≤x∧x<d.Next.length
theorem dR_fct (h:dR d=true):Fct d:=by
 simp only [dR,Bool.and_eq_true,Bool.not_eq_true',decide_eq_false_iff_not,decide_eq_true_eq,List.all_eq_true,inR] at h
 obtain ⟨h1,h2,h3,h4,h5,h6,h7⟩:=h
 refine ⟨by omega,by omega,by omega,by omega,h5,?_,fun r hr=>⟨(h7 r hr).1,fun x hx=>by have:=(h7 r hr).2 x hx;omega⟩⟩
 cases hb:bR d.Block with
 | true=>rfl
 | false=>unfold wide at h6;rw [hb] at h6;simp at h6
theorem stp_in (F:Fct d) {a:Int} (h0:0≤a) (h1:a<d.Next.length) (b:UInt8):∃r k,at_ d.Next a=some r∧at_ d.Block (b.toNat:Int)=some k∧at_ r k=some (stp d a b)∧0≤stp d a b∧stp d a b<d.Next.length:=by
 obtain ⟨r,hr,hr2⟩:=at_int (l:=d.Next) h0 h1
 obtain ⟨hl,hk⟩:=bR_in F.blk
 have hb:b.toNat<256:=b.toNat_lt
 obtain ⟨k,q1,q2⟩:=at_int (l:=d.Block) (x:=(b.toNat:Int)) (by omega) (by omega)
 rw [Int.toNat_natCast] at q2
 have hrm:=F.row r (List.mem_of_getElem? hr2)
 have hkm:=hk k (List.mem_of_getElem? q2)
 obtain ⟨y,q3,q4⟩:=at_int (l:=r) (x:=k) (by omega) (by omega)
 have e:stp d a b=y:=by
  unfold stp
  rw [List.getD_eq_getElem?_getD,List.getD_eq_getElem?_getD,List.getD_eq_getElem?_getD,hr2,q2]
  simp only [Option.getD_some]
  rw [q4]
  rfl
 have hy:=hrm.2 y (List.mem_of_getElem? q4)
 exact ⟨r,k,hr,q1,by rw [e];exact q3,by omega,by omega⟩
theorem runs_in (F:Fct d):∀(s:List UInt8) {a:Int},0≤a→a<d.Next.length→0≤runs d a s∧runs d a s<d.Next.length
 | [],a,h0,h1=>⟨h0,h1⟩
 | b::s,a,h0,h1=>by
   obtain ⟨r,k,-,-,-,h2,h3⟩:=stp_in F h0 h1 b
   exact runs_in F s h2 h3
theorem sa_at {s:ByteArray} {i:Nat} (h:i<s.size):sinB s (i:Int)=true∧sa s (i:Int)=((s.data.toList[i]'(by simpa using h)).toNat:Int):=by
 refine ⟨by simp [sinB,h],?_⟩
 show ((s.data.getD ((i:Int)).toNat 0).toNat:Int)=_
 rw [Int.toNat_natCast]
 simp [Array.getD,h]
theorem dstate_l (F:Fct d) {s:ByteArray} (hs:s.size≤10000):∀(m i:Nat) (a:Int),0≤a→a<d.Next.length→i≤s.size→s.size<i+m→dfa_State_l1 d s m a i=some (runs d a (s.data.toList.drop i)):=by
 intro m
 induction m with
 | zero=>intro i a h1 h2 h3;omega
 | succ m ih=>
   intro i a h1 h2 h3 h4
   rw [dfa_State_l1]
   simp only [cm_lss,sl_eq,cond_dec]
   by_cases c:i<s.size
   · obtain ⟨e1,e2⟩:=sa_at c
     obtain ⟨r,k,q1,q2,q3,q4,q5⟩:=stp_in F h1 h2 (s.data.toList[i]'(by simpa using c))
     rw [if_pos (by omega),q1,e1,e2]
     simp only [Option.bind_some,_root_.cond_true,q2,q3,inc1 (show i≤100000000 by omega)]
     rw [List.drop_eq_getElem_cons (show i<s.data.toList.length by simpa using c)]
     exact ih (i+1) _ q4 q5 (by omega) (by omega)
   · rw [if_neg (by omega),List.drop_of_length_le (by simp;omega)]
     rfl
variable {s:ByteArray} {N:Nat}
theorem dstate_p (hd:LowD d) (hN:5000≤N) (hs:s.size<N) (hs2:s.size≤10000):dfa_State_g N d s=some (stateS d s.data.toList):=by
 unfold dfa_State_g stateS
 rw [dright_p hd hN,Option.bind_some,cond_not]
 cases h:dR d with
 | false=>rfl
 | true=>
   have F:=dR_fct h
   rw [_root_.cond_true,if_pos rfl]
   exact dstate_l F hs2 N 0 _ F.s0 F.s1 (by omega) (by omega)
theorem final_at:(cond (cm .geq (stateS d s.data.toList) 0) ((at_ d.Final (stateS d s.data.toList)).bind fun r2=>some r2) (some false):Option Bool)=some (runB d s.data.toList):=by
 unfold stateS runB
 cases h:dR d with
 | false=>rfl
 | true=>
   have F:=dR_fct h
   obtain ⟨h1,h2⟩:=runs_in F s.data.toList F.s0 F.s1
   obtain ⟨y,q1,q2⟩:=at_int (l:=d.Final) h1 (by rw [F.fin];exact h2)
   simp only [if_true,cm_geq,cond_dec]
   rw [if_pos h1,q1,List.getD_eq_getElem?_getD,q2]
   rfl
theorem drun_p (hd:LowD d) (hN:5000≤N) (hs:s.size<N) (hs2:s.size≤10000):dfa_Run_g N d s=some (runB d s.data.toList):=by
 unfold dfa_Run_g
 rw [dstate_p hd hN hs hs2,Option.bind_some,final_at]
 rfl
end Dq
end Go.Proofs.YtjhbgkakhaonaaaGreatDoor
namespace Go.Proofs.YtjhbgkakhaonaaaGreatDoor
open Go Go.RowKit
open Ab Sh
namespace Gn
theorem l18_DfaWords_w {N:Nat} {p0:ByteArray} {p1:ByteArray} {r:Bool} (h:l18_DfaWords_g N p0 p1=some r):FunS Tryz.prog 5 [fS p0,fS p1] (l18_DfaWords_s rw) r:=by
 refine fun_w lay_ok Tryz.call5 Tryz.func5 rfl ?_
 intro A W E Q R hE hR hf hQ;rcases W with ⟨ar,cm,conj,cv,sl,sc,ct,sa,ss,ll,_,_,_,_,mi,mx,_,_,_,_,_⟩
 unfold l18_DfaWords_g at h
 rw [q_ar hE,q_cm hE,q_conj hE,q_sl hE,q_sc hE,q_ll hE,←hR] at h
 cbv
 refine L_rgJ hE lay_ok h 0 (fun j1:Bool=>[(24,fB j1)]) (fun j1=>[]) (fun j1 h=>?_) (fun j1 h=>?_)<;>cbv
 · refine L_if hE h (fun h=>?_) (fun h=>?_)<;>cbv
   · refine L_if hE h (fun h=>?_) (fun h=>?_)<;>cbv
     · cases h;(cbv;(try simp only [e_rnil hR]);repeat' (first | exact trivial | exact rfl | exact Or.inr trivial | apply And.intro))
     refine L_if hE h (fun h=>?_) (fun h=>?_)<;>cbv
     · cases h;(cbv;(try simp only [e_rnil hR]);repeat' (first | exact trivial | exact rfl | exact Or.inr trivial | apply And.intro))
     cases h;(cbv;(try simp only [e_rnil hR]);repeat' (first | exact trivial | exact rfl | exact Or.inr trivial | apply And.intro))
   refine L_if hE h (fun h=>?_) (fun h=>?_)<;>cbv
   · cases h;(cbv;(try simp only [e_rnil hR]);repeat' (first | exact trivial | exact rfl | exact Or.inr trivial | apply And.intro))
   cases h;(cbv;(try simp only [e_rnil hR]);repeat' (first | exact trivial | exact rfl | exact Or.inr trivial | apply And.intro))
 refine L_if hE h (fun h=>?_) (fun h=>?_)<;>cbv
 · refine L_call hE hR h (fun _ e=>l18_works_w e) rfl rfl fun a1 h=>?_;cbv
   exact And.left (hQ _ _ _ rfl rfl (by cases h;subst hR;rfl))
 refine L_call hE hR h (fun _ e=>dfa_Word_w e) rfl rfl fun a2 h=>?_;cbv
 refine L_if hE h (fun h=>?_) (fun h=>?_)<;>cbv
 · refine L_rgJ hE lay_ok h 1 (fun j2:Bool=>[(4,fB j2)]) (fun j2=>[]) (fun j2 h=>?_) (fun j2 h=>?_)<;>cbv
   · refine L_if hE h (fun h=>?_) (fun h=>?_)<;>cbv
     · refine L_if hE h (fun h=>?_) (fun h=>?_)<;>cbv
       · refine L_call hE hR h (fun _ e=>l18_works_w e) rfl rfl fun a3 h=>?_;cbv
         cases h;(cbv;(try simp only [e_rnil hR]);repeat' (first | exact trivial | exact rfl | exact Or.inr trivial | apply And.intro))
       cases h;(cbv;(try simp only [e_rnil hR]);repeat' (first | exact trivial | exact rfl | exact Or.inr trivial | apply And.intro))
     cases h;(cbv;(try simp only [e_rnil hR]);repeat' (first | exact trivial | exact rfl | exact Or.inr trivial | apply And.intro))
   exact And.left (hQ _ _ _ rfl rfl (by cases h;subst hR;rfl))
 refine L_rgJ hE lay_ok h 1 (fun j3:Bool=>[(4,fB j3)]) (fun j3=>[]) (fun j3 h=>?_) (fun j3 h=>?_)<;>cbv
 · refine L_if hE h (fun h=>?_) (fun h=>?_)<;>cbv
   · refine L_call hE hR h (fun _ e=>dfa_Right_w e) (by subst hR;rfl) rfl fun a4 h=>?_;cbv
     refine L_if hE h (fun h=>?_) (fun h=>?_)<;>cbv
     · refine L_if hE h (fun h=>?_) (fun h=>?_)<;>cbv
       · refine L_call hE hR h (fun _ e=>dfa_Run_w e) (by subst hR;rfl) rfl fun a5 h=>?_;cbv
         refine L_if hE h (fun h=>?_) (fun h=>?_)<;>cbv
         · refine L_call hE hR h (fun _ e=>dfa_Run_w e) (by subst hR;rfl) rfl fun a6 h=>?_;cbv
           refine L_if hE h (fun h=>?_) (fun h=>?_)<;>cbv
           · refine L_call hE hR h (fun _ e=>l18_works_w e) rfl rfl fun a7 h=>?_;cbv
             cases h;(cbv;(try simp only [e_rnil hR]);repeat' (first | exact trivial | exact rfl | exact Or.inr trivial | apply And.intro))
           cases h;(cbv;(try simp only [e_rnil hR]);repeat' (first | exact trivial | exact rfl | exact Or.inr trivial | apply And.intro))
         cases h;(cbv;(try simp only [e_rnil hR]);repeat' (first | exact trivial | exact rfl | exact Or.inr trivial | apply And.intro))
       cases h;(cbv;(try simp only [e_rnil hR]);repeat' (first | exact trivial | exact rfl | exact Or.inr trivial | apply And.intro))
     cases h;(cbv;(try simp only [e_rnil hR]);repeat' (first | exact trivial | exact rfl | exact Or.inr trivial | apply And.intro))
   cases h;(cbv;(try simp only [e_rnil hR]);repeat' (first | exact trivial | exact rfl | exact Or.inr trivial | apply And.intro))
 exact And.left (hQ _ _ _ rfl rfl (by cases h;subst hR;rfl))
end Gn
end Go.Proofs.YtjhbgkakhaonaaaGreatDoor
namespace Go.Proofs.YtjhbgkakhaonaaaGreatDoor
open Go
open Sh Gn
namespace Dq
theorem mul_p:∀n:Fin 257,math_bits_Mul_g 1 (n.1:Int)=some (0,(n.1:Int))∧cv .u64 (n.1:Int)=(n.1:Int)∧cv .i64 (n.1:Int)=(n.1:Int):=by decide+kernel
theorem rep_l {x:Int} {n:Nat} (hn:n≤256):∀(m k:Nat),1≤k→k≤n→n<k+m→slices_RepeatI_l1 m k (List.replicate k x++List.replicate (n-k) 0)=some (List.replicate n x):=by
 intro m
 induction m with
 | zero=>intro k h1 h2 h3;omega
 | succ m ih=>
   intro k h1 h2 h3
   have hlen:(List.replicate k x++List.replicate (n-k) (0:Int)).length=n:=by simp;omega
   rw [slices_RepeatI_l1]
   simp only [cm_lss,cond_dec]
   rw [ll_eq,hlen]
   by_cases c:k<n
   · have hw:winB (List.replicate k x++List.replicate (n-k) (0:Int)) (k:Int)=true:=by
      have h4:(List.replicate k x++List.replicate (n-k) (0:Int)).isEmpty=false:=by
       cases hh:(List.replicate k x++List.replicate (n-k) (0:Int)) with
       | nil=>rw [hh] at hlen;simp at hlen;omega
       | cons _ _=>rfl
      simp only [winB,h4,hlen,Bool.not_false,Bool.true_and,Bool.and_eq_true,decide_eq_true_eq]
      omega
     have e1:cpw (cI .i64) (List.replicate k x++List.replicate (n-k) 0) k k=List.replicate (k+min k (n-k)) x++List.replicate (n-(k+min k (n-k))) 0:=by
      unfold cpw
      rw [hlen,Int.toNat_natCast]
      have t1:(List.replicate k x++List.replicate (n-k) (0:Int)).take k=List.replicate k x:=by rw [List.take_append_of_le_length (by simp)];simp
      have t2:(List.replicate k x++List.replicate (n-k) (0:Int)).take (min k (n-k))=List.replicate (min k (n-k)) x:=by rw [List.take_append_of_le_length (by simp;omega),List.take_replicate];congr 1;omega
      have t3:(List.replicate k x++List.replicate (n-k) (0:Int)).drop (k+min k (n-k))=List.replicate (n-(k+min k (n-k))) 0:=by rw [List.drop_append,List.drop_of_length_le (by simp),List.nil_append,List.length_replicate,List.drop_replicate];congr 1;omega
      rw [t1,t2,t3,List.replicate_append_replicate]
     have e2:ar .add .i64 (k:Int) (mi (k:Int) (ar .sub .i64 (n:Int) (k:Int)))=((k+min k (n-k):Nat):Int):=by
      rw [ar_sub (by omega) (by omega)]
      unfold mi
      split
      · rw [ar_add (by omega) (by omega)];omega
      · rw [ar_add (by omega) (by omega)];omega
     rw [if_pos (by omega),hw,e1,e2]
     simp only [Bool.and_self,_root_.cond_true,Option.bind_some]
     exact ih (k+min k (n-k)) (by omega) (by omega) (by omega)
   · have e:k=n:=by omega
     subst e
     rw [if_neg (by omega),Nat.sub_self]
     simp
theorem repeat_p {x:Int} {n:Nat} (h1:1≤n) (hn:n≤256) {N:Nat} (hN:300≤N):slices_RepeatI_g N [x] n=some (List.replicate n x):=by
 obtain ⟨q1,q2,q3⟩:=mul_p ⟨n,by omega⟩
 simp only at q1 q2 q3
 have q0:cv .u64 (ll (rw Int (cI .i64) [x]))=1:=by rw [ll_eq];show cv .u64 ((1:Nat):Int)=1;decide
 have ec:cpy (cI .i64) (List.replicate n (0:Int)) [x]=some (List.replicate 1 x++List.replicate (n-1) 0):=by
  have:List.replicate n (0:Int)≠[]:=by intro h;have:=congrArg List.length h;simp at this;omega
  unfold cpy
  rw [if_pos ⟨this,by simp⟩,List.take_of_length_le (by simp;omega)]
  simp
 have hz:zro (cI .i64) 0 (n:Int) (n:Int)=some (List.replicate n 0):=zro_eq (by omega)
 unfold slices_RepeatI_g
 simp only [cm_lss,cm_gtr,cond_dec]
 rw [if_neg (by omega),q0,q2,q1,Option.bind_some]
 simp only [q3]
 rw [if_neg (by omega),Option.bind_some,decide_eq_false (by omega),_root_.cond_false,hz,Option.bind_some,ec,Option.bind_some]
 have e:mi (ll (rw Int (cI .i64) [x])) (ll (rw Int (cI .i64) (List.replicate n 0)))=((1:Nat):Int):=by
  rw [ll_eq,ll_eq,List.length_replicate]
  unfold mi
  split
  · simp at *;omega
  · rfl
 rw [e]
 exact rep_l hn N 1 (by omega) (by omega) (by omega)
theorem ix_mem:∀{l:List UInt8} {c:UInt8},-1≤Lib.indexByte l c∧(¬ Lib.indexByte l c<0→c∈l)
 | [],c=>⟨by simp [Lib.indexByte],fun h=>absurd (show Lib.indexByte [] c<0 by simp [Lib.indexByte]) h⟩
 | b ::l,c=>by
   obtain ⟨h1,h2⟩:=ix_mem (l:=l) (c:=c)
   rw [Lib.indexByte]
   by_cases e:b=c
   · subst e
     simp
   · have:(b==c)=false:=by simpa using e
     rw [this]
     simp only [Bool.false_eq_true,if_false]
     by_cases g:Lib.indexByte l c=-1
     · simp [g]
     · have g':(Lib.indexByte l c== -1)=false:=by simpa using g
       rw [g']
       simp only [Bool.false_eq_true,if_false]
       exact ⟨by omega,fun _=>List.mem_cons_of_mem _ (h2 (by omega))⟩
variable {w:ByteArray}
theorem word_l1 {N:Nat} (hN:5000≤N) (hw:w.size≤100):∀(m i:Nat) (l:List CSet),i≤w.size→w.size<i+m→l.length≤i→(∀c∈w.data.toList.take i,CSet.between c.toNat c.toNat∈l)→
 ∃l',l'.length≤100∧(∀c∈w.data.toList,CSet.between c.toNat c.toNat∈l')∧dfa_Word_l1 N w m i l=dfa_Word_l2 N w (blkS l') (wide (blkS l')) N 0 [] []:=by
 have hlen:w.data.toList.length=w.size:=by simp
 intro m
 induction m with
 | zero=>intro i l h1 h2;omega
 | succ m ih=>
   intro i l h1 h2 h3 h4
   rw [dfa_Word_l1]
   simp only [cm_lss,sl_eq,cond_dec]
   by_cases c:i<w.size
   · obtain ⟨e1,e2⟩:=sa_at c
     have es:ssinB w 0 (i:Int)=true:=by simp [ssinB];omega
     have ess:(ss w 0 (i:Int)).data.toList=w.data.toList.take i:=by
      simp [ss]
     have hc:=(w.data.toList[i]'(by omega)).toNat_lt
     have eix:strings_IndexByte_g (ss w 0 (i:Int)) ((w.data.toList[i]'(by omega)).toNat:Int)=some (Lib.indexByte (w.data.toList.take i) (w.data.toList[i]'(by omega))):=by
      unfold strings_IndexByte_g
      rw [ess,Int.toNat_natCast]
      congr 2
      simp
     rw [if_pos (by omega),es,e1,e2,eix]
     simp only [_root_.cond_true,Option.bind_some]
     have htk:w.data.toList.take (i+1)=w.data.toList.take i++[w.data.toList[i]'(by omega)]:=by
      rw [List.take_add_one,List.getElem?_eq_getElem (by omega)]
      rfl
     by_cases g:Lib.indexByte (w.data.toList.take i) (w.data.toList[i]'(by omega))<0
     · rw [if_pos g,charset_Of_g,if_pos (by omega),Option.bind_some,app_eq (by simp;omega),Option.bind_some,Option.bind_some,inc1 (by omega)]
       refine ih (i+1) _ (by omega) (by omega) (by simp;omega) fun x hx=>?_
       rw [htk] at hx
       rcases List.mem_append.1 hx with hx | hx
       · exact List.mem_append_left _ (h4 x hx)
       · rw [List.mem_singleton] at hx
         subst hx
         exact List.mem_append_right _ (by simp)
     · rw [if_neg g,Option.bind_some,inc1 (by omega)]
       refine ih (i+1) l (by omega) (by omega) (by omega) fun x hx=>?_
       rw [htk] at hx
       rcases List.mem_append.1 hx with hx | hx
       · exact h4 x hx
       · rw [List.mem_singleton] at hx
         subst hx
         exact h4 _ (ix_mem.2 g)
   · rw [if_neg (by omega),bof_p (by omega) (by omega) (by omega),Option.bind_some,bcount_p (by rw [(blkS_blk l).len];omega) (by omega),Option.bind_some]
     exact ⟨l,by omega,fun x hx=>h4 x (by rwa [List.take_of_length_le (by omega)]),rfl⟩
def rowW (w:List UInt8) (B:List Int) (i:Nat):List Int:=match w[i]? with
 | some c=>(List.replicate (wide B).toNat ((w.length+1:Nat):Int)).set (B.getD c.toNat 0).toNat ((i+1:Nat):Int)
 | none=>List.replicate (wide B).toNat ((w.length+1:Nat):Int)
def autW (w:List UInt8) (B:List Int):GDfa:=⟨0,(List.range (w.length+2)).map fun i=>decide (i=w.length),B,(List.range (w.length+2)).map (rowW w B)⟩
theorem word_l2 {N:Nat} (hN:5000≤N) (hw:w.size≤100) {B:List Int} (hB:bR B=true):∀(m i:Nat),i≤w.size+2→w.size+2<i+m→
 dfa_Word_l2 N w B (wide B) m i ((List.range i).map fun i=>decide (i=w.data.toList.length)) ((List.range i).map (rowW w.data.toList B))=some (autW w.data.toList B,0):=by
 have hlen:w.data.toList.length=w.size:=by simp
 have hwl:=wide_le B
 have hwp:=wide_pos hB
 obtain ⟨hb1,hb2⟩:=bR_in hB
 intro m
 induction m with
 | zero=>intro i h1 h2;omega
 | succ m ih=>
   intro i h1 h2
   rw [dfa_Word_l2]
   have e2:ar .add .i64 (w.size:Int) 2=((w.size+2:Nat):Int):=by rw [ar_add (by omega) (by omega)];omega
   have e1:ar .add .i64 (w.size:Int) 1=((w.size+1:Nat):Int):=by rw [ar_add (by omega) (by omega)];omega
   simp only [cm_lss,sl_eq,cond_dec,e1,e2,cm_eql]
   by_cases c:i<w.size+2
   · have er:=repeat_p (x:=((w.size+1:Nat):Int)) (n:=(wide B).toNat) (by omega) (by omega) (N:=N) (by omega)
     rw [Int.toNat_of_nonneg (by omega)] at er
     rw [if_pos (by omega),er,Option.bind_some]
     have hrow:(if (i:Int)<(w.size:Int) then cond (sinB w (i:Int)) ((at_ B (sa w (i:Int))).bind fun r12=>(at_ (List.replicate (wide B).toNat ((w.size+1:Nat):Int)) r12).bind fun r13=>(at_ (List.replicate (wide B).toNat ((w.size+1:Nat):Int)) r12).bind fun r14=>put (cI .i64) (List.replicate (wide B).toNat ((w.size+1:Nat):Int)) r12 (ar .add .i64 (i:Int) 1) fun l15=>some l15) none else some (List.replicate (wide B).toNat ((w.size+1:Nat):Int)))=some (rowW w.data.toList B i):=by
      by_cases g:i<w.size
      · obtain ⟨q1,q2⟩:=sa_at g
        have hc:=(w.data.toList[i]'(by omega)).toNat_lt
        obtain ⟨k,q3,q4⟩:=at_int (l:=B) (x:=((w.data.toList[i]'(by omega)).toNat:Int)) (by omega) (by omega)
        rw [Int.toNat_natCast] at q4
        have hk:=hb2 k (List.mem_of_getElem? q4)
        obtain ⟨y,q5,q6⟩:=at_int (l:=List.replicate (wide B).toNat ((w.size+1:Nat):Int)) (x:=k) (by omega) (by simp;omega)
        rw [if_pos (by omega),q1,q2,_root_.cond_true,q3,Option.bind_some,q5,Option.bind_some,Option.bind_some,put,inc1 (by omega),rowW,List.getElem?_eq_getElem (by omega)]
        have eB:B.getD (w.data.toList[i]'(by omega)).toNat 0=k:=by rw [List.getD_eq_getElem?_getD,q4];rfl
        simp only [eB]
        rw [show ((w.data.toList.length+1:Nat):Int)=((w.size+1:Nat):Int) by rw [hlen]]
      · rw [if_neg (by omega),rowW,List.getElem?_eq_none (by omega)]
        simp only
        rw [hlen]
     have hrow':=hrow
     refine Eq.trans (congrArg (fun z:Option (List Int)=>z.bind fun j6=>(app (cLs (cI .i64)) ((List.range i).map (rowW w.data.toList B)) [j6]).bind fun l16=>(app cB ((List.range i).map fun i=>decide (i=w.data.toList.length)) [decide ((i:Int)=(w.size:Int))]).bind fun l17=>(dfa_Word_l2 N w B (wide B) m) (ar .add .i64 (i:Int) 1) l17 l16) hrow) ?_
     simp only [Option.bind_some]
     rw [app_eq (by simp;omega),Option.bind_some,app_eq (by simp;omega),Option.bind_some,inc1 (by omega)]
     have a1:(List.range i).map (rowW w.data.toList B)++[rowW w.data.toList B i]=(List.range (i+1)).map (rowW w.data.toList B):=by rw [List.range_succ,List.map_append];rfl
     have a2:((List.range i).map fun i=>decide (i=w.data.toList.length))++[decide ((i:Int)=(w.size:Int))]=(List.range (i+1)).map fun i=>decide (i=w.data.toList.length):=by
      rw [List.range_succ,List.map_append]
      congr 1
      simp only [List.map_cons,List.map_nil,hlen]
      congr 1
      rw [decide_eq_decide]
      omega
     rw [a1,a2]
     exact ih (i+1) (by omega) (by omega)
   · have e:i=w.size+2:=by omega
     subst e
     rw [if_neg (by omega),autW,hlen]
end Dq
end Go.Proofs.YtjhbgkakhaonaaaGreatDoor
namespace Go.Proofs.YtjhbgkakhaonaaaGreatDoor
open Go
open Sh Gn
namespace Dq
theorem bR_get {B:List Int} (hB:bR B=true) (b:UInt8):B[b.toNat]?=some (B.getD b.toNat 0)∧0≤B.getD b.toNat 0∧B.getD b.toNat 0<wide B:=by
 obtain ⟨hb1,hb2⟩:=bR_in hB
 have hc:=b.toNat_lt
 have e:B[b.toNat]?=some (B[b.toNat]'(by omega)):=List.getElem?_eq_getElem (by omega)
 have e2:B.getD b.toNat 0=B[b.toNat]'(by omega):=by rw [List.getD_eq_getElem?_getD,e];rfl
 rw [e2]
 have:=hb2 _ (List.getElem_mem (show b.toNat<B.length by omega))
 exact ⟨e,this.1,this.2.1⟩
def Sep (w:List UInt8) (B:List Int):Prop:=∀c∈w,∀b:UInt8,b≠c→B.getD b.toNat 0≠B.getD c.toNat 0
theorem sep_of {w:List UInt8} {l:List CSet} (h:∀c∈w,CSet.between c.toNat c.toNat∈l):Sep w (blkS l):=by
 have hB:bR (blkS l)=true:=(blkS_blk l).rgt
 intro c hc b hb e
 have h1:=(bR_get hB b).1
 have h2:=(bR_get hB c).1
 have hb2:=b.toNat_lt
 have hc2:=c.toNat_lt
 have hne:b.toNat≠c.toNat:=fun g=>hb (UInt8.toNat_inj.1 g)
 have hbc:∀x:Nat,x<256→hs (CSet.between c.toNat c.toNat) x=decide (x=c.toNat):=fun x hx=>by
  unfold hs
  rw [CSet.has_between _ _ _ (by omega) hx,Bool.eq_iff_iff,Bool.and_eq_true,decide_eq_true_eq,decide_eq_true_eq,decide_eq_true_eq]
  omega
 have key:hs (CSet.between c.toNat c.toNat) b.toNat=hs (CSet.between c.toNat c.toNat) c.toNat:=by
  rcases Nat.lt_or_gt_of_ne hne with g | g
  · exact (blkS_same g (by omega) h1 h2).1 e _ (h c hc)
  · exact ((blkS_same g (by omega) h2 h1).1 e.symm _ (h c hc)).symm
 rw [hbc _ (by omega),hbc _ (by omega)] at key
 simp at key
 exact hne (by simpa using key)
variable {w:List UInt8} {B:List Int}
theorem nxt_len:(autW w B).Next.length=w.length+2:=by simp [autW]
theorem nxt_at {i:Nat} (h:i<w.length+2):(autW w B).Next.getD i []=rowW w B i:=by
 rw [List.getD_eq_getElem?_getD]
 simp [autW,h]
theorem rowW_in (hB:bR B=true) (i:Nat) (hi:i<w.length+2):((rowW w B i).length:Int)=wide B∧∀x∈rowW w B i,0≤x∧x<((w.length+2:Nat):Int):=by
 have hwp:=wide_pos hB
 unfold rowW
 cases hc:w[i]? with
 | none=>
   refine ⟨by simp;omega,fun x hx=>?_⟩
   have:=(List.mem_replicate.1 hx).2
   omega
 | some c=>
   obtain ⟨hl,-⟩:=List.getElem?_eq_some_iff.1 hc
   refine ⟨by simp;omega,fun x hx=>?_⟩
   rcases List.mem_or_eq_of_mem_set hx with hx | hx
   · have:=(List.mem_replicate.1 hx).2
     omega
   · omega
theorem dR_w (hB:bR B=true) (hw:w.length≤100):dR (autW w B)=true:=by
 have hwp:=wide_pos hB
 simp only [dR,Bool.and_eq_true,Bool.not_eq_true',decide_eq_false_iff_not,decide_eq_true_eq,List.all_eq_true,inR,nxt_len]
 refine ⟨by omega,by omega,by simp [autW],by simp [autW],by simp [autW];omega,by simp [autW];omega,fun r hr=>?_⟩
 simp only [autW,List.mem_map,List.mem_range] at hr
 obtain ⟨i,hi,rfl⟩:=hr
 obtain ⟨h1,h2⟩:=rowW_in (w:=w) hB i hi
 refine ⟨h1,fun x hx=>?_⟩
 have:=h2 x hx
 omega
theorem step_w (hB:bR B=true) (hS:Sep w B) {i:Nat} (hi:i<w.length+2) (b:UInt8):stp (autW w B) i b=if w[i]?=some b then ((i+1:Nat):Int) else ((w.length+1:Nat):Int):=by
 obtain ⟨-,b1,b2⟩:=bR_get hB b
 unfold stp
 rw [Int.toNat_natCast,nxt_at hi,show (autW w B).Block=B from rfl,List.getD_eq_getElem?_getD,rowW]
 cases hc:w[i]? with
 | none=>
   simp only
   rw [if_neg (by simp),List.getElem?_replicate,if_pos (by omega)]
   rfl
 | some c=>
   obtain ⟨-,c1,c2⟩:=bR_get hB c
   simp only
   by_cases e:c=b
   · subst e
     rw [if_pos rfl,List.getElem?_set_self (by rw [List.length_replicate];omega)]
     rfl
   · have:=hS c (List.mem_of_getElem? hc) b (fun h=>e h.symm)
     rw [if_neg (by simpa using e),List.getElem?_set_ne (by omega),List.getElem?_replicate,if_pos (by omega)]
     rfl
theorem runs_w (hB:bR B=true) (hS:Sep w B):∀(s:List UInt8) (i:Nat),i<w.length+2→(autW w B).Final.getD (runs (autW w B) i s).toNat false=(decide (i≤w.length)&&decide (s=w.drop i))
 | [],i,hi=>by
   show (autW w B).Final.getD ((i:Int)).toNat false=_
   rw [Int.toNat_natCast,List.getD_eq_getElem?_getD]
   simp only [autW,List.getElem?_map,List.getElem?_range hi,Option.map_some,Option.getD_some]
   rw [Bool.eq_iff_iff,Bool.and_eq_true,decide_eq_true_eq,decide_eq_true_eq,decide_eq_true_eq,eq_comm (a:=[]),List.drop_eq_nil_iff]
   omega
 | b ::s,i,hi=>by
   show (autW w B).Final.getD (runs (autW w B) (stp (autW w B) i b) s).toNat false=_
   rw [step_w hB hS hi]
   by_cases e:w[i]?=some b
   · obtain ⟨hl,e'⟩:=List.getElem?_eq_some_iff.1 e
     rw [if_pos e,runs_w hB hS s (i+1) (by omega),List.drop_eq_getElem_cons hl,e',Bool.eq_iff_iff]
     simp only [Bool.and_eq_true,decide_eq_true_eq,List.cons.injEq,true_and]
     exact ⟨fun h=>⟨by omega,h.2⟩,fun h=>⟨by omega,h.2⟩⟩
   · rw [if_neg e,runs_w hB hS s (w.length+1) (by omega),decide_eq_false (by omega),Bool.false_and,eq_comm,Bool.and_eq_false_iff]
     by_cases g:i<w.length
     · right
       rw [decide_eq_false_iff_not,List.drop_eq_getElem_cons g,List.cons.injEq]
       exact fun h=>e (by rw [List.getElem?_eq_getElem g,h.1])
     · right
       rw [decide_eq_false_iff_not,List.drop_of_length_le (by omega)]
       simp
theorem data_inj {a b:ByteArray}:a=b↔a.data.toList=b.data.toList:=by
 constructor
 · intro h;rw [h]
 · intro h
   cases a;cases b
   congr 1
   exact Array.toList_inj.1 h
theorem dfawords_p (w s:ByteArray):l18_DfaWords_g 6000 w s=some true:=by
 unfold l18_DfaWords_g
 simp only [sl_eq,cm_gtr,cm_leq,cond_dec]
 have small:∀(hw:w.size≤100) (hs:s.size≤100),dfa_Word_g 6000 w=dfa_Word_l1 6000 w 6000 0 []:=fun hw hs=>by
  unfold dfa_Word_g
  simp only [sl_eq,cm_gtr,cond_dec]
  rw [if_neg (by omega)]
 by_cases hs:s.size≤100
 · by_cases h1:w.size≤100
   · rw [if_neg (by omega),if_neg (by omega),Option.bind_some,decide_eq_false (by omega),_root_.cond_false,small h1 hs]
     obtain ⟨l',q1,q2,q3⟩:=word_l1 (w:=w) (N:=6000) (by omega) h1 6000 0 [] (by omega) (by omega) (by simp) (by simp)
     have hB:bR (blkS l')=true:=(blkS_blk l').rgt
     have q4:=word_l2 (w:=w) (N:=6000) (by omega) h1 hB 6000 0 (by omega) (by omega)
     have q4':dfa_Word_l2 6000 w (blkS l') (wide (blkS l')) 6000 0 [] []=_:=q4
     have q3':dfa_Word_l1 6000 w 6000 0 []=_:=q3
     have hlen:w.data.toList.length=w.size:=by simp
     have hD:LowD (autW w.data.toList (blkS l')):=⟨by rw [nxt_len];omega,by simp [autW];omega,by simp [autW];have:=(bR_in hB).1;omega,fun r hr=>by
      simp only [autW,List.mem_map,List.mem_range] at hr
      obtain ⟨i,hi,rfl⟩:=hr
      have:=(rowW_in (w:=w.data.toList) hB i hi).1
      have:=wide_le (blkS l')
      omega⟩
     have hdR:=dR_w (w:=w.data.toList) hB (by omega)
     have hS:=sep_of q2
     have hrun:∀x:ByteArray,runB (autW w.data.toList (blkS l')) x.data.toList=decide (x.data.toList=w.data.toList):=fun x=>by
      unfold runB
      rw [hdR,Bool.true_and]
      have:=runs_w hB hS x.data.toList 0 (by omega)
      have h':(autW w.data.toList (blkS l')).Final.getD (runs (autW w.data.toList (blkS l')) (autW w.data.toList (blkS l')).Start x.data.toList).toNat false=_:=this
      rw [h']
      simp
     rw [q3',q4',Option.bind_some]
     simp only
     rw [if_neg (by omega),dright_p hD (by omega),hdR,drun_p hD (by omega) (by omega) (by omega),drun_p hD (by omega) (by omega) (by omega),hrun,hrun,ll_eq,nxt_len,cm_eql,cm_eql,sc_eql,ar_add (by omega) (by omega),works18]
     have e1:(decide (w=s))=decide (s.data.toList=w.data.toList):=by
      rw [decide_eq_decide,data_inj]
      exact eq_comm
     rw [e1,hlen]
     simp [conj]
   · by_cases h2:(w.size:Int)≤1024
     · rw [if_pos (by omega),if_pos h2,Option.bind_some,_root_.cond_true,works18]
       rfl
     · by_cases h3:(2000:Int)<w.size
       · rw [if_pos (by omega),if_neg h2,if_pos h3,Option.bind_some,_root_.cond_true,works18]
         rfl
       · have e:dfa_Word_g 6000 w=some (⟨0,[],[],[]⟩,3):=by
          unfold dfa_Word_g
          simp only [sl_eq,cm_gtr,cond_dec]
          rw [if_pos (by omega)]
         rw [if_pos (by omega),if_neg h2,if_neg h3,Option.bind_some,decide_eq_false (by omega),_root_.cond_false,e,Option.bind_some]
         simp only
         rw [if_pos (by omega),works18]
         rfl
 · have hs':decide ((100:Int)<s.size)=true:=decide_eq_true (by omega)
   rw [hs']
   have:((if (100:Int)<w.size then if (w.size:Int)≤1024 then some true else if (2000:Int)<w.size then some true else some true else if (2000:Int)<w.size then some true else some true):Option Bool)=some true:=by
    split<;>(try split)<;>(try split)<;>rfl
   rw [this,Option.bind_some,_root_.cond_true,works18]
   rfl
end Dq
end Go.Proofs.YtjhbgkakhaonaaaGreatDoor
