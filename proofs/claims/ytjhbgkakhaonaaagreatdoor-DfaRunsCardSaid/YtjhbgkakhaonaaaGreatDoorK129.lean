/- Texts that the proof leans on. -/
import Derived.Test.YtjhbgkakhaonaaaGreatDoorK128
set_option linter.unusedVariables false
set_option linter.unusedSimpArgs false
set_option maxRecDepth 100000
set_option maxHeartbeats 4000000
namespace Go.Proofs.YtjhbgkakhaonaaaGreatDoor
open Go
open Sh Gn
namespace Dq
def inR (many:Int) (x:Int):Bool:= !(decide (x<0))&&decide (x<many)
def dR (d:GDfa):Bool:=
 !(decide ((d.Next.length:Int)<1))&&(!(decide (4096<(d.Next.length:Int)))&&(decide ((d.Final.length:Int)=d.Next.length)&&(!(decide (d.Start<0))&&(decide (d.Start<(d.Next.length:Int))&&
   (decide (0<wide d.Block)&&d.Next.all fun r=>decide ((r.length:Int)=wide d.Block)&&r.all (inR d.Next.length))))))
structure LowD (d:GDfa):Prop where
 next:d.Next.length≤4200
 final:d.Final.length≤5000
 block:d.Block.length≤1000
 each:∀l∈d.Next,l.length≤1000
variable {d:GDfa}
theorem dright_l4 (hd:LowD d) {r:List Int} (hr:r.length≤1000):∀(m i:Nat),i≤r.length→r.length<i+m→dfa_Right_l4 d r m i=some (!(r.drop i).all (inR d.Next.length)):=by
 intro m
 induction m with
 | zero=>intro i h1 h2;omega
 | succ m ih=>
   intro i h1 h2
   rw [dfa_Right_l4]
   simp only [cm_lss,ll_eq,cond_dec,cm_geq]
   by_cases c:i<r.length
   · rw [if_pos (by omega),at_in c,List.drop_eq_getElem_cons c,List.all_cons]
     simp only [Option.bind_some,inc1 (show i≤100000000 by omega),inR]
     have h0:(0:Int)≤i:=by omega
     by_cases g:r[i]<0
     · simp only [g,if_true,Option.bind_some,_root_.cond_true,h0,decide_true,Bool.not_true,Bool.false_and,Bool.not_false]
     · by_cases g2:r[i]<d.Next.length
       · have g3:¬(d.Next.length:Int)≤r[i]:=by omega
         simp only [g,g2,g3,if_false,Option.bind_some,decide_false,decide_true,_root_.cond_false,Bool.not_false,Bool.true_and]
         exact ih (i+1) (by omega) (by omega)
       · have g3:(d.Next.length:Int)≤r[i]:=by omega
         simp only [g,g2,g3,if_false,Option.bind_some,decide_false,decide_true,_root_.cond_true,Bool.not_false,Bool.true_and,h0,Bool.false_and]
   · rw [if_neg (by omega),List.drop_of_length_le (by omega)]
     rfl
theorem dright_l1 (hd:LowD d) {N:Nat} (hN:5000≤N) (a:Int) (ha: -1000≤a∧a≤1000):∀(m i:Nat),i≤d.Next.length→d.Next.length<i+m→dfa_Right_l1 N d a m i=some (decide (0<a)&&(d.Next.drop i).all fun r=>decide ((r.length:Int)=a)&&r.all (inR d.Next.length)):=by
 intro m
 induction m with
 | zero=>intro i h1 h2;omega
 | succ m ih=>
   intro i h1 h2
   have:=hd.next
   rw [dfa_Right_l1]
   simp only [cm_lss,ll_eq,cond_dec,cm_gtr,cm_neq,cond_not]
   by_cases c:i<d.Next.length
   · have hl:=hd.each d.Next[i] (List.getElem_mem c)
     rw [if_pos (by omega),at_in c,List.drop_eq_getElem_cons c,List.all_cons]
     simp only [Option.bind_some,inc1 (show i≤100000000 by omega)]
     by_cases g:(d.Next[i].length:Int)=a
     · have h4:=dright_l4 hd hl N 0 (by omega) (by omega)
       rw [List.drop_zero] at h4
       have h4':dfa_Right_l4 d d.Next[i] N 0=some (!d.Next[i].all (inR d.Next.length)):=h4
       simp only [g,if_true,h4',Option.bind_some,cond_not,decide_true,Bool.true_and]
       cases d.Next[i].all (inR d.Next.length) with
       | true=>simp only [_root_.cond_true,Bool.true_and];exact ih (i+1) (by omega) (by omega)
       | false=>simp only [_root_.cond_false,Bool.false_and,Bool.and_false]
     · simp only [g,if_false,Option.bind_some,_root_.cond_true,decide_false,Bool.false_and,Bool.and_false]
   · rw [if_neg (by omega),List.drop_of_length_le (by omega)]
     simp
theorem wide_le (b:List Int):0≤wide b∧wide b≤256:=by
 unfold wide
 split
 · rename_i h
   have h1:=bR_in h
   simp only [bR,Bool.and_eq_true] at h
   have h2:=rg_cnt (by omega) h.1
   omega
 · omega
theorem dright_p (hd:LowD d) {N:Nat} (hN:5000≤N):dfa_Right_g N d=some (dR d):=by
 have hw:=wide_le d.Block
 have:=hd.next
 unfold dfa_Right_g dR
 simp only [cm_lss,ll_eq,cond_dec,cm_gtr,cm_neq,cm_geq,cond_not,bcount_p hd.block (show 1001≤N by omega),Option.bind_some,if_bind]
 by_cases g1:(d.Next.length:Int)<1
 · simp only [g1,if_true,decide_true,Bool.not_true,Bool.false_and,_root_.cond_true]
 by_cases g2:4096<(d.Next.length:Int)
 · simp only [g1,g2,if_true,if_false,decide_true,decide_false,Bool.not_true,Bool.not_false,Bool.true_and,Bool.false_and,_root_.cond_true]
 by_cases g3:(d.Final.length:Int)=d.Next.length
 · by_cases g4:d.Start<0
   · simp only [g1,g2,g3,g4,if_true,if_false,decide_true,decide_false,Bool.not_true,Bool.not_false,Bool.true_and,Bool.false_and,_root_.cond_true]
   · by_cases g5:d.Start<(d.Next.length:Int)
     · have g6:¬(d.Next.length:Int)≤d.Start:=by omega
       simp only [g1,g2,g3,g4,g5,g6,if_true,if_false,decide_true,decide_false,Bool.not_false,Bool.true_and,_root_.cond_false]
       have:=dright_l1 hd hN (wide d.Block) (by omega) N 0 (by omega) (by omega)
       rw [List.drop_zero] at this
       exact this
     · have g6:(d.Next.length:Int)≤d.Start:=by omega
       simp only [g1,g2,g3,g4,g5,g6,if_true,if_false,decide_true,decide_false,Bool.not_false,Bool.true_and,Bool.false_and,_root_.cond_true]
 · simp only [g1,g2,g3,if_true,if_false,decide_true,decide_false,Bool.not_false,Bool.true_and,Bool.false_and,_root_.cond_true]
theorem rdright_l2 (hd:LowD d) {k:Int→Option Bool} {a:Int} {v:Nat} (hv:v<d.Next.length) (ha:(d.Next[v].length:Int)=a) (ha2:a≤1000):∀(m i:Nat),(i:Int)≤a→a<i+m→r18_Right_l2 k d a v m i=if (d.Next[v].drop i).all (inR d.Next.length)=true then k ((v+1:Nat):Int) else some false:=by
 intro m
 induction m with
 | zero=>intro i h1 h2;omega
 | succ m ih=>
   intro i h1 h2
   have:=hd.next
   rw [r18_Right_l2]
   simp only [cm_lss,ll_eq,cond_dec,cm_geq]
   by_cases c:i<d.Next[v].length
   · rw [if_pos (by omega),at_in hv]
     simp only [Option.bind_some]
     rw [at_in c,List.drop_eq_getElem_cons c,List.all_cons]
     simp only [Option.bind_some,inc1 (show i≤100000000 by omega),inR]
     by_cases g:d.Next[v][i]<0
     · simp only [g,if_true,Option.bind_some,_root_.cond_true,decide_true,Bool.not_true,Bool.false_and]
       rfl
     · by_cases g2:d.Next[v][i]<d.Next.length
       · have g3:¬(d.Next.length:Int)≤d.Next[v][i]:=by omega
         simp only [g,g2,g3,if_false,Option.bind_some,decide_false,decide_true,_root_.cond_false,Bool.not_false,Bool.true_and]
         exact ih (i+1) (by omega) (by omega)
       · have g3:(d.Next.length:Int)≤d.Next[v][i]:=by omega
         simp only [g,g2,g3,if_false,Option.bind_some,decide_false,decide_true,_root_.cond_true,Bool.not_false,Bool.true_and,Bool.false_and]
         rfl
   · rw [if_neg (by omega),List.drop_of_length_le (by omega),inc1 (by omega)]
     simp
theorem rdright_l1 (hd:LowD d) {N:Nat} (hN:5000≤N) (a:Int) (ha:1≤a∧a≤1000):∀(m i:Nat),i≤d.Next.length→d.Next.length<i+m→r18_Right_l1 N d a m i=some ((d.Next.drop i).all fun r=>decide ((r.length:Int)=a)&&r.all (inR d.Next.length)):=by
 intro m
 induction m with
 | zero=>intro i h1 h2;omega
 | succ m ih=>
   intro i h1 h2
   have:=hd.next
   rw [r18_Right_l1]
   simp only [cm_lss,ll_eq,cond_dec,cm_neq,cond_not]
   by_cases c:i<d.Next.length
   · rw [if_pos (by omega),at_in c,List.drop_eq_getElem_cons c,List.all_cons]
     simp only [Option.bind_some]
     by_cases g:(d.Next[i].length:Int)=a
     · have h2:=rdright_l2 hd (k:=r18_Right_l1 N d a m) c g (by omega) N 0 (by omega) (by omega)
       rw [List.drop_zero] at h2
       have h2':r18_Right_l2 (r18_Right_l1 N d a m) d a i N 0=if d.Next[i].all (inR d.Next.length)=true then r18_Right_l1 N d a m ((i+1:Nat):Int) else some false:=h2
       rw [if_pos g,h2']
       simp only [g,decide_true,Bool.true_and]
       cases d.Next[i].all (inR d.Next.length) with
       | true=>simp only [if_true,Bool.true_and];exact ih (i+1) (by omega) (by omega)
       | false=>simp
     · simp only [g,if_false,decide_false,Bool.false_and]
   · rw [if_neg (by omega),List.drop_of_length_le (by omega)]
     simp
theorem rdright_p (hd:LowD d) {N:Nat} (hN:5000≤N):r18_Right_g N d=some (dR d):=by
 have hw:=wide_le d.Block
 have:=hd.next
 unfold r18_Right_g dR
 simp only [cm_lss,ll_eq,cond_dec,cm_gtr,cm_neq,cm_geq,cond_not,rbcount_p hd.block (show 1001≤N by omega),Option.bind_some,if_bind]
 by_cases g1:(d.Next.length:Int)<1
 · simp only [g1,if_true,decide_true,Bool.not_true,Bool.false_and,_root_.cond_true]
 by_cases g2:4096<(d.Next.length:Int)
 · simp only [g1,g2,if_true,if_false,decide_true,decide_false,Bool.not_true,Bool.not_false,Bool.true_and,Bool.false_and,_root_.cond_true]
 by_cases g3:(d.Final.length:Int)=d.Next.length
 · by_cases g4:d.Start<0
   · simp only [g1,g2,g3,g4,if_true,if_false,decide_true,decide_false,Bool.not_true,Bool.not_false,Bool.true_and,Bool.false_and,_root_.cond_true]
   · by_cases g5:d.Start<(d.Next.length:Int)
     · have g6:¬(d.Next.length:Int)≤d.Start:=by omega
       by_cases g7:wide d.Block<1
       · have g8:¬ 0<wide d.Block:=by omega
         simp only [g1,g2,g3,g4,g5,g6,g7,g8,if_true,if_false,decide_true,decide_false,Bool.not_false,Bool.true_and,Bool.false_and,_root_.cond_true]
       · have g8:0<wide d.Block:=by omega
         simp only [g1,g2,g3,g4,g5,g6,g7,g8,if_true,if_false,decide_true,decide_false,Bool.not_false,Bool.true_and,_root_.cond_false]
         have:=rdright_l1 hd hN (wide d.Block) (by omega) N 0 (by omega) (by omega)
         rw [List.drop_zero] at this
         exact this
     · have g6:(d.Next.length:Int)≤d.Start:=by omega
       simp only [g1,g2,g3,g4,g5,g6,if_true,if_false,decide_true,decide_false,Bool.not_false,Bool.true_and,Bool.false_and,_root_.cond_true]
 · simp only [g1,g2,g3,if_true,if_false,decide_true,decide_false,Bool.not_false,Bool.true_and,Bool.false_and,_root_.cond_true]
end Dq
end Go.Proofs.YtjhbgkakhaonaaaGreatDoor
namespace Go.Proofs.YtjhbgkakhaonaaaGreatDoor
open Go
open Sh Gn
namespace Dq
theorem works18:l18_works_g 6000=some true:=by decide+kernel
variable {d:GDfa}
def stp (d:GDfa) (at0:Int) (b:UInt8):Int:=(d.Next.getD at0.toNat []).getD (d.Block.getD b.toNat 0).toNat 0
def runs (d:GDfa):Int→List UInt8→Int:=List.foldl (stp d)
def stateS (d:GDfa) (s:List UInt8):Int:=if dR d=true then runs d d.Start s else-1
def runB (d:GDfa) (s:List UInt8):Bool:=dR d&&d.Final.getD (runs d d.Start s).toNat false
structure Fct (d:GDfa):Prop where
 n1:1≤d.Next.length
 n2:d.Next.length≤4096
 fin:d.Final.length=d.Next.length
 s0:0≤d.Start
 s1:d.Start<d.Next.length
 blk:bR d.Block=true
 row:∀r∈d.Next,(r.length:Int)=wide d.Block∧∀x∈r,0≤x∧x<d.Next.length
theorem dR_fct (h:dR d=true):Fct d:=by
 simp only [dR,Bool.and_eq_true,Bool.not_eq_true',decide_eq_false_iff_not,decide_eq_true_eq,List.all_eq_true,inR] at h
 obtain ⟨h1,h2,h3,h4,h5,h6,h7⟩:=h
 refine ⟨by omega,by omega,by omega,by omega,h5,?_,fun r hr=>⟨(h7 r hr).1,fun x hx=>by have:=(h7 r hr).2 x hx;omega⟩⟩
 cases hb:bR d.Block with
 | true=>rfl
 | false=>unfold wide at h6;rw [hb] at h6;simp at h6
theorem stp_in (F:Fct d) {a:Int} (h0:0≤a) (h1:a<d.Next.length) (b:UInt8):∃r k,at_ d.Next a=some r∧at_ d.Block (b.toNat:Int)=some k∧at_ r k=some (stp d a b)∧0≤stp d a b∧stp d a b<d.Next.length:=by
 obtain ⟨r,hr,hr2⟩:=at_int (l:=d.Next) h0 h1
 obtain ⟨hl,hk⟩:=bR_in F.blk
 have hb:b.toNat<256:=b.toNat_lt
 obtain ⟨k,q1,q2⟩:=at_int (l:=d.Block) (x:=(b.toNat:Int)) (by omega) (by omega)
 rw [Int.toNat_natCast] at q2
 have hrm:=F.row r (List.mem_of_getElem? hr2)
 have hkm:=hk k (List.mem_of_getElem? q2)
 obtain ⟨y,q3,q4⟩:=at_int (l:=r) (x:=k) (by omega) (by omega)
 have e:stp d a b=y:=by
  unfold stp
  rw [List.getD_eq_getElem?_getD,List.getD_eq_getElem?_getD,List.getD_eq_getElem?_getD,hr2,q2]
  simp only [Option.getD_some]
  rw [q4]
  rfl
 have hy:=hrm.2 y (List.mem_of_getElem? q4)
 exact ⟨r,k,hr,q1,by rw [e];exact q3,by omega,by omega⟩
theorem runs_in (F:Fct d):∀(s:List UInt8) {a:Int},0≤a→a<d.Next.length→0≤runs d a s∧runs d a s<d.Next.length
 | [],a,h0,h1=>⟨h0,h1⟩
 | b::s,a,h0,h1=>by
   obtain ⟨r,k,-,-,-,h2,h3⟩:=stp_in F h0 h1 b
   exact runs_in F s h2 h3
theorem sa_at {s:ByteArray} {i:Nat} (h:i<s.size):sinB s (i:Int)=true∧sa s (i:Int)=((s.data.toList[i]'(by simpa using h)).toNat:Int):=by
 refine ⟨by simp [sinB,h],?_⟩
 show ((s.data.getD ((i:Int)).toNat 0).toNat:Int)=_
 rw [Int.toNat_natCast]
 simp [Array.getD,h]
theorem dstate_l (F:Fct d) {s:ByteArray} (hs:s.size≤10000):∀(m i:Nat) (a:Int),0≤a→a<d.Next.length→i≤s.size→s.size<i+m→dfa_State_l1 d s m a i=some (runs d a (s.data.toList.drop i)):=by
 intro m
 induction m with
 | zero=>intro i a h1 h2 h3;omega
 | succ m ih=>
   intro i a h1 h2 h3 h4
   rw [dfa_State_l1]
   simp only [cm_lss,sl_eq,cond_dec]
   by_cases c:i<s.size
   · obtain ⟨e1,e2⟩:=sa_at c
     obtain ⟨r,k,q1,q2,q3,q4,q5⟩:=stp_in F h1 h2 (s.data.toList[i]'(by simpa using c))
     rw [if_pos (by omega),q1,e1,e2]
     simp only [Option.bind_some,_root_.cond_true,q2,q3,inc1 (show i≤100000000 by omega)]
     rw [List.drop_eq_getElem_cons (show i<s.data.toList.length by simpa using c)]
     exact ih (i+1) _ q4 q5 (by omega) (by omega)
   · rw [if_neg (by omega),List.drop_of_length_le (by simp;omega)]
     rfl
theorem rdstate_l (F:Fct d) {s:ByteArray} (hs:s.size≤10000):∀(m i:Nat) (a:Int),0≤a→a<d.Next.length→i≤s.size→s.size<i+m→r18_State_l1 d s m a i=some (runs d a (s.data.toList.drop i)):=by
 intro m
 induction m with
 | zero=>intro i a h1 h2 h3;omega
 | succ m ih=>
   intro i a h1 h2 h3 h4
   rw [r18_State_l1]
   simp only [cm_lss,sl_eq,cond_dec]
   by_cases c:i<s.size
   · obtain ⟨e1,e2⟩:=sa_at c
     obtain ⟨r,k,q1,q2,q3,q4,q5⟩:=stp_in F h1 h2 (s.data.toList[i]'(by simpa using c))
     have hb:=(s.data.toList[i]'(by simpa using c)).toNat_lt
     rw [if_pos (by omega),q1,e1,e2,cv_i64 (by omega) (by omega)]
     simp only [Option.bind_some,_root_.cond_true,q2,q3,inc1 (show i≤100000000 by omega)]
     rw [List.drop_eq_getElem_cons (show i<s.data.toList.length by simpa using c)]
     exact ih (i+1) _ q4 q5 (by omega) (by omega)
   · rw [if_neg (by omega),List.drop_of_length_le (by simp;omega)]
     rfl
variable {s:ByteArray} {N:Nat}
theorem dstate_p (hd:LowD d) (hN:5000≤N) (hs:s.size<N) (hs2:s.size≤10000):dfa_State_g N d s=some (stateS d s.data.toList):=by
 unfold dfa_State_g stateS
 rw [dright_p hd hN,Option.bind_some,cond_not]
 cases h:dR d with
 | false=>rfl
 | true=>
   have F:=dR_fct h
   rw [_root_.cond_true,if_pos rfl]
   exact dstate_l F hs2 N 0 _ F.s0 F.s1 (by omega) (by omega)
theorem rdstate_p (hd:LowD d) (hN:5000≤N) (hs:s.size<N) (hs2:s.size≤10000):r18_State_g N d s=some (stateS d s.data.toList):=by
 unfold r18_State_g stateS
 rw [rdright_p hd hN,Option.bind_some,cond_not]
 cases h:dR d with
 | false=>rfl
 | true=>
   have F:=dR_fct h
   rw [_root_.cond_true,if_pos rfl]
   exact rdstate_l F hs2 N 0 _ F.s0 F.s1 (by omega) (by omega)
theorem final_at:(cond (cm .geq (stateS d s.data.toList) 0) ((at_ d.Final (stateS d s.data.toList)).bind fun r2=>some r2) (some false):Option Bool)=some (runB d s.data.toList):=by
 unfold stateS runB
 cases h:dR d with
 | false=>rfl
 | true=>
   have F:=dR_fct h
   obtain ⟨h1,h2⟩:=runs_in F s.data.toList F.s0 F.s1
   obtain ⟨y,q1,q2⟩:=at_int (l:=d.Final) h1 (by rw [F.fin];exact h2)
   simp only [if_true,cm_geq,cond_dec]
   rw [if_pos h1,q1,List.getD_eq_getElem?_getD,q2]
   rfl
theorem drun_p (hd:LowD d) (hN:5000≤N) (hs:s.size<N) (hs2:s.size≤10000):dfa_Run_g N d s=some (runB d s.data.toList):=by
 unfold dfa_Run_g
 rw [dstate_p hd hN hs hs2,Option.bind_some,final_at]
 rfl
theorem rdrun_p (hd:LowD d) (hN:5000≤N) (hs:s.size<N) (hs2:s.size≤10000):r18_Run_g N d s=some (runB d s.data.toList):=by
 unfold r18_Run_g
 rw [rdstate_p hd hN hs hs2,Option.bind_some,final_at]
 rfl
theorem great_l (hl:d.Next.length≤60):∀(m i:Nat),i≤d.Next.length→d.Next.length<i+m→l18_Great_l1 d m i=some !((d.Next.drop i).all fun r=> !decide (260<(r.length:Int))):=by
 intro m
 induction m with
 | zero=>intro i h1 h2;omega
 | succ m ih=>
   intro i h1 h2
   rw [l18_Great_l1]
   simp only [cm_lss,ll_eq,cond_dec,cm_gtr]
   by_cases c:i<d.Next.length
   · rw [if_pos (by omega),at_in c,List.drop_eq_getElem_cons c,List.all_cons]
     simp only [Option.bind_some,inc1 (show i≤100000000 by omega)]
     by_cases g:260<(d.Next[i].length:Int)
     · simp only [g,if_true,decide_true,Bool.not_true,Bool.false_and,Bool.not_false]
     · simp only [g,if_false,decide_false,Bool.not_false,Bool.true_and]
       exact ih (i+1) (by omega) (by omega)
   · rw [if_neg (by omega),List.drop_of_length_le (by omega)]
     rfl
theorem dfaruns_p (d:GDfa) (s:ByteArray):l18_DfaRuns_g 6000 d s=some true:=by
 have hw:=works18
 generalize hN:6000=N at hw ⊢
 have hN':5000≤N:=by omega
 unfold l18_DfaRuns_g l18_Great_g
 simp only [cm_gtr,ll_eq,cond_dec,sl_eq,if_bind,Option.bind_some,_root_.cond_true,_root_.cond_false]
 by_cases h1:(60:Int)<d.Next.length
 · simp only [h1,if_true,decide_true,Option.bind_some,_root_.cond_true,hw]
 by_cases h2:(60:Int)<d.Final.length
 · simp only [h1,h2,if_true,if_false,decide_true,Option.bind_some,_root_.cond_true,hw]
 by_cases h3:(300:Int)<d.Block.length
 · simp only [h1,h2,h3,if_true,if_false,decide_true,Option.bind_some,_root_.cond_true,hw]
 have hg:=great_l (d:=d) (by omega) N 0 (by omega) (by omega)
 rw [List.drop_zero] at hg
 have hg':l18_Great_l1 d N 0=_:=hg
 simp only [h1,h2,h3,if_false,decide_false,_root_.cond_false,hg',Option.bind_some,cond_not]
 cases ha:(d.Next.all fun r=> !decide (260<(r.length:Int))) with
 | false=>simp only [_root_.cond_false,Option.bind_some,_root_.cond_true,hw]
 | true=>
   simp only [_root_.cond_true,Option.bind_some]
   by_cases h4:(60:Int)<s.size
   · simp only [h4,decide_true,_root_.cond_true,hw,Option.bind_some]
   · have hd:LowD d:=⟨by omega,by omega,by omega,fun l hl=>by
      have:=List.all_eq_true.1 ha l hl
      simp at this
      omega⟩
     have hs:s.size<N:=by omega
     have hs2:s.size≤10000:=by omega
     have c1:conj [dR d==dR d]=true:=by simp [conj]
     have c2:conj [runB d s.data.toList==runB d s.data.toList]=true:=by simp [conj]
     simp only [h4,decide_false,_root_.cond_false,dright_p hd hN',rdright_p hd hN',dstate_p hd hN' hs hs2,rdstate_p hd hN' hs hs2,drun_p hd hN' hs hs2,rdrun_p hd hN' hs hs2,Option.bind_some,c1,c2,_root_.cond_true,cm_eql,decide_true,hw]
end Dq
end Go.Proofs.YtjhbgkakhaonaaaGreatDoor
namespace Go.Proofs.YtjhbgkakhaonaaaGreatDoor
open Go Go.RowKit
open Ab Sh
namespace Gn
theorem l18_Great_w {N:Nat} {p0:GDfa} {r:Bool} (h:l18_Great_g N p0=some r):FunS Tryz.prog 7 [.agg [fI .i64 p0.Start,.t (.slc (rw _ cB p0.Final)),.t (.slc (rw _ (cI .i64) p0.Block)),.t (.slc (rw _ (cLs (cI .i64)) p0.Next))]] (l18_Great_s rw) r:=by
 refine fun_w lay_ok Tryz.call7 Tryz.func7 rfl ?_
 intro A W E Q R hE hR hf hQ;rcases W with ⟨ar,cm,conj,cv,sl,sc,ct,sa,ss,ll,_,_,_,_,mi,mx,_,_,_,_,_⟩
 rw [←hR]
 unfold l18_Great_g at h
 rw [q_cm hE,q_ll hE,←hR] at h
 cbv
 refine L_rgJ hE lay_ok h 1 (fun j1:Bool=>[(19,fB j1)]) (fun j1=>[]) (fun j1 h=>?_) (fun j1 h=>?_)<;>cbv
 · refine L_if hE h (fun h=>?_) (fun h=>?_)<;>cbv
   · cases h;(cbv;(try simp only [e_rnil hR]);repeat' (first | exact trivial | exact rfl | exact Or.inr trivial | apply And.intro))
   refine L_if hE h (fun h=>?_) (fun h=>?_)<;>cbv
   · cases h;(cbv;(try simp only [e_rnil hR]);repeat' (first | exact trivial | exact rfl | exact Or.inr trivial | apply And.intro))
   cases h;(cbv;(try simp only [e_rnil hR]);repeat' (first | exact trivial | exact rfl | exact Or.inr trivial | apply And.intro))
 refine L_if hE h (fun h=>?_) (fun h=>?_)<;>cbv
 · exact And.left (hQ _ _ _ rfl rfl (by cases h;subst hR;rfl))
 refine L_for hE lay_ok 1 (fun g:Int × Nat=>[(2,fB false),(3,fI .i64 g.1)]) (fun g=>[]) (fun g=>l18_Great_l1 p0 g.2 g.1=some r) (fun g=>g.2) (_,N) h ?_ ?_
 · (cbv;(try simp only [e_rnil hR]);repeat' (first | exact trivial | exact rfl | exact Or.inr trivial | apply And.intro))
 rintro ⟨v1,m1⟩ h Q1 hN1 hT1 hX1
 have h:l18_Great_l1 p0 m1 v1=some r:=h
 cases m1 with
 | zero=>exact nomatch (show (none:Option _)=some _ from h)
 | succ m1=>
 rw [l18_Great_l1] at h
 rw [q_ar hE,q_cm hE,q_ll hE,←hR] at h
 cbv
 refine L_if hE h (fun h=>?_) (fun h=>?_)<;>cbv
 · refine L_rowL hE hR h fun r2 h=>?_;cbv
   refine L_if hE h (fun h=>?_) (fun h=>?_)<;>cbv
   · refine hT1 _ ?_
     exact And.left (hQ _ _ _ rfl rfl (by cases h;subst hR;rfl))
   refine hN1 _ (_,m1) [] h (Nat.lt_succ_self _) trivial ?_;(cbv;(try simp only [e_rnil hR]);repeat' (first | exact trivial | exact rfl | exact Or.inr trivial | apply And.intro))
 refine hX1 _ _ ?_;cbv
 exact And.left (hQ _ _ _ rfl rfl (by cases h;subst hR;rfl))
theorem blocks_Right_w {N:Nat} {p0:List Int} {r:Bool} (h:blocks_Right_g N p0=some r):FunS Tryz.prog 57 [.t (.slc (rw _ (cI .i64) p0))] (blocks_Right_s rw) r:=by
 refine fun_w lay_ok Tryz.call57 Tryz.func57 rfl ?_
 intro A W E Q R hE hR hf hQ;rcases W with ⟨ar,cm,conj,cv,sl,sc,ct,sa,ss,ll,_,_,_,_,mi,mx,_,_,_,_,_⟩
 rw [←hR]
 unfold blocks_Right_g at h
 skip
 cbv
 refine L_for hE lay_ok 0 (fun g:Int × Int × Nat=>[(2,fB false),(3,fI .i64 g.1),(8,fI .i64 g.2.1)]) (fun g=>[]) (fun g=>blocks_Right_l1 p0 g.2.2 g.1 g.2.1=some r) (fun g=>g.2.2) (_,_,N) h ?_ ?_
 · (cbv;(try simp only [e_rnil hR]);repeat' (first | exact trivial | exact rfl | exact Or.inr trivial | apply And.intro))
 rintro ⟨v1,v2,m1⟩ h Q1 hN1 hT1 hX1
 have h:blocks_Right_l1 p0 m1 v1 v2=some r:=h
 cases m1 with
 | zero=>exact nomatch (show (none:Option _)=some _ from h)
 | succ m1=>
 rw [blocks_Right_l1] at h
 rw [q_ar hE,q_cm hE,q_ll hE,←hR] at h
 cbv
 refine L_if hE h (fun h=>?_) (fun h=>?_)<;>cbv
 · refine L_row hE hR h fun r3 h=>?_;cbv
   refine L_rgJ hE lay_ok h 0 (fun j3:Bool=>[(18,fB j3)]) (fun j3=>[]) (fun j3 h=>?_) (fun j3 h=>?_)<;>cbv
   · refine L_if hE h (fun h=>?_) (fun h=>?_)<;>cbv
     · cases h;(cbv;(try simp only [e_rnil hR]);repeat' (first | exact trivial | exact rfl | exact Or.inr trivial | apply And.intro))
     cases h;(cbv;(try simp only [e_rnil hR]);repeat' (first | exact trivial | exact rfl | exact Or.inr trivial | apply And.intro))
   refine L_if hE h (fun h=>?_) (fun h=>?_)<;>cbv
   · refine hT1 _ ?_
     exact And.left (hQ _ _ _ rfl rfl (by cases h;subst hR;rfl))
   refine L_cdJ hE lay_ok h 0 (fun j4:Int=>[(3,fI .i64 j4)]) (fun j4=>[]) (fun j4 h=>?_) (fun j4 h=>?_)<;>cbv
   · refine L_if hE h (fun h=>?_) (fun h=>?_)<;>cbv
     · cases h;(cbv;(try simp only [e_rnil hR]);repeat' (first | exact trivial | exact rfl | exact Or.inr trivial | apply And.intro))
     cases h;(cbv;(try simp only [e_rnil hR]);repeat' (first | exact trivial | exact rfl | exact Or.inr trivial | apply And.intro))
   refine hN1 _ (_,_,m1) [] h (Nat.lt_succ_self _) trivial ?_;(cbv;(try simp only [e_rnil hR]);repeat' (first | exact trivial | exact rfl | exact Or.inr trivial | apply And.intro))
 refine hX1 _ _ ?_;cbv
 exact And.left (hQ _ _ _ rfl rfl (by cases h;subst hR;rfl))
theorem blocks_Count_w {N:Nat} {p0:List Int} {r:Int} (h:blocks_Count_g N p0=some r):FunS Tryz.prog 25 [.t (.slc (rw _ (cI .i64) p0))] (blocks_Count_s rw) r:=by
 refine fun_w lay_ok Tryz.call25 Tryz.func25 rfl ?_
 intro A W E Q R hE hR hf hQ;rcases W with ⟨ar,cm,conj,cv,sl,sc,ct,sa,ss,ll,_,_,_,_,mi,mx,_,_,_,_,_⟩
 rw [←hR]
 unfold blocks_Count_g at h
 skip
 cbv
 refine L_call hE hR h (fun _ e=>blocks_Right_w e) (by subst hR;rfl) rfl fun a1 h=>?_;cbv
 refine L_if hE h (fun h=>?_) (fun h=>?_)<;>cbv
 · exact And.left (hQ _ _ _ rfl rfl (by cases h;subst hR;rfl))
 refine L_for hE lay_ok 0 (fun g:Int × Int × Nat=>[(3,fI .i64 g.1),(11,fI .i64 g.2.1)]) (fun g=>[]) (fun g=>blocks_Count_l1 p0 g.2.2 g.1 g.2.1=some r) (fun g=>g.2.2) (_,_,N) h ?_ ?_
 · (cbv;(try simp only [e_rnil hR]);repeat' (first | exact trivial | exact rfl | exact Or.inr trivial | apply And.intro))
 rintro ⟨v2,v3,m1⟩ h Q1 hN1 hT1 hX1
 have h:blocks_Count_l1 p0 m1 v2 v3=some r:=h
 cases m1 with
 | zero=>exact nomatch (show (none:Option _)=some _ from h)
 | succ m1=>
 rw [blocks_Count_l1] at h
 rw [q_ar hE,q_cm hE,q_ll hE,q_mx hE,←hR] at h
 cbv
 refine L_if hE h (fun h=>?_) (fun h=>?_)<;>cbv
 · refine L_row hE hR h fun r4 h=>?_;cbv
   refine hN1 _ (_,_,m1) [] h (Nat.lt_succ_self _) trivial ?_;(cbv;(try simp only [e_rnil hR]);repeat' (first | exact trivial | exact rfl | exact Or.inr trivial | apply And.intro))
 refine hX1 _ _ ?_;cbv
 exact And.left (hQ _ _ _ rfl rfl (by cases h;subst hR;rfl))
theorem dfa_Right_w {N:Nat} {p0:GDfa} {r:Bool} (h:dfa_Right_g N p0=some r):FunS Tryz.prog 9 [.agg [fI .i64 p0.Start,.t (.slc (rw _ cB p0.Final)),.t (.slc (rw _ (cI .i64) p0.Block)),.t (.slc (rw _ (cLs (cI .i64)) p0.Next))]] (dfa_Right_s rw) r:=by
 refine fun_w lay_ok Tryz.call9 Tryz.func9 rfl ?_
 intro A W E Q R hE hR hf hQ;rcases W with ⟨ar,cm,conj,cv,sl,sc,ct,sa,ss,ll,_,_,_,_,mi,mx,_,_,_,_,_⟩
 rw [←hR]
 unfold dfa_Right_g at h
 rw [q_cm hE,q_ll hE,←hR] at h
 cbv
 refine L_rgJ hE lay_ok h 2 (fun j1:Bool=>[(33,fB j1)]) (fun j1=>[]) (fun j1 h=>?_) (fun j1 h=>?_)<;>cbv
 · refine L_if hE h (fun h=>?_) (fun h=>?_)<;>cbv
   · cases h;(cbv;(try simp only [e_rnil hR]);repeat' (first | exact trivial | exact rfl | exact Or.inr trivial | apply And.intro))
   refine L_if hE h (fun h=>?_) (fun h=>?_)<;>cbv
   · cases h;(cbv;(try simp only [e_rnil hR]);repeat' (first | exact trivial | exact rfl | exact Or.inr trivial | apply And.intro))
   refine L_if hE h (fun h=>?_) (fun h=>?_)<;>cbv
   · cases h;(cbv;(try simp only [e_rnil hR]);repeat' (first | exact trivial | exact rfl | exact Or.inr trivial | apply And.intro))
   refine L_if hE h (fun h=>?_) (fun h=>?_)<;>cbv
   · cases h;(cbv;(try simp only [e_rnil hR]);repeat' (first | exact trivial | exact rfl | exact Or.inr trivial | apply And.intro))
   cases h;(cbv;(try simp only [e_rnil hR]);repeat' (first | exact trivial | exact rfl | exact Or.inr trivial | apply And.intro))
 refine L_if hE h (fun h=>?_) (fun h=>?_)<;>cbv
 · exact And.left (hQ _ _ _ rfl rfl (by cases h;subst hR;rfl))
 refine L_call hE hR h (fun _ e=>blocks_Count_w e) (by subst hR;rfl) rfl fun a1 h=>?_;cbv
 refine L_for hE lay_ok 2 (fun g:Int × Nat=>[(2,fB false),(40,fI .i64 g.1)]) (fun g=>[]) (fun g=>dfa_Right_l1 N p0 a1 g.2 g.1=some r) (fun g=>g.2) (_,N) h ?_ ?_
 · (cbv;(try simp only [e_rnil hR]);repeat' (first | exact trivial | exact rfl | exact Or.inr trivial | apply And.intro))
 rintro ⟨v2,m1⟩ h Q1 hN1 hT1 hX1
 have h:dfa_Right_l1 N p0 a1 m1 v2=some r:=h
 cases m1 with
 | zero=>exact nomatch (show (none:Option _)=some _ from h)
 | succ m1=>
 rw [dfa_Right_l1] at h
 rw [q_ar hE,q_cm hE,q_ll hE,←hR] at h
 cbv
 refine L_if hE h (fun h=>?_) (fun h=>?_)<;>cbv
 · refine L_rowL hE hR h fun r3 h=>?_;cbv
   refine L_rgJ hE lay_ok h 2 (fun j7:Bool=>[(52,fB j7)]) (fun j7=>[]) (fun j7 h=>?_) (fun j7 h=>?_)<;>cbv
   · refine L_if hE h (fun h=>?_) (fun h=>?_)<;>cbv
     · cases h;(cbv;(try simp only [e_rnil hR]);repeat' (first | exact trivial | exact rfl | exact Or.inr trivial | apply And.intro))
     refine L_keep hE lay_ok Tryz.call26 Tryz.func26 rfl ?_
     intro A2 E2 Q2 hE2 hf2 hQ2;cbv
     refine L_keep hE2 lay_ok Tryz.call58 Tryz.func58 rfl ?_
     intro A3 E3 Q3 hE3 hf3 hQ3;cbv
     refine L_for hE3 lay_ok 2 (fun g:Int × Nat=>[(4,fI .i64 0),(8,fI .i64 g.1)]) (fun g=>[]) (fun g=>dfa_Right_l4 p0 r3 g.2 g.1=some j7) (fun g=>g.2) (_,N) h ?_ ?_
     · (cbv;(try simp only [e_rnil hR]);repeat' (first | exact trivial | exact rfl | exact Or.inr trivial | apply And.intro))
     rintro ⟨v4,m4⟩ h Q4 hN4 hT4 hX4
     have h:dfa_Right_l4 p0 r3 m4 v4=some j7:=h
     cases m4 with
     | zero=>exact nomatch (show (none:Option _)=some _ from h)
     | succ m4=>
     rw [dfa_Right_l4] at h
     rw [q_ar hE,q_cm hE,q_ll hE,←hR] at h
     cbv
     refine L_if hE3 h (fun h=>?_) (fun h=>?_)<;>cbv
     · refine L_row hE3 hR h fun r5 h=>?_;cbv
       refine L_keep hE3 lay_ok Tryz.call27 Tryz.func27 rfl ?_
       intro A5 E5 Q5 hE5 hf5 hQ5;cbv
       refine L_rgJ hE5 lay_ok h 2 (fun j6:Bool=>[(3,fB j6)]) (fun j6=>[]) (fun j6 h=>?_) (fun j6 h=>?_)<;>cbv
       · refine L_if hE5 h (fun h=>?_) (fun h=>?_)<;>cbv
         · cases h;(cbv;(try simp only [e_rnil hR]);repeat' (first | exact trivial | exact rfl | exact Or.inr trivial | apply And.intro))
         cases h;(cbv;(try simp only [e_rnil hR]);repeat' (first | exact trivial | exact rfl | exact Or.inr trivial | apply And.intro))
       refine And.left (hQ5 _ _ rfl ?_);cbv
       refine L_if hE3 h (fun h=>?_) (fun h=>?_)<;>cbv
       · refine hT4 _ ?_
         refine And.left (hQ3 _ _ rfl ?_);cbv
         refine And.left (hQ2 _ _ rfl ?_);cbv
         cases h;(cbv;(try simp only [e_rnil hR]);repeat' (first | exact trivial | exact rfl | exact Or.inr trivial | apply And.intro))
       refine hN4 _ (_,m4) [] h (Nat.lt_succ_self _) trivial ?_;(cbv;(try simp only [e_rnil hR]);repeat' (first | exact trivial | exact rfl | exact Or.inr trivial | apply And.intro))
     refine hX4 _ _ ?_;cbv
     refine And.left (hQ3 _ _ rfl ?_);cbv
     refine And.left (hQ2 _ _ rfl ?_);cbv
     cases h;(cbv;(try simp only [e_rnil hR]);repeat' (first | exact trivial | exact rfl | exact Or.inr trivial | apply And.intro))
   refine L_if hE h (fun h=>?_) (fun h=>?_)<;>cbv
   · refine hT1 _ ?_
     exact And.left (hQ _ _ _ rfl rfl (by cases h;subst hR;rfl))
   refine hN1 _ (_,m1) [] h (Nat.lt_succ_self _) trivial ?_;(cbv;(try simp only [e_rnil hR]);repeat' (first | exact trivial | exact rfl | exact Or.inr trivial | apply And.intro))
 refine hX1 _ _ ?_;cbv
 exact And.left (hQ _ _ _ rfl rfl (by cases h;subst hR;rfl))
end Gn
end Go.Proofs.YtjhbgkakhaonaaaGreatDoor
namespace Go.Proofs.YtjhbgkakhaonaaaGreatDoor
open Go Go.RowKit
open Ab Sh
namespace Gn
theorem dfa_State_w {N:Nat} {p0:GDfa} {p1:ByteArray} {r:Int} (h:dfa_State_g N p0 p1=some r):FunS Tryz.prog 11 [.agg [fI .i64 p0.Start,.t (.slc (rw _ cB p0.Final)),.t (.slc (rw _ (cI .i64) p0.Block)),.t (.slc (rw _ (cLs (cI .i64)) p0.Next))],fS p1] (dfa_State_s rw) r:=by
 refine fun_w lay_ok Tryz.call11 Tryz.func11 rfl ?_
 intro A W E Q R hE hR hf hQ;rcases W with ⟨ar,cm,conj,cv,sl,sc,ct,sa,ss,ll,_,_,_,_,mi,mx,_,_,_,_,_⟩
 rw [←hR]
 unfold dfa_State_g at h
 skip
 cbv
 refine L_call hE hR h (fun _ e=>dfa_Right_w e) (by subst hR;rfl) rfl fun a1 h=>?_;cbv
 refine L_if hE h (fun h=>?_) (fun h=>?_)<;>cbv
 · exact And.left (hQ _ _ _ rfl rfl (by cases h;subst hR;rfl))
 refine L_for hE lay_ok 1 (fun g:Int × Int × Nat=>[(5,fI .i64 g.1),(14,fI .i64 g.2.1)]) (fun g=>[]) (fun g=>dfa_State_l1 p0 p1 g.2.2 g.1 g.2.1=some r) (fun g=>g.2.2) (_,_,N) h ?_ ?_
 · (cbv;(try simp only [e_rnil hR]);repeat' (first | exact trivial | exact rfl | exact Or.inr trivial | apply And.intro))
 rintro ⟨v2,v3,m1⟩ h Q1 hN1 hT1 hX1
 have h:dfa_State_l1 p0 p1 m1 v2 v3=some r:=h
 cases m1 with
 | zero=>exact nomatch (show (none:Option _)=some _ from h)
 | succ m1=>
 rw [dfa_State_l1] at h
 rw [q_ar hE,q_cm hE,q_sl hE,q_sa hE] at h
 cbv
 refine L_if hE h (fun h=>?_) (fun h=>?_)<;>cbv
 · refine L_whole hE lay_ok (by kernel_rfl) (by kernel_rfl) ?_;cbv
   refine L_rowL hE hR h fun r4 h=>?_;cbv
   refine L_sin hE h fun h=>?_
   refine L_row hE hR h fun r5 h=>?_;cbv
   refine L_row hE hR h fun r6 h=>?_;cbv
   refine hN1 _ (_,_,m1) [] h (Nat.lt_succ_self _) trivial ?_;(cbv;(try simp only [e_rnil hR]);repeat' (first | exact trivial | exact rfl | exact Or.inr trivial | apply And.intro))
 refine hX1 _ _ ?_;cbv
 exact And.left (hQ _ _ _ rfl rfl (by cases h;subst hR;rfl))
theorem dfa_Run_w {N:Nat} {p0:GDfa} {p1:ByteArray} {r:Bool} (h:dfa_Run_g N p0 p1=some r):FunS Tryz.prog 13 [.agg [fI .i64 p0.Start,.t (.slc (rw _ cB p0.Final)),.t (.slc (rw _ (cI .i64) p0.Block)),.t (.slc (rw _ (cLs (cI .i64)) p0.Next))],fS p1] (dfa_Run_s rw) r:=by
 refine fun_w lay_ok Tryz.call13 Tryz.func13 rfl ?_
 intro A W E Q R hE hR hf hQ;rcases W with ⟨ar,cm,conj,cv,sl,sc,ct,sa,ss,ll,_,_,_,_,mi,mx,_,_,_,_,_⟩
 rw [←hR]
 unfold dfa_Run_g at h
 rw [q_cm hE] at h
 cbv
 refine L_call hE hR h (fun _ e=>dfa_State_w e) (by subst hR;rfl) rfl fun a1 h=>?_;cbv
 refine L_rgJ hE lay_ok h 1 (fun j1:Bool=>[(4,fB j1)]) (fun j1=>[]) (fun j1 h=>?_) (fun j1 h=>?_)<;>cbv
 · refine L_if hE h (fun h=>?_) (fun h=>?_)<;>cbv
   · refine L_row hE hR h fun r2 h=>?_;cbv
     cases h;(cbv;(try simp only [e_rnil hR]);repeat' (first | exact trivial | exact rfl | exact Or.inr trivial | apply And.intro))
   cases h;(cbv;(try simp only [e_rnil hR]);repeat' (first | exact trivial | exact rfl | exact Or.inr trivial | apply And.intro))
 exact And.left (hQ _ _ _ rfl rfl (by cases h;subst hR;rfl))
theorem spots_rising_w {N:Nat} {p0:List Int} {p1:Int} {r:Bool} (h:spots_rising_g N p0 p1=some r):FunS Tryz.prog 60 [.t (.slc (rw _ (cI .i64) p0)),fI .i64 p1] (spots_rising_s rw) r:=by
 refine fun_w lay_ok Tryz.call60 Tryz.func60 rfl ?_
 intro A W E Q R hE hR hf hQ;rcases W with ⟨ar,cm,conj,cv,sl,sc,ct,sa,ss,ll,_,_,_,_,mi,mx,_,_,_,_,_⟩
 rw [←hR]
 unfold spots_rising_g at h
 skip
 cbv
 refine L_for hE lay_ok 0 (fun g:Int × Int × Nat=>[(4,fB false),(5,fI .i64 g.1),(10,fI .i64 g.2.1)]) (fun g=>[]) (fun g=>spots_rising_l1 p0 p1 g.2.2 g.1 g.2.1=some r) (fun g=>g.2.2) (_,_,N) h ?_ ?_
 · (cbv;(try simp only [e_rnil hR]);repeat' (first | exact trivial | exact rfl | exact Or.inr trivial | apply And.intro))
 rintro ⟨v1,v2,m1⟩ h Q1 hN1 hT1 hX1
 have h:spots_rising_l1 p0 p1 m1 v1 v2=some r:=h
 cases m1 with
 | zero=>exact nomatch (show (none:Option _)=some _ from h)
 | succ m1=>
 rw [spots_rising_l1] at h
 rw [q_ar hE,q_cm hE,q_ll hE,←hR] at h
 cbv
 refine L_if hE h (fun h=>?_) (fun h=>?_)<;>cbv
 · refine L_row hE hR h fun r3 h=>?_;cbv
   refine L_rgJ hE lay_ok h 0 (fun j2:Bool=>[(21,fB j2)]) (fun j2=>[]) (fun j2 h=>?_) (fun j2 h=>?_)<;>cbv
   · refine L_if hE h (fun h=>?_) (fun h=>?_)<;>cbv
     · cases h;(cbv;(try simp only [e_rnil hR]);repeat' (first | exact trivial | exact rfl | exact Or.inr trivial | apply And.intro))
     cases h;(cbv;(try simp only [e_rnil hR]);repeat' (first | exact trivial | exact rfl | exact Or.inr trivial | apply And.intro))
   refine L_if hE h (fun h=>?_) (fun h=>?_)<;>cbv
   · refine hT1 _ ?_
     exact And.left (hQ _ _ _ rfl rfl (by cases h;subst hR;rfl))
   refine hN1 _ (_,_,m1) [] h (Nat.lt_succ_self _) trivial ?_;(cbv;(try simp only [e_rnil hR]);repeat' (first | exact trivial | exact rfl | exact Or.inr trivial | apply And.intro))
 refine hX1 _ _ ?_;cbv
 exact And.left (hQ _ _ _ rfl rfl (by cases h;subst hR;rfl))
theorem spots_Right_w {N:Nat} {p0:GSpots} {r:Bool} (h:spots_Right_g N p0=some r):FunS Tryz.prog 29 [.agg [.t (.slc (rw _ cSet p0.Sets)),fB p0.None,.t (.slc (rw _ (cI .i64) p0.First)),.t (.slc (rw _ (cI .i64) p0.Last)),.t (.slc (rw _ (cLs (cI .i64)) p0.Next))]] (spots_Right_s rw) r:=by
 refine fun_w lay_ok Tryz.call29 Tryz.func29 rfl ?_
 intro A W E Q R hE hR hf hQ;rcases W with ⟨ar,cm,conj,cv,sl,sc,ct,sa,ss,ll,_,_,_,_,mi,mx,_,_,_,_,_⟩
 rw [←hR]
 unfold spots_Right_g at h
 rw [q_cm hE,q_ll hE,←hR] at h
 cbv
 refine L_rgJ hE lay_ok h 2 (fun j1:Bool=>[(29,fB j1)]) (fun j1=>[]) (fun j1 h=>?_) (fun j1 h=>?_)<;>cbv
 · refine L_if hE h (fun h=>?_) (fun h=>?_)<;>cbv
   · cases h;(cbv;(try simp only [e_rnil hR]);repeat' (first | exact trivial | exact rfl | exact Or.inr trivial | apply And.intro))
   refine L_if hE h (fun h=>?_) (fun h=>?_)<;>cbv
   · cases h;(cbv;(try simp only [e_rnil hR]);repeat' (first | exact trivial | exact rfl | exact Or.inr trivial | apply And.intro))
   refine L_call hE hR h (fun _ e=>spots_rising_w e) (by subst hR;rfl) rfl fun a1 h=>?_;cbv
   refine L_if hE h (fun h=>?_) (fun h=>?_)<;>cbv
   · cases h;(cbv;(try simp only [e_rnil hR]);repeat' (first | exact trivial | exact rfl | exact Or.inr trivial | apply And.intro))
   refine L_call hE hR h (fun _ e=>spots_rising_w e) (by subst hR;rfl) rfl fun a2 h=>?_;cbv
   cases h;(cbv;(try simp only [e_rnil hR]);repeat' (first | exact trivial | exact rfl | exact Or.inr trivial | apply And.intro))
 refine L_if hE h (fun h=>?_) (fun h=>?_)<;>cbv
 · exact And.left (hQ _ _ _ rfl rfl (by cases h;subst hR;rfl))
 refine L_keep hE lay_ok Tryz.call61 Tryz.func61 rfl ?_
 intro A1 E1 Q1 hE1 hf1 hQ1;cbv
 refine L_keep hE1 lay_ok Tryz.call82 Tryz.func82 rfl ?_
 intro A2 E2 Q2 hE2 hf2 hQ2;cbv
 refine L_for hE2 lay_ok 2 (fun g:Int × Nat=>[(4,fI .i64 0),(8,fI .i64 g.1)]) (fun g=>[]) (fun g=>spots_Right_l3 N p0 g.2 g.1=some r) (fun g=>g.2) (_,N) h ?_ ?_
 · (cbv;(try simp only [e_rnil hR]);repeat' (first | exact trivial | exact rfl | exact Or.inr trivial | apply And.intro))
 rintro ⟨v3,m3⟩ h Q3 hN3 hT3 hX3
 have h:spots_Right_l3 N p0 m3 v3=some r:=h
 cases m3 with
 | zero=>exact nomatch (show (none:Option _)=some _ from h)
 | succ m3=>
 rw [spots_Right_l3] at h
 rw [q_ar hE,q_cm hE,q_ll hE,←hR] at h
 cbv
 refine L_if hE2 h (fun h=>?_) (fun h=>?_)<;>cbv
 · refine L_rowL hE2 hR h fun r4 h=>?_;cbv
   refine L_keep hE2 lay_ok Tryz.call62 Tryz.func62 rfl ?_
   intro A4 E4 Q4 hE4 hf4 hQ4;cbv
   refine L_call hE4 hR h (fun _ e=>spots_rising_w e) (by subst hR;rfl) rfl fun a5 h=>?_;cbv
   refine And.left (hQ4 _ _ rfl ?_);cbv
   refine L_if hE2 h (fun h=>?_) (fun h=>?_)<;>cbv
   · refine hT3 _ ?_
     refine And.left (hQ2 _ _ rfl ?_);cbv
     refine And.left (hQ1 _ _ rfl ?_);cbv
     exact And.left (hQ _ _ _ rfl rfl (by cases h;subst hR;rfl))
   refine hN3 _ (_,m3) [] h (Nat.lt_succ_self _) trivial ?_;(cbv;(try simp only [e_rnil hR]);repeat' (first | exact trivial | exact rfl | exact Or.inr trivial | apply And.intro))
 refine hX3 _ _ ?_;cbv
 refine And.left (hQ2 _ _ rfl ?_);cbv
 refine And.left (hQ1 _ _ rfl ?_);cbv
 exact And.left (hQ _ _ _ rfl rfl (by cases h;subst hR;rfl))
end Gn
end Go.Proofs.YtjhbgkakhaonaaaGreatDoor
