/- Texts that the proof leans on. -/
import Derived.Test.YtpplemjjeefpdaaGreatDoorK236
set_option linter.unusedVariables false
set_option linter.unusedSimpArgs false
set_option maxRecDepth 100000
set_option maxHeartbeats 4000000
namespace Go.Proofs.YtpplemjjeefpdaaGreatDoor
open Go Go.RowKit
open Sh Gn
namespace Pl
theorem letter_p (c:Int):name_letter_g c=some (Nm.letterB c):=by
 unfold name_letter_g Nm.letterB
 simp only [cm_eql,cm_leq,cond_dec,bind_self]
 by_cases h1:c=95
 · subst h1;rfl
 · by_cases h2:97≤c<;>by_cases h3:c≤122<;>by_cases h4:65≤c<;>by_cases h5:c≤90<;>simp [h1,h2,h3,h4,h5]
theorem digit_p (c:Int):name_digit_g c=some (Nm.digitB c):=by
 unfold name_digit_g Nm.digitB
 simp only [cm_eql,cm_leq,cond_dec,bind_self]
 by_cases h2:48≤c<;>by_cases h3:c≤57<;>simp [h2,h3]
def runAt (s:ByteArray) (f:Bool) (k:Nat):Nat:=Nm.run Nm.signB f (s.data.toList.drop k)
section
variable {s:ByteArray}
theorem runAt_end {k:Nat} {f:Bool} (h:¬ k<s.size):runAt s f k=0:=by
 unfold runAt;rw [List.drop_of_length_le (by rw [size_list];omega)];rfl
theorem runAt_in {k:Nat} {f:Bool} (h:k<s.size):runAt s f k=if Nm.signB (s[k].toNat) f then runAt s false (k+1)+1 else 0:=by
 unfold runAt
 rw [List.drop_eq_getElem_cons (by rw [size_list];exact h)]
 rfl
theorem dec_p (k:Nat) (h:k<s.size) (f:Bool):Nm.signB (s[k].toNat) f=Nm.signB (Utf8.decode s k).1 f∧(Nm.signB (Utf8.decode s k).1 f=true→(Utf8.decode s k).2=1):=by
 by_cases ha:(s[k]'h).toNat<128
 · rw [decode_ascii s k h ha];exact ⟨rfl,fun _=>rfl⟩
 · have hd:=decode_high s k h (by omega)
   have e1:Nm.signB (Utf8.decode s k).1 f=false:=by
    cases e:Nm.signB (Utf8.decode s k).1 f with
    | false=>rfl
    | true=>have:=Nm.signB_lt e;omega
   have e2:Nm.signB (s[k].toNat) f=false:=by
    cases e:Nm.signB (s[k].toNat) f with
    | false=>rfl
    | true=>have:=Nm.signB_lt e;omega
   exact ⟨by rw [e1,e2],fun e=>by rw [e1] at e;cases e⟩
theorem ask_p (c:Int) (k:Nat):((name_letter_g c).bind fun a4=>cond (!a4) (cond (cm .eql (k:Int) 0) (some true) ((name_digit_g c).bind fun a5=>some !a5)) (some false))=some (!Nm.signB c (k==0)):=by
 rw [letter_p,digit_p]
 simp only [Option.bind_some,cond_not,cm_eql,cond_dec]
 unfold Nm.signB
 cases k with
 | zero=>cases Nm.letterB c<;>rfl
 | succ k=>
   have:¬((k+1:Nat):Int)=0:=by omega
   simp only [this,if_false]
   have e:(k+1==0)=false:=rfl
   rw [e]
   cases Nm.letterB c<;>rfl
theorem label_from:∀(m k:Nat),k≤s.size→s.size<k+m→name_Label_l1 s m k=some (decide (runAt s (k==0) k=s.size-k)):=by
 intro m
 induction m with
 | zero=>intro k h1 h2;omega
 | succ m ih=>
   intro k h1 h2
   unfold name_Label_l1 nx
   rw [Int.toNat_natCast]
   by_cases c:k<s.size
   · rw [if_pos c];dsimp only;rw [ask_p,runAt_in c]
     obtain ⟨e1,e2⟩:=dec_p (s:=s) k c (k==0)
     rw [e1]
     cases g:Nm.signB (Utf8.decode s k).1 (k==0) with
     | false=>
       simp only [Option.bind_some,Bool.not_false,_root_.cond_true,Bool.false_eq_true,if_false]
       have:¬ 0=s.size-k:=by omega
       rw [decide_eq_false this]
     | true=>
       have h3:(k:Int)+((Utf8.decode s k).2:Int)=((k+1:Nat):Int):=by rw [e2 g];rfl
       simp only [Option.bind_some,Bool.not_true,cond_false,if_true]
       rw [h3,ih (k+1) (by omega) (by omega)]
       have e:(k+1==0)=false:=rfl
       rw [e]
       congr 1
       exact decide_eq_decide.2 (by omega)
   · rw [if_neg c,runAt_end c,decide_eq_true (by omega)]
theorem cut_from {p0:ByteArray} {p1:Int} {r:Nat} (hs:ss p0 p1 (sl p0)=s) (hr:runAt s true 0=r):∀(m k:Nat),k≤s.size→s.size<k+m→k+runAt s (k==0) k=r→
 name_Cut_l1 p0 p1 m k=some (if r=s.size then (s,sl p0) else (ss s 0 (r:Int),ar .add .i64 p1 (r:Int))):=by
 intro m
 induction m with
 | zero=>intro k h1 h2;omega
 | succ m ih=>
   intro k h1 h2 h3
   unfold name_Cut_l1 nx
   rw [hs,Int.toNat_natCast]
   by_cases c:k<s.size
   · rw [if_pos c];dsimp only;rw [ask_p]
     rw [runAt_in c] at h3
     obtain ⟨e1,e2⟩:=dec_p (s:=s) k c (k==0)
     rw [e1] at h3
     cases g:Nm.signB (Utf8.decode s k).1 (k==0) with
     | false=>
       rw [g] at h3
       have h3:k=r:=by simpa using h3
       have hin:ssinB s 0 (k:Int)=true:=by simp [ssinB];omega
       simp only [Option.bind_some,Bool.not_false,_root_.cond_true,hin]
       rw [h3,if_neg (by omega)]
     | true=>
       rw [g] at h3
       have h4:(k:Int)+((Utf8.decode s k).2:Int)=((k+1:Nat):Int):=by rw [e2 g];rfl
       simp only [Option.bind_some,Bool.not_true,cond_false]
       rw [h4]
       have e:(k+1==0)=false:=rfl
       exact ih (k+1) (by omega) (by omega) (by rw [e];simp only [if_true] at h3;omega)
   · rw [if_neg c]
     rw [runAt_end c] at h3
     rw [if_pos (by omega)]
def lab (s:ByteArray):Bool:=decide (1≤s.size∧s.size≤32∧runAt s true 0=s.size)
theorem label_p {N:Nat} (hN:1000≤N):name_Label_g N s=some (lab s):=by
 unfold name_Label_g lab
 rw [sc_eql,cm_gtr,cond_dec,sl_eq]
 by_cases c:1≤s.size
 · have c':¬ s=ByteArray.empty:=fun e=>by subst e;exact absurd c (by decide)
   rw [if_neg c']
   by_cases c2:s.size≤32
   · have:¬(32:Int)<(s.size:Int):=by omega
     rw [decide_eq_false this]
     simp only [Option.bind_some,cond_false]
     rw [show (0:Int)=((0:Nat):Int) from rfl,label_from N 0 (by omega) (by omega)]
     simp [c,c2]
   · have:(32:Int)<(s.size:Int):=by omega
     rw [decide_eq_true this]
     simp [c2]
 · have c':s=ByteArray.empty:=by
    apply ByteArray.ext
    apply Array.eq_empty_of_size_eq_zero
    show s.size=0
    omega
   rw [if_pos c']
   simp [c]
end
end Pl
end Go.Proofs.YtpplemjjeefpdaaGreatDoor
namespace Go.Proofs.YtpplemjjeefpdaaGreatDoor
open Go
open Sh Gn
namespace Pl
theorem lab_eq {s:ByteArray}:lab s=Nm.labelB s.data.toList:=by
 unfold lab Nm.labelB Nm.allB runAt
 rw [size_list,List.drop_zero,Bool.eq_iff_iff]
 simp [and_assoc]
theorem mright_p {N:Nat} (hN:1000≤N) (g:GMatcher):matcher_Right_g N g=some (Mt.right (toM g)):=by
 unfold matcher_Right_g Mt.right toM
 rw [label_p hN,lab_eq]
 simp only [Option.bind_some,cond_not,cm_lss,cm_gtr,cm_eql,cm_neq,cond_dec,ite_or,sl_eq]
 cases Nm.labelB g.Name.data.toList with
 | false=>rfl
 | true=>
   simp only [_root_.cond_true,Bool.true_eq_false,if_false]
   by_cases c1:g.Op<1∨4<g.Op
   · simp only [c1,if_true]
   · simp only [c1,if_false]
     by_cases c2:g.Op≤2
     · have c2':g.Op=1∨g.Op=2:=by omega
       simp only [c2,c2',if_true]
       by_cases c3:1024<g.Value.size
       · have c3':(1024:Int)<(g.Value.size:Int):=by omega
         simp only [c3,c3',if_true]
       · have c3':¬(1024:Int)<(g.Value.size:Int):=by omega
         simp only [c3,c3',if_false]
     · have c2':¬(g.Op=1∨g.Op=2):=by omega
       simp only [c2,c2',if_false]
       unfold regex_Parse_g
       simp only [Option.bind_some]
       by_cases c3:(Rx.parse g.Value.data.toList).2.1=0
       · simp only [c3,if_true]
       · simp only [c3,if_false]
theorem msign_p (o:Int):matcher_sign_g o=some (Mt.ofL (Mt.sgn o)):=by
 unfold matcher_sign_g Mt.sgn
 simp only [cm_eql,cond_dec]
 by_cases c1:o=1
 · simp only [c1,if_true];rfl
 by_cases c2:o=2
 · simp only [c1,c2,if_true,if_false];rfl
 by_cases c3:o=3
 · simp only [c1,c2,c3,if_true,if_false];rfl
 by_cases c4:o=4
 · simp only [c1,c2,c3,c4,if_true,if_false];rfl
 · simp only [c1,c2,c3,c4,if_false];rfl
theorem rsgn_p (o:Int):r22_Sign_g o=some (Mt.ofL (Mt.sgn o)):=msign_p o
theorem ba_eq {s t:ByteArray}:s=t↔s.data.toList=t.data.toList:=
 ⟨fun h=>by rw [h],fun h=>ByteArray.ext (Array.ext' h)⟩
theorem prefix_p (t:ByteArray) (p:List UInt8):strings_HasPrefix_g t (Mt.ofL p)=some (decide (t.data.toList.take p.length=p)):=by
 have hz:(Mt.ofL p).size=p.length:=by rw [←size_list,Mt.ofL_list]
 unfold strings_HasPrefix_g internal_stringslite_HasPrefix_g
 rw [cm_geq,cond_dec,sl_eq,sl_eq,sc_eql,hz]
 by_cases c:p.length≤t.size
 · have e:=ss_list (s:=t) (i:=0) (j:=p.length) (by omega) c
   have e:(ss t 0 (p.length:Int)).data.toList=(t.data.toList.drop 0).take (p.length-0):=e
   have hin:ssinB t 0 (p.length:Int)=true:=ssin_nat (s:=t) (i:=0) (j:=p.length) (by omega) c
   rw [if_pos (by omega),hin,_root_.cond_true,Option.bind_some,Option.bind_some]
   congr 1
   refine decide_eq_decide.2 ?_
   rw [ba_eq,e,Mt.ofL_list];rfl
 · rw [if_neg (by omega)]
   refine congrArg some (decide_eq_false fun h=>?_).symm
   have:=congrArg List.length h
   rw [List.length_take,size_list] at this
   omega
theorem take1 (l:List UInt8) (a:UInt8) (ha:a.toNat≠0):l.take 1=[a]↔Qu.bt l 0=a.toNat:=by
 cases l with
 | nil=>simp [Qu.bt];omega
 | cons x r=>simp [Qu.bt,UInt8.toNat_inj]
theorem take2 (l:List UInt8) (a b:UInt8) (ha:a.toNat≠0) (hb:b.toNat≠0):l.take 2=[a,b]↔Qu.bt l 0=a.toNat∧Qu.bt l 1=b.toNat:=by
 match l with
 | []=>simp [Qu.bt];omega
 | [x]=>simp [Qu.bt];omega
 | x::y::r=>simp [Qu.bt,UInt8.toNat_inj]
section
variable {s:ByteArray} {i:Nat}
theorem op_p {N:Nat} (hN:20≤N) (hs:s.size≤400000) (hi:i≤s.size):matcher_op_g N s i=some (if Mt.opAt s.data.toList i=0 then (0,⟨((Mt.opBad s.data.toList i).1:Int),((Mt.opBad s.data.toList i).2:Int)⟩) else ((Mt.opAt s.data.toList i:Int),⟨0,0⟩)):=by
 obtain ⟨m,rfl⟩:∃m,N=m+5:=⟨N-5,by omega⟩
 obtain ⟨t,ht⟩:∃t,t=ss s (i:Int) (sl s):=⟨_,rfl⟩
 have hb:∀j,Qu.bt t.data.toList j=Qu.bt s.data.toList (i+j):=fun j=>by rw [ht,ss_end hi,Qu.bt_drop]
 have hz:t.size=s.size-i:=by rw [ht];exact size_end hi
 have l0:∀m,matcher_op_l1 s i (m+1) 0=(strings_HasPrefix_g t (Mt.ofL [61,126])).bind fun a=>cond a (some (3,⟨0,0⟩)) (matcher_op_l1 s i m 1):=fun m=>by rw [ht];rfl
 have l1:∀m,matcher_op_l1 s i (m+1) 1=(strings_HasPrefix_g t (Mt.ofL [33,126])).bind fun a=>cond a (some (4,⟨0,0⟩)) (matcher_op_l1 s i m 2):=fun m=>by rw [ht];rfl
 have l2:∀m,matcher_op_l1 s i (m+1) 2=(strings_HasPrefix_g t (Mt.ofL [33,61])).bind fun a=>cond a (some (2,⟨0,0⟩)) (matcher_op_l1 s i m 3):=fun m=>by rw [ht];rfl
 have l3:∀m,matcher_op_l1 s i (m+1) 3=(strings_HasPrefix_g t (Mt.ofL [61])).bind fun a=>cond a (some (1,⟨0,0⟩)) (matcher_op_l1 s i m 4):=fun m=>by rw [ht];rfl
 have l4:∀m,matcher_op_l1 s i (m+1) 4=cond (sc .eql t ByteArray.empty) (some (0,⟨1,(i:Int)⟩)) (cond (sc .eql t (ByteArray.mk #[33])) (some (0,⟨1,ar .add .i64 i 1⟩)) (some (0,⟨2,(i:Int)⟩))):=fun m=>by rw [ht];rfl
 have a2:∀a b:UInt8,a.toNat≠0→b.toNat≠0→strings_HasPrefix_g t (Mt.ofL [a,b])=some (decide (Qu.bt s.data.toList i=a.toNat∧Qu.bt s.data.toList (i+1)=b.toNat)):=fun a b ha hb'=>by
  rw [prefix_p]
  have:=take2 t.data.toList a b ha hb'
  rw [hb,hb] at this
  exact congrArg some (decide_eq_decide.2 this)
 have a1:∀a:UInt8,a.toNat≠0→strings_HasPrefix_g t (Mt.ofL [a])=some (decide (Qu.bt s.data.toList i=a.toNat)):=fun a ha=>by
  rw [prefix_p]
  have:=take1 t.data.toList a ha
  rw [hb] at this
  exact congrArg some (decide_eq_decide.2 this)
 unfold matcher_op_g
 rw [ssin_end hi,_root_.cond_true,l0,l1,l2,l3,l4,a2 61 126 (by decide) (by decide),a2 33 126 (by decide) (by decide),a2 33 61 (by decide) (by decide),a1 61 (by decide),inc1 (by omega)]
 simp only [Option.bind_some,cond_dec,sc_eql,show (61:UInt8).toNat=61 from rfl,show (33:UInt8).toNat=33 from rfl,show (126:UInt8).toNat=126 from rfl]
 unfold Mt.opAt
 by_cases c1:Qu.bt s.data.toList i=61
 · by_cases c2:Qu.bt s.data.toList (i+1)=126
   · simp [c1,c2]
   · simp [c1,c2]
 · by_cases c3:Qu.bt s.data.toList i=33
   · by_cases c4:Qu.bt s.data.toList (i+1)=61
     · simp [c3,c4]
     · by_cases c5:Qu.bt s.data.toList (i+1)=126
       · simp [c3,c5]
       · have hlt:i<s.size:=Nat.lt_of_not_le fun g=>by
          have:Qu.bt s.data.toList i=0:=by unfold Qu.bt;rw [List.getElem?_eq_none (by rw [size_list];omega)]
          omega
         have hne:¬ t=ByteArray.empty:=fun e=>by rw [e] at hz;have:ByteArray.empty.size=0:=rfl;omega
         have hone:t=ByteArray.mk #[33]↔i+1=s.size:=by
          constructor
          · intro e
            have:(ByteArray.mk #[33]).size=1:=rfl
            rw [e] at hz;omega
          · intro e
            rw [ba_eq]
            have hl:t.data.toList.length=1:=by rw [size_list];omega
            obtain ⟨x,hx⟩:=List.length_eq_one_iff.1 hl
            have h0:=hb 0
            rw [hx] at h0
            have h0:x.toNat=33:=by rw [Nat.add_zero,c3] at h0;exact h0
            rw [hx]
            show [x]=[33]
            congr 1
            exact UInt8.toNat_inj.1 h0
         have hlen:¬ i=s.data.toList.length:=by rw [size_list];omega
         unfold Mt.opBad
         simp only [c3,c4,c5,hne,if_false,hlen,if_true,true_and,false_and,and_false]
         by_cases c6:i+1=s.size
         · have c6':i+1=s.data.toList.length:=by rw [size_list];exact c6
           simp [hone.2 c6,c6']
         · have c6':¬ i+1=s.data.toList.length:=by rw [size_list];exact c6
           have:¬ t=ByteArray.mk #[33]:=fun e=>c6 (hone.1 e)
           simp [this,c6]
   · unfold Mt.opBad
     simp only [c1,c3,if_false,false_and,if_true]
     have hone:¬ t=ByteArray.mk #[33]:=fun e=>by
      have:=hb 0
      rw [e] at this
      exact c3 this.symm
     simp only [hone,if_false]
     by_cases c4:i=s.size
     · have:t=ByteArray.empty:=by
        rw [ba_eq]
        have hl:t.data.toList.length=0:=by rw [size_list];omega
        rw [List.length_eq_zero_iff.1 hl];rfl
       rw [if_pos this,if_pos (by rw [size_list];exact c4)];rfl
     · have:¬ t=ByteArray.empty:=fun e=>by rw [e] at hz;have:ByteArray.empty.size=0:=rfl;omega
       rw [if_neg this,if_neg (by rw [size_list];exact c4)];rfl
end
end Pl
end Go.Proofs.YtpplemjjeefpdaaGreatDoor
namespace Go.Proofs.YtpplemjjeefpdaaGreatDoor
open Go
open Sh Gn
namespace Pl
def takeV (g:Mt.Got):GMatcher × Int × GFault:=match g with | .ok m p=>(⟨m.name,m.op,m.val⟩,(p:Int),⟨0,0⟩) | .bad e p=>(⟨ByteArray.empty,0,ByteArray.empty⟩,0,⟨e,(p:Int)⟩)
theorem run_take (g:Int→Bool→Bool):∀(f:Bool) (l:List UInt8),Nm.run g f (l.take (Nm.run g f l))=Nm.run g f l
 | f,[]=>by simp [Nm.run]
 | f,c::r=>by
   by_cases h:g c.toNat f=true
   · have e:Nm.run g f (c::r)=Nm.run g false r+1:=by rw [Nm.run,if_pos h]
     rw [e,List.take_succ_cons,Nm.run,if_pos h,run_take g false r]
   · have e:Nm.run g f (c::r)=0:=by rw [Nm.run,if_neg h]
     rw [e];rfl
section
variable {s:ByteArray}
theorem cut_p {N i:Nat} (hN:800000≤N) (hs:s.size≤400000) (hi:i≤s.size):
 name_Cut_g N s i=some (Mt.ofL ((s.data.toList.drop i).take (Nm.run Nm.signB true (s.data.toList.drop i))),((i+Nm.run Nm.signB true (s.data.toList.drop i):Nat):Int)):=by
 have hz:=size_end hi
 have hl:=ss_end hi
 have hr:=Nm.run_le Nm.signB true (s.data.toList.drop i)
 rw [List.length_drop,size_list] at hr
 unfold name_Cut_g
 rw [cm_lss,cm_gtr,cond_dec,sl_eq,if_neg (by omega),decide_eq_false (by omega)]
 simp only [Option.bind_some,cond_false]
 rw [←sl_eq,ssin_end hi,_root_.cond_true]
 have hr':runAt (ss s (i:Int) (sl s)) true 0=Nm.run Nm.signB true (s.data.toList.drop i):=by unfold runAt;rw [hl,List.drop_zero]
 have key:=cut_from (p0:=s) (p1:=(i:Int)) rfl hr' N 0 (by omega) (by omega) (by rw [show ((0:Nat)==0)=true from rfl,hr'];omega)
 rw [show ((0:Nat):Int)=0 from rfl] at key
 rw [key]
 generalize Nm.run Nm.signB true (s.data.toList.drop i)=R at *
 by_cases c:R=s.size-i
 · rw [if_pos (by omega)]
   congr 2
   · rw [←Mt.ofL_self (ss s (i:Int) (sl s)),hl,List.take_of_length_le (by rw [List.length_drop,size_list];omega)]
   · rw [sl_eq];omega
 · rw [if_neg (by omega),ar_add (by omega) (by omega)]
   congr 2
   rw [←Mt.ofL_self (ss (ss s (i:Int) (sl s)) 0 (R:Int))]
   have:=ss_list (s:=ss s (i:Int) (sl s)) (i:=0) (j:=R) (by omega) (by omega)
   have this:(ss (ss s (i:Int) (sl s)) 0 (R:Int)).data.toList=(((ss s (i:Int) (sl s)).data.toList).drop 0).take (R-0):=this
   rw [this,hl];rfl
theorem lab_run (l:List UInt8):Nm.labelB (l.take (Nm.run Nm.signB true l))=decide (¬(Nm.run Nm.signB true l<1∨32<Nm.run Nm.signB true l)):=by
 have h:=run_take Nm.signB true l
 have hl:=Nm.run_le Nm.signB true l
 unfold Nm.labelB Nm.allB
 rw [h,List.length_take,Nat.min_eq_left hl,Bool.eq_iff_iff]
 simp
 omega
theorem opAt_le (l:List UInt8) (i:Nat):Mt.opAt l i≤4:=by unfold Mt.opAt;(repeat' split)<;>omega
theorem sgn_size (o:Int):(Mt.ofL (Mt.sgn o)).size=(Mt.sgn o).length∧(Mt.sgn o).length≤2:=by
 refine ⟨by rw [←size_list,Mt.ofL_list],?_⟩
 unfold Mt.sgn;(repeat' split)<;>decide
theorem opBad_ne (l:List UInt8) (i:Nat):(Mt.opBad l i).1≠0:=by unfold Mt.opBad;(repeat' split)<;>(intro h;cases h)
theorem body_ne (l:List UInt8):∀(f:Nat) (out:List UInt8) (i e p:Nat),Qu.body l f out i=.bad e p→e≠0
 | 0,out,i,e,p,h=>by unfold Qu.body at h;cases h;decide
 | f + 1, out,i,e,p,h=>by
   unfold Qu.body at h
   split at h
   · split at h
     · cases h
     · cases hu:Qu.un l i with
       | ok t n=>rw [hu] at h;exact body_ne l f _ _ e p h
       | bad e' p'=>
         rw [hu] at h
         cases h
         unfold Qu.un at hu
         split at hu
         · cases hE:Qu.esc l i with
           | ok b n=>rw [hE] at hu;cases hu
           | bad e''=>
             rw [hE] at hu
             cases hu
             rcases esc_bad hE with rfl | rfl<;>decide
         · split at hu
           · cases hu
           · cases hu;decide
   · cases h;decide
theorem read_ne {l:List UInt8} {a:Int} {e p:Nat} (h:Qu.read l a=.bad e p):e≠0:=by
 unfold Qu.read at h
 split at h
 · cases h;decide
 · split at h
   · cases h;decide
   · split at h
     · cases h;decide
     · exact body_ne _ _ _ _ _ _ h
theorem mtake_p {N:Nat} (hN:800000≤N) (hs:s.size≤390000) (p:Int):matcher_Take_g N s p=some (takeV (Mt.take s.data.toList p)):=by
 unfold matcher_Take_g Mt.take
 simp only [cm_lss,cm_gtr,cm_eql,cm_neq,cond_not,cond_dec,sl_eq,ite_or,Option.bind_some,size_list]
 by_cases c1:p<0∨(s.size:Int)<p
 · simp only [c1,if_true];rfl
 obtain ⟨i,rfl⟩:∃i:Nat,p=i:=⟨p.toNat,by omega⟩
 simp only [c1,if_false,Int.toNat_natCast]
 by_cases c2:(i:Int)=s.size
 · simp only [c2,if_true]
   have:i=s.size:=by omega
   subst this;rfl
 simp only [c2,if_false]
 have hr:=Nm.run_le Nm.signB true (s.data.toList.drop i)
 rw [List.length_drop,size_list] at hr
 rw [cut_p hN (by omega) (by omega),Option.bind_some,label_p (by omega),lab_eq,Mt.ofL_list,lab_run]
 simp only [Option.bind_some]
 obtain ⟨l,hl⟩:∃l,l=s.data.toList.drop i:=⟨_,rfl⟩
 rw [←hl] at hr ⊢
 obtain ⟨R,hR⟩:∃R,R=Nm.run Nm.signB true l:=⟨_,rfl⟩
 rw [←hR] at hr ⊢
 by_cases c3:R<1∨32<R
 · simp only [c3,not_true_eq_false,decide_false,cond_false,if_true];rfl
 simp only [c3,not_false_eq_true,decide_true,_root_.cond_true,if_false]
 rw [op_p (by omega) (by omega) (by omega),Option.bind_some]
 obtain ⟨o,ho⟩:∃o,o=Mt.opAt s.data.toList (i+R):=⟨_,rfl⟩
 rw [←ho]
 have ho4:o≤4:=by rw [ho];exact opAt_le _ _
 by_cases c4:o=0
 · have hne:=opBad_ne s.data.toList (i+R)
   have hne':¬((Mt.opBad s.data.toList (i+R)).1:Int)=0:=by omega
   simp only [c4,if_true,hne',if_false];rfl
 simp only [c4,if_false,if_true,msign_p,Option.bind_some]
 have hz:=sgn_size (o:Int)
 rw [hz.1,ar_add (by omega) (by omega),qread_p hN (by omega),Option.bind_some]
 have ea:((i+R:Nat):Int)+((Mt.sgn (o:Int)).length:Int)=((i+R+(Mt.sgn (o:Int)).length:Nat):Int):=by omega
 rw [ea]
 cases hq:Qu.read s.data.toList ((i+R+(Mt.sgn (o:Int)).length:Nat):Int) with
 | bad e q=>
   have he:¬(e:Int)=0:=by
    have:=read_ne hq
    omega
   simp only [gotV,he,if_false];rfl
 | ok v q=>
   simp only [gotV,if_true,mright_p (N:=N) (by omega),Option.bind_some,toM]
   by_cases c5:Mt.right ⟨Mt.ofL (l.take R),(o:Int),⟨v.toArray⟩⟩=0
   · have c5':Mt.right ⟨Mt.ofL (l.take R),(o:Int),Mt.ofL v⟩=0:=c5
     simp only [c5,c5',if_true,ne_eq,not_true_eq_false,if_false];rfl
   · have c5':¬ Mt.right ⟨Mt.ofL (l.take R),(o:Int),Mt.ofL v⟩=0:=c5
     simp only [c5,c5',ne_eq,not_false_eq_true,if_true,if_false];rfl
end
end Pl
end Go.Proofs.YtpplemjjeefpdaaGreatDoor
namespace Go.Proofs.YtpplemjjeefpdaaGreatDoor
open Go
open Sh Gn
namespace Pl
theorem conj2 {a b:Bool}:conj [a,b]=(a&&b):=by show (a&&(b&&true))=_;rw [Bool.and_true]
end Pl
end Go.Proofs.YtpplemjjeefpdaaGreatDoor
namespace Go.Proofs.YtpplemjjeefpdaaGreatDoor
open Go
open Sh Gn
namespace Pl
theorem setz_p (S:CSet):conj [cm .eql (S.a.toNat:Int) 0,cm .eql (S.b.toNat:Int) 0,cm .eql (S.c.toNat:Int) 0,cm .eql (S.d.toNat:Int) 0]=decide (S=CSet.empty):=by
 have h:∀x:BitVec 64,((x.toNat:Int)=0)=(x=0):=fun x=>propext ⟨fun h=>by
  apply BitVec.eq_of_toNat_eq
  have:x.toNat=0:=by omega
  rw [this];rfl,fun h=>by rw [h];rfl⟩
 rw [cm_eql,cm_eql,cm_eql,cm_eql]
 simp only [h]
 cases S
 rw [Bool.eq_iff_iff]
 simp [conj,CSet.empty]
theorem times_p (lo hi:Int):regex_times_g lo hi=some (Rx.timesB lo hi):=by
 unfold regex_times_g Rx.timesB mx
 simp only [cm_lss,cm_gtr,cm_eql,cm_geq,cm_leq,cond_dec,ite_or,ite_and,Option.bind_some]
 by_cases c:lo<0∨16<lo
 · rw [if_pos c]
   have:lo<0∨lo>16:=c
   congr 1
   rcases this with h | h<;>simp [h]
 · rw [if_neg c]
   have e:∃M:Int,(if (1:Int)>lo then (1:Int) else lo)=M∧(lo=0∧M=1∨lo≠0∧M=lo):=by
    refine ⟨_,rfl,?_⟩
    split<;>omega
   obtain ⟨M,e,hM⟩:=e
   rw [e]
   congr 1
   have c1:¬ lo<0:=fun h=>c (.inl h)
   have c2:¬ lo>16:=fun h=>c (.inr h)
   simp only [c1,c2,decide_false,Bool.false_or]
   by_cases h:(hi>16∨hi< -1)∨hi=0
   · have hd:(decide (hi>16)||decide (hi< -1)||hi==0)=true:=by simpa using h
     rw [hd,if_pos rfl]
     exact decide_eq_false (by omega)
   · have hd:(decide (hi>16)||decide (hi< -1)||hi==0)=false:=by
      rw [Bool.eq_false_iff];intro h';exact h (by simpa using h')
     rw [hd,if_neg (by simp),Bool.eq_iff_iff]
     simp only [Bool.or_eq_true,beq_iff_eq,decide_eq_true_eq]
     omega
theorem rtimes_p (lo hi:Int):r13_times_g lo hi=some (Rx.timesB lo hi):=by
 unfold r13_times_g Rx.timesB
 simp only [cm_lss,cm_gtr,cm_eql,cm_geq,cm_leq,cond_dec,ite_or,ite_and,Option.bind_some]
 by_cases c:lo<0∨16<lo∨16<hi∨hi< -1∨hi=0
 · rw [if_pos c,if_pos (by simpa [or_assoc] using c)]
 · rw [if_neg c,if_neg (by simpa [or_assoc] using c)]
   congr 1
   rw [Bool.eq_iff_iff]
   simp
theorem mkids_p (rec:Node→Option Bool) (n:Node) (hl:n.kids.length≤100000) (hr:∀c∈n.kids,rec c=some (Rx.right c)):∀(m k:Nat),k≤n.kids.length→n.kids.length<k+m→regex_Right_l1 rec n m k=some (Rx.topB n.kind n.set n.kids.length n.min n.max&&Rx.rights n.kind (n.kids.drop k)):=by
 intro m
 induction m with
 | zero=>intro k h1 h2;omega
 | succ m ih=>
   intro k h1 h2
   rw [regex_Right_l1]
   simp only [setz_p]
   simp only [cm_lss,cm_eql,cm_neq,cm_gtr,cond_not,cond_dec,ll_eq,setz_p,not_dec,times_p,ite_or,ite_and,ite_gen,Option.bind_some,bind_self]
   by_cases c:k<n.kids.length
   · rw [if_pos (by omega),at_get c,inc1 (by omega),Option.bind_some,hr _ (List.getElem_mem c),Option.bind_some,ih (k+1) (by omega) (by omega)]
     rw [List.drop_eq_getElem_cons c,Rx.rights]
     generalize n.kids[k]=y
     cases Rx.right y with
     | false=>simp
     | true=>
       have e1:(y.kind==n.kind)=decide (y.kind=n.kind):=Bool.beq_eq_decide_eq _ _
       have e2:(n.kind != 4)= !decide (n.kind=4):=by rw [←Bool.beq_eq_decide_eq];rfl
       rw [e1,e2]
       by_cases g:y.kind=n.kind<;>by_cases g4:n.kind=4<;>simp [g,g4]
   · rw [if_neg (by omega),List.drop_of_length_le (by omega),Rx.rights,Bool.and_true]
     obtain ⟨kind,S,kids,mn,mx⟩:=n
     simp only [Node.kind,Node.set,Node.kids,Node.min,Node.max] at *
     unfold Rx.topB
     generalize kids.length=L
     have q0:((L:Int)=0)=(L=0):=propext (by omega)
     have q1:((L:Int)=1)=(L=1):=propext (by omega)
     have q2:((1:Int)<L)=(1<L):=propext (by omega)
     simp only [q0,q1,q2]
     generalize Rx.timesB mn mx=T
     by_cases k1:kind=1
     · subst k1
       by_cases a1:mn=0<;>by_cases a2:mx=0<;>by_cases a3:L=0<;>simp [a1,a2,a3]
     by_cases k2:kind=2
     · subst k2
       by_cases a0:S=CSet.empty<;>by_cases a1:mn=0<;>by_cases a2:mx=0<;>by_cases a3:L=1<;>simp [a0,a1,a2,a3]
     by_cases k3:kind=3
     · subst k3
       by_cases a0:S=CSet.empty<;>by_cases a1:mn=0<;>by_cases a2:mx=0<;>by_cases a3:1<L<;>simp [a0,a1,a2,a3]
     by_cases k4:kind=4
     · subst k4
       by_cases a0:S=CSet.empty<;>by_cases a3:L=1<;>cases T<;>simp [a0,a3]
     by_cases a0:S=CSet.empty<;>by_cases a1:mn=0<;>by_cases a2:mx=0<;>simp [k1,k2,k3,k4,a0,a1,a2]
theorem xright_p:∀(m:Nat) (n:Node),n.size≤m→m≤1000→∀N,m+2000≤N→regex_Right_g N n=some (Rx.right n):=by
 intro m
 induction m with
 | zero=>intro n h;have:=n.size_pos;omega
 | succ m ih=>
   intro n h hm N hN
   obtain ⟨N,rfl⟩:∃M,N=M+1:=⟨N-1,by omega⟩
   have hk:=n.kids_le
   rw [regex_Right_g]
   have:=mkids_p (regex_Right_g N) n (by omega) (fun c hc=>ih c (by have:=kid_size hc;omega) (by omega) N (by omega)) N 0 (by omega) (by omega)
   rw [Rx.right_eq]
   exact this
theorem rkids_p (rec:Node→Option Bool) (n:Node) (hl:n.kids.length≤100000) (h14:1≤n.kind∧n.kind≤4) (hr:∀c∈n.kids,rec c=some (Rx.right c)):∀(m k:Nat),k≤n.kids.length→n.kids.length<k+m→r13_Right_l1 rec n m k=some (Rx.rights n.kind (n.kids.drop k)):=by
 intro m
 induction m with
 | zero=>intro k h1 h2;omega
 | succ m ih=>
   intro k h1 h2
   rw [r13_Right_l1]
   simp only [cm_lss,cm_eql,cm_neq,cm_gtr,cond_dec,ll_eq]
   by_cases c:k<n.kids.length
   · rw [if_pos (by omega),at_get c,inc1 (by omega),Option.bind_some,hr _ (List.getElem_mem c),Option.bind_some,ih (k+1) (by omega) (by omega)]
     rw [List.drop_eq_getElem_cons c,Rx.rights]
     generalize n.kids[k]=y
     cases Rx.right y with
     | false=>simp
     | true=>
       by_cases g:y.kind=n.kind<;>by_cases g4:n.kind=4
       · have:¬ n.kind<4:=by omega
         simp [g,g4]
       · have:n.kind<4:=by omega
         simp [g,g4,this]
       · have g':¬ y.kind=4:=by omega
         simp [g,g4,g']
       · simp [g,g4]
   · rw [if_neg (by omega),List.drop_of_length_le (by omega),Rx.rights]
theorem rright13_p:∀(m:Nat) (n:Node),n.size≤m→m≤1000→∀N,m+2000≤N→r13_Right_g N n=some (Rx.right n):=by
 intro m
 induction m with
 | zero=>intro n h;have:=n.size_pos;omega
 | succ m ih=>
   intro n h hm N hN
   obtain ⟨N,rfl⟩:∃M,N=M+1:=⟨N-1,by omega⟩
   have hk:=n.kids_le
   rw [r13_Right_g,Rx.right_eq]
   simp only [setz_p]
   simp only [cm_lss,cm_eql,cm_neq,cm_gtr,cond_not,cond_dec,ll_eq,setz_p,not_dec,rtimes_p,ite_or,ite_and,Option.bind_some,bind_self]
   by_cases h14:1≤n.kind∧n.kind≤4
   case neg=>
    rw [if_pos (by omega)]
    unfold Rx.topB
    have a1:¬ n.kind=1:=by omega
    have a2:¬ n.kind=2:=by omega
    have a3:¬ n.kind=3:=by omega
    have a4:¬ n.kind=4:=by omega
    simp [a1,a2,a3,a4]
   rw [if_neg (by omega)]
   have key:=rkids_p (r13_Right_g N) n (by omega) h14 (fun c hc=>ih c (by have:=kid_size hc;omega) (by omega) N (by omega)) N 0 (by omega) (by omega)
   rw [List.drop_zero] at key
   rw [show ((0:Nat):Int)=0 from rfl] at key
   rw [key]
   generalize Rx.rights n.kind n.kids=U
   obtain ⟨kind,S,kids,mn,mx⟩:=n
   simp only [Node.kind,Node.set,Node.kids,Node.min,Node.max] at *
   unfold Rx.topB
   generalize kids.length=L
   have q0:((L:Int)=0)=(L=0):=propext (by omega)
   have q1:((L:Int)=1)=(L=1):=propext (by omega)
   have q3:((L:Int)<2)=¬(1<L):=propext (by omega)
   simp only [q0,q1,q3]
   generalize Rx.timesB mn mx=T
   have h4:kind=1∨kind=2∨kind=3∨kind=4:=by omega
   rcases h4 with rfl | rfl | rfl | rfl
   · by_cases a1:mn=0<;>by_cases a2:mx=0<;>by_cases a3:L=0<;>simp [a1,a2,a3]
   · by_cases a0:S=CSet.empty<;>by_cases a1:mn=0<;>by_cases a2:mx=0<;>by_cases a3:L=1<;>simp [a0,a1,a2,a3]
   · by_cases a0:S=CSet.empty<;>by_cases a1:mn=0<;>by_cases a2:mx=0<;>by_cases a3:1<L<;>simp [a0,a1,a2,a3]
   · by_cases a0:S=CSet.empty<;>by_cases a3:L=1<;>cases T<;>simp [a0,a3]
end Pl
end Go.Proofs.YtpplemjjeefpdaaGreatDoor
