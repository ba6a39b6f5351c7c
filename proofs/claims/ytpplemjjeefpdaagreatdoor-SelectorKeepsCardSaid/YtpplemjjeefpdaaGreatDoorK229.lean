/- Texts that the proof leans on. -/
import Derived.Test.YtpplemjjeefpdaaGreatDoorK228
set_option linter.unusedVariables false
set_option linter.unusedSimpArgs false
set_option maxRecDepth 100000
set_option maxHeartbeats 4000000
namespace Go.Proofs.YtpplemjjeefpdaaGreatDoor
open Go
open Sh Gn
namespace Pl
section
variable {s:ByteArray} {i:Nat}
theorem oth_p:RN (Rx.other s.data.toList i) (r13_other_g s i):=by
 obtain ⟨e,p,h1,h2,x,h3,h4⟩:=other_p (s:=s) (i:=i) (α:=Node)
 rw [h1,h3];exact ⟨h2,x,rfl,h4⟩
theorem braces_p {N:Nat} (hN:s.size+20≤N) (hs:s.size≤100000) (hi:i<s.size) (n:Node):
 RN (match Rx.brc s.data.toList (i+1) with | .ok (lo,hi) q=>if Rx.pk s.data.toList q=125 then .ok (Rx.rep n lo hi) (q+1) else Rx.other s.data.toList q | .bad e p=>.bad e p | .out=>.out) (r13_braces_g N s n i):=by
 have h1:=number_p (s:=s) (i:=i+1) hN hs (by omega)
 have F1:=fine_number s.data.toList (i+1) (by rw [size_list];omega)
 unfold r13_braces_g Rx.brc
 rw [inc1 (show i≤100000000 by omega)]
 cases hr:Rx.number s.data.toList (i+1) with
 | out=>rw [hr] at F1;exact F1.elim
 | bad e p=>
   rw [hr] at h1
   obtain ⟨hz,k,x,hx,hf⟩:=h1
   have he:¬ x.F.E=0:=by rw [hf];exact hz
   simp only [hx,Option.bind_some,cm_neq,cond_not,cond_dec,he,if_false]
   exact ⟨hz,x,rfl,hf⟩
 | ok lo p =>
   rw [hr] at h1
   obtain ⟨x,hx,he,ha⟩:=h1
   have hp:=Rd.fine_le F1 hr
   rw [size_list] at hp
   have e1:=inc1 (show p≤100000000 by omega)
   have e2:=inc2 (show p≤100000000 by omega)
   have g1:∀j:Nat,r13_is_g s j 44=some (decide (Rx.pk s.data.toList j=44)):=fun j=>is_p (by decide)
   have g2:∀j:Nat,r13_is_g s j 125=some (decide (Rx.pk s.data.toList j=125)):=fun j=>is_p (by decide)
   simp only [hx,Option.bind_some,cm_neq,cond_not,cond_dec,he,if_true,ha,e1,e2,g1,g2,bind_self,bind_if,cm_eql,cm_lss]
   by_cases c1:Rx.pk s.data.toList p=44
   · simp only [c1,if_true]
     have hpp:p<s.size:=Nat.lt_of_not_le fun g=>by rw [pk_out (by omega)] at c1;cases c1
     by_cases c2:Rx.pk s.data.toList (p+1)=125
     · simp only [c2,if_true];rfl
     · have h2:=number_p (s:=s) (i:=p+1) hN hs (by omega)
       have F2:=fine_number s.data.toList (p+1) (by rw [size_list];omega)
       simp only [c2,if_false]
       cases hr2:Rx.number s.data.toList (p+1) with
       | out=>rw [hr2] at F2;exact F2.elim
       | bad e q=>
         rw [hr2] at h2
         obtain ⟨hz,k,y,hy,hf⟩:=h2
         have hey:¬ y.F.E=0:=by rw [hf];exact hz
         simp only [hy,Option.bind_some,hey,if_false]
         exact ⟨hz,y,rfl,hf⟩
       | ok hi' q=>
         rw [hr2] at h2
         obtain ⟨y,hy,hey,hay⟩:=h2
         have hq:=Rd.fine_le F2 hr2
         rw [size_list] at hq
         have e3:=inc1 (show q≤100000000 by omega)
         simp only [hy,Option.bind_some,hey,if_true,hay,e3,g1,g2,cond_not,cond_dec,bind_if]
         by_cases c3:hi'=0
         · subst c3
           simp only [true_or,if_true,Int.natCast_zero]
           exact ⟨by decide,_,rfl,rfl⟩
         · have c3':¬(hi':Int)=0:=by omega
           simp only [c3,c3',false_or,if_false]
           by_cases c4:hi'<lo
           · have c4':(hi':Int)<(lo:Int):=by omega
             simp only [c4,c4',if_true]
             exact ⟨by decide,_,rfl,rfl⟩
           · have c4':¬(hi':Int)<(lo:Int):=by omega
             simp only [c4,c4',if_false]
             by_cases c5:Rx.pk s.data.toList q=125
             · simp only [c5,if_true];rfl
             · simp only [c5,if_false,bind_self];exact oth_p
   · simp only [c1,if_false]
     have c0:¬(lo:Int)<(lo:Int):=by omega
     by_cases c3:lo=0
     · subst c3
       simp only [if_true,Int.natCast_zero]
       exact ⟨by decide,_,rfl,rfl⟩
     · have c3':¬(lo:Int)=0:=by omega
       simp only [c3,c3',c0,if_false]
       by_cases c5:Rx.pk s.data.toList p=125
       · simp only [c5,if_true];rfl
       · simp only [c5,if_false,bind_self];exact oth_p
theorem piece_p {N:Nat} (hN:s.size+20≤N) (hs:s.size≤100000) (hi:i≤s.size) {atm:Nat→Res Node} {rec:ByteArray→Int→Int→Option Gr13_P} {d:Int} (ha:RN (atm i) (rec s i d)) (F:Fine s.data.toList i (atm i)):
 RN (Rx.piece s.data.toList atm i) (r13_piece_g rec N s i d):=by
 unfold r13_piece_g Rx.piece
 cases hr:atm i with
 | out=>rw [hr] at F;exact F.elim
 | bad e p=>
   rw [hr] at ha
   obtain ⟨hz,x,hx,hf⟩:=ha
   have he:¬ x.F.E=0:=by rw [hf];exact hz
   simp only [hx,Option.bind_some,cm_neq,cond_not,cond_dec,he,if_false,_root_.cond_true]
   exact ⟨hz,x,rfl,hf⟩
 | ok n p=>
   rw [hr] at ha
   have ha:rec s i d=some (okN n p):=ha
   have hp:=Rd.fine_le F hr
   rw [size_list] at hp
   simp only [ha,Option.bind_some,okN,cm_neq,cond_not,cond_dec,if_true,cm_geq,sl_eq]
   by_cases c:p<s.size
   · have c':¬(s.size:Int)≤(p:Int):=by omega
     have e1:=inc1 (show p≤100000000 by omega)
     simp only [c',if_false,sin_in c,sa_pk c,_root_.cond_true,cm_eql,cond_dec,e1,bind_self]
     by_cases c1:Rx.pk s.data.toList p=42
     · simp only [c1,if_true];rfl
     by_cases c2:Rx.pk s.data.toList p=43
     · simp only [c1,c2,if_true,if_false];rfl
     by_cases c3:Rx.pk s.data.toList p=63
     · simp only [c1,c2,c3,if_true,if_false];rfl
     by_cases c4:Rx.pk s.data.toList p=123
     · simp only [c1,c2,c3,c4,if_true,if_false];exact braces_p hN hs c n
     · simp only [c1,c2,c3,c4,if_false];rfl
   · have c':(s.size:Int)≤(p:Int):=by omega
     simp only [c',if_true,pk_out c]
     exact rfl
end
end Pl
end Go.Proofs.YtpplemjjeefpdaaGreatDoor
namespace Go.Proofs.YtpplemjjeefpdaaGreatDoor
open Go
open Sh Gn
namespace Pl
theorem at_nat {α:Type} (l:List α) (i:Nat):at_ l (i:Int)=l[i]?:=by
 unfold at_;rw [if_pos (by omega)];simp
theorem at_0 {α:Type} (l:List α):at_ l 0=l[0]?:=at_nat l 0
theorem app_eq {α:Type} {c:α→List Ab.T} {l m:List α} (h:l.length+m.length≤1000000000):app c l m=some (l++m):=by unfold app;rw [if_pos h]
theorem join_from (k:Int) (parts:List Node):∀(m i:Nat) (acc:List Node),i≤parts.length→parts.length<i+m→parts.length≤1000000→acc.length+Node.sizes (parts.drop i)≤1000000→
 r13_join_l1 k parts m i acc=some (match acc++Rx.flat k (parts.drop i) with | [n]=>n | l=>.mk k CSet.empty l 0 0):=by
 intro m
 induction m with
 | zero=>intro i acc h1 h2;omega
 | succ m ih=>
   intro i acc h1 h2 h4 h3
   unfold r13_join_l1
   simp only [cm_lss,ll_eq,cond_dec,at_nat,cm_eql,bind_if]
   by_cases c:i<parts.length
   · have c':(i:Int)<(parts.length:Int):=by omega
     have e1:=inc1 (show i≤100000000 by omega)
     rw [List.drop_eq_getElem_cons c] at h3 ⊢
     rw [Node.sizes_cons] at h3
     have hk:=Node.kids_le parts[i]
     have hp:=Node.size_pos parts[i]
     simp only [c',if_true,List.getElem?_eq_getElem c,Option.bind_some,e1]
     by_cases g:(parts[i]).kind=k
     · simp only [g,if_true,app_eq (show acc.length+(parts[i]).kids.length≤1000000000 by omega),Option.bind_some]
       have hz:=Node.size_eq parts[i]
       have hl:=Node.length_le_sizes (parts[i]).kids
       rw [ih (i+1) _ (by omega) (by omega) h4 (by rw [List.length_append];omega)]
       rw [Rx.flat,if_pos g,List.append_assoc]
     · simp only [g,if_false,app_eq (show acc.length+[parts[i]].length≤1000000000 by simp only [List.length_singleton];omega),Option.bind_some]
       rw [ih (i+1) _ (by omega) (by omega) h4 (by rw [List.length_append,List.length_singleton];omega)]
       rw [Rx.flat,if_neg g,List.append_assoc];rfl
   · have c':¬(i:Int)<(parts.length:Int):=by omega
     simp only [c',if_false]
     rw [List.drop_of_length_le (by omega),Rx.flat,List.append_nil]
     by_cases g:acc.length=1
     · obtain ⟨n,rfl⟩:=List.length_eq_one_iff.1 g
       simp [at_0]
     · have g':¬(acc.length:Int)=1:=by omega
       simp only [g',if_false]
       match acc,g with
       | [],_=>rfl
       | [a],g=>exact absurd rfl g
       | a::b::r,_=>rfl
theorem join_p (k:Int) {parts:List Node} {N:Nat} (h:parts.length<N) (hz:Node.sizes parts≤1000000):r13_join_g N k parts=some (Rx.join k parts):=by
 have hl:=Node.length_le_sizes parts
 unfold r13_join_g Rx.join
 exact join_from k parts N 0 [] (by omega) (by omega) (by omega) (by simpa using hz)
section
variable {s:ByteArray} {i:Nat} {N:Nat} {atm:Nat→Res Node} {rec:ByteArray→Int→Int→Option Gr13_P} {d:Int}
theorem cat_from (hN:2*s.size+20≤N) (hs:s.size≤100000) (ha:∀i:Nat,i≤s.size→RN (atm i) (rec s i d)) (hf:∀i,i≤s.data.toList.length→Fine s.data.toList i (atm i)) (hl:Rx.Lean2 s.data.toList atm):
 ∀(m f j:Nat) (ns:List Node),j≤s.size→s.size<j+f→s.size<j+m→Node.sizes ns≤2*j→ns.length≤j→
 RN (match Rx.pieces s.data.toList atm f ns j with | .ok ms p=>.ok (Rx.join 2 ms) p | .bad e p=>.bad e p | .out=>.out) (r13_cat_l1 rec N s d m j ns):=by
 intro m
 induction m with
 | zero=>intro f j ns h1 h2 h3;omega
 | succ m ih=>
   intro f j ns h1 h2 h3 h4 h5
   obtain ⟨f,rfl⟩:∃g,f=g+1:=⟨f-1,by omega⟩
   unfold r13_cat_l1 Rx.pieces
   simp only [cm_lss,sl_eq,cond_dec,bind_if,cm_neq,cond_not]
   have stop:RN (.ok (Rx.join 2 ns) j) ((r13_join_g N 2 ns).bind fun a6=>some (⟨a6,CSet.empty,false,(j:Int),(⟨0,0⟩:GFault)⟩:Gr13_P)):=by
    rw [join_p 2 (by omega) (by omega)];exact rfl
   by_cases c:j<s.size
   · have c':(j:Int)<(s.size:Int):=by omega
     have hb:=pk_range c
     have hn:¬ Rx.pk s.data.toList j=-1:=by omega
     simp only [c',if_true,sin_in c,sa_pk c,_root_.cond_true,hn,false_or]
     by_cases c1:Rx.pk s.data.toList j=124
     · simp only [c1,if_true,true_or,Option.bind_some,cond_false];exact stop
     by_cases c2:Rx.pk s.data.toList j=41
     · simp only [c1,c2,if_true,if_false,or_true,Option.bind_some,cond_false,decide_true,Bool.not_true];exact stop
     simp only [c1,c2,if_false,or_false,Option.bind_some,decide_false,Bool.not_false,_root_.cond_true]
     have hP:=piece_p (N:=N) (show s.size+20≤N by omega) hs h1 (ha j h1) (hf j (by rw [size_list];omega))
     have F:=fine_piece s.data.toList atm j (hf j (by rw [size_list];omega))
     cases hr:Rx.piece s.data.toList atm j with
     | out=>rw [hr] at F;exact F.elim
     | bad e p=>
       rw [hr] at hP
       obtain ⟨hz,x,hx,hf'⟩:=hP
       have he:¬ x.F.E=0:=by rw [hf'];exact hz
       simp only [hx,Option.bind_some,he,if_false]
       exact ⟨hz,x,rfl,hf'⟩
     | ok n p=>
       rw [hr] at hP
       have hP:r13_piece_g rec N s j d=some (okN n p):=hP
       have hp:=Rd.fine_le F hr
       rw [size_list] at hp
       have hsz:=Rx.size_piece hl hf j n p (by rw [size_list];omega) hr
       simp only [hP,Option.bind_some,okN,if_true,app_eq (show ns.length+[n].length≤1000000000 by simp only [List.length_singleton];omega)]
       exact ih f p (ns++[n]) hp.2 (by omega) (by omega) (by rw [Node.sizes_append,Node.sizes_cons,Node.sizes_nil];omega) (by rw [List.length_append,List.length_singleton];omega)
   · have c':¬(j:Int)<(s.size:Int):=by omega
     simp only [c',if_false,pk_out c,true_or,if_true,Option.bind_some,cond_false]
     exact stop
theorem cat_p (hN:2*s.size+20≤N) (hs:s.size≤100000) (ha:∀i:Nat,i≤s.size→RN (atm i) (rec s i d)) (hf:∀i,i≤s.data.toList.length→Fine s.data.toList i (atm i)) (hl:Rx.Lean2 s.data.toList atm) (hi:i≤s.size):
 RN (Rx.cat s.data.toList atm i) (r13_cat_g rec N s i d):=by
 unfold r13_cat_g Rx.cat
 exact cat_from hN hs ha hf hl N (s.data.toList.length+1) i [] hi (by rw [size_list];omega) (by omega) (by rw [Node.sizes_nil];omega) (by simp)
theorem alt_from (hN:2*s.size+20≤N) (hs:s.size≤100000) (ha:∀i:Nat,i≤s.size→RN (atm i) (rec s i d)) (hf:∀i,i≤s.data.toList.length→Fine s.data.toList i (atm i)) (hl:Rx.Lean2 s.data.toList atm):
 ∀(m f j:Nat) (ns:List Node),j≤s.size→s.size<j+f→s.size<j+m→Node.sizes ns≤2*j+1→ns.length≤j+1→∀v4 v5 v6 v7 v8 v9 v10 v12 v13,
 RN (match Rx.cats s.data.toList atm f ns j with | .ok ms p=>.ok (Rx.join 3 ms) p | .bad e p=>.bad e p | .out=>.out) (r13_alt_l1 rec N s d m v4 v5 v6 v7 v8 v9 v10 j v12 v13 ns):=by
 intro m
 induction m with
 | zero=>intro f j ns h1 h2 h3;omega
 | succ m ih=>
   intro f j ns h1 h2 h3 h4 h5 v4 v5 v6 v7 v8 v9 v10 v12 v13
   obtain ⟨f,rfl⟩:∃g,f=g+1:=⟨f-1,by omega⟩
   unfold r13_alt_l1 Rx.cats
   rw [is_p (by decide),inc1 (show j≤100000000 by omega)]
   simp only [Option.bind_some,cond_dec,cm_neq,cond_not]
   by_cases c:Rx.pk s.data.toList j=124
   · have hj:j<s.size:=Nat.lt_of_not_le fun g=>by rw [pk_out (by omega)] at c;cases c
     simp only [c,if_true]
     have hP:=cat_p hN hs ha hf hl (show j+1≤s.size by omega)
     have F:=fine_cat s.data.toList atm hf (j+1) (by rw [size_list];omega)
     cases hr:Rx.cat s.data.toList atm (j+1) with
     | out=>rw [hr] at F;exact F.elim
     | bad e p=>
       rw [hr] at hP
       obtain ⟨hz,x,hx,hf'⟩:=hP
       have he:¬ x.F.E=0:=by rw [hf'];exact hz
       simp only [hx,Option.bind_some,he,if_false]
       exact ⟨hz,x,rfl,hf'⟩
     | ok n p=>
       rw [hr] at hP F
       have hP:r13_cat_g rec N s ((j+1:Nat):Int) d=some (okN n p):=hP
       have hp:j+1≤p∧p≤s.data.toList.length:=F
       rw [size_list] at hp
       have hsz:=Rx.size_cat hl hf (by rw [size_list];omega) hr
       simp only [hP,Option.bind_some,okN,if_true,app_eq (show ns.length+[n].length≤1000000000 by simp only [List.length_singleton];omega)]
       exact ih f p (ns++[n]) hp.2 (by omega) (by omega) (by rw [Node.sizes_append,Node.sizes_cons,Node.sizes_nil];omega) (by rw [List.length_append,List.length_singleton];omega) _ _ _ _ _ _ _ _ _
   · simp only [c,if_false]
     rw [join_p 3 (by omega) (by omega)];exact rfl
theorem alt_p (hN:2*s.size+20≤N) (hs:s.size≤100000) (ha:∀i:Nat,i≤s.size→RN (atm i) (rec s i d)) (hf:∀i,i≤s.data.toList.length→Fine s.data.toList i (atm i)) (hl:Rx.Lean2 s.data.toList atm) (hi:i≤s.size):
 RN (Rx.alt s.data.toList atm i) (r13_alt_g rec N s i d):=by
 unfold r13_alt_g
 have hP:=cat_p hN hs ha hf hl hi
 have F:=fine_cat s.data.toList atm hf i (by rw [size_list];omega)
 cases hr:Rx.cat s.data.toList atm i with
 | out=>rw [hr] at F;exact F.elim
 | bad e p=>
   rw [Rd.alt_bad hr]
   rw [hr] at hP
   obtain ⟨hz,x,hx,hf'⟩:=hP
   have he:¬ x.F.E=0:=by rw [hf'];exact hz
   simp only [hx,Option.bind_some,cm_neq,cond_not,cond_dec,he,if_false,_root_.cond_true]
   exact ⟨hz,x,rfl,hf'⟩
 | ok n p =>
   rw [hr] at hP F
   have hP:r13_cat_g rec N s i d=some (okN n p):=hP
   have hp:i≤p∧p≤s.data.toList.length:=F
   rw [size_list] at hp
   have hsz:=Rx.size_cat hl hf (by rw [size_list];omega) hr
   have g1:r13_is_g s p 124=some (decide (Rx.pk s.data.toList p=124)):=is_p (by decide)
   simp only [hP,Option.bind_some,okN,cm_neq,cond_not,cond_dec,if_true,g1]
   have key:=alt_from hN hs ha hf hl N (s.data.toList.length+1) p [n] hp.2 (by rw [size_list];omega) (by omega) (by rw [Node.sizes_cons,Node.sizes_nil];omega) (by simp) n.kind n.set n.kids n.min n.max CSet.empty false 0 0
   by_cases c:Rx.pk s.data.toList p=124
   · simp only [c,if_true,decide_true,Bool.not_true,cond_false]
     have S:=Rx.size_cats hl hf (s.data.toList.length+1) [n] p
     have Fc:=fine_cats s.data.toList atm hf (s.data.toList.length+1) [n] p (by rw [size_list];omega) (by rw [size_list];omega)
     cases hc:Rx.cats s.data.toList atm (s.data.toList.length+1) [n] p with
     | out=>rw [hc] at Fc;exact Fc.elim
     | bad e q=>
       rw [Rd.alt_bad2 hr hc]
       rw [hc] at key
       exact key
     | ok ms q=>
       have hm:ms.length≠1:=by
        rcases S ms q (by rw [size_list];omega) hc with ⟨h1,h2⟩ | ⟨h1 | h1,_⟩
        · exfalso
          have hq:p<s.size:=Nat.lt_of_not_le fun g=>by rw [pk_out (by omega)] at c;cases c
          rw [Rx.cats,if_pos c] at hc
          cases hr':Rx.cat s.data.toList atm (p+1) with
          | bad e z=>rw [hr'] at hc;cases hc
          | out=>rw [hr'] at hc;cases hc
          | ok n' z=>
            rw [hr'] at hc
            have F':=fine_cat s.data.toList atm hf (p+1) (by rw [size_list];omega)
            rw [hr'] at F'
            have F':p+1≤z∧z≤s.data.toList.length:=F'
            have G:=fine_cats s.data.toList atm hf s.data.toList.length ([n]++[n']) z F'.2 (by omega)
            rw [show Rx.cats s.data.toList atm s.data.toList.length ([n]++[n']) z=.ok ms q from hc] at G
            have G:z≤q∧q≤s.data.toList.length:=G
            omega
        · omega
        · cases h1
       rw [Rd.alt_many hr hc hm]
       rw [hc] at key
       exact key
   · simp only [c,if_false,decide_false,Bool.not_false,_root_.cond_true]
     rw [Rd.alt_one hr (by rw [Rx.cats,if_neg c])]
     exact rfl
end
end Pl
end Go.Proofs.YtpplemjjeefpdaaGreatDoor
namespace Go.Proofs.YtpplemjjeefpdaaGreatDoor
open Go
open Sh Gn
namespace Pl
theorem wrong_any (b:Int) (h:0≤b):((ByteArray.mk #[41,93,123,125,124,42,43,63]).data.toList.any fun x=>decide ((x.toNat:Int)=b))=Rx.wrongAtom b:=by
 rw [Bool.eq_iff_iff,Rd.wrong_iff]
 simp
 omega
section
variable {s:ByteArray} {i:Nat} {N:Nat}
theorem atom_s (hN:2*s.size+20≤N) (hs:s.size≤100000) (dd:Nat) (hd:dd≤16) (hi:i≤s.size) (H:∀d',dd=d'+1→∀i:Nat,i≤s.size→RN (Rx.atom s.data.toList d' i) (r13_atom_g N s i (16-(d':Int)))):
 RN (Rx.atom s.data.toList dd i) (r13_atom_g (N+1) s i (16-(dd:Int))):=by
 unfold r13_atom_g
 simp only [cm_geq,sl_eq,cond_dec]
 by_cases c:i<s.size
 · have c' :¬(s.size:Int)≤(i:Int):=by omega
   have hb:=pk_range c
   have e1:=inc1 (show i≤100000000 by omega)
   simp only [c',if_false,sin_in c,sa_pk c,_root_.cond_true,among_p (Rx.pk s.data.toList i) (ByteArray.mk #[41,93,123,125,124,42,43,63]) (N:=N) (by decide) (show 8<N by omega),wrong_any _ hb.1,Option.bind_some,bind_self,cm_eql,cond_dec,e1]
   by_cases w:Rx.wrongAtom (Rx.pk s.data.toList i)=true
   · rw [Rd.atom_wrong w]
     simp only [w,_root_.cond_true]
     exact oth_p
   · have w':Rx.wrongAtom (Rx.pk s.data.toList i)=false:=by simpa using w
     simp only [w',cond_false]
     by_cases c1:Rx.pk s.data.toList i=40
     · simp only [c1,if_true]
       cases dd with
       | zero=>
         rw [Rd.atom_0 w c1]
         have:(16:Int)-((0:Nat):Int)=16:=by decide
         simp only [this,if_true]
         exact ⟨by decide,_,rfl,rfl⟩
       | succ d'=>
         have hne:¬(16:Int)-((d'+1:Nat):Int)=16:=by omega
         have e2:ar .add .i64 ((16:Int)-((d'+1:Nat):Int)) 1=16-(d':Int):=by rw [ar_add (by omega) (by omega)];omega
         simp only [hne,if_false,e2]
         have hP:=alt_p (N:=N) hN hs (H d' rfl) (fun i hi=>fine_atom s.data.toList d' i hi) (Rx.size_atom s.data.toList d') (show i+1≤s.size by omega)
         have F:=fine_alt s.data.toList _ (fun i hi=>fine_atom s.data.toList d' i hi) (i+1) (by rw [size_list];omega)
         rw [Rx.atom,if_neg w,if_pos c1]
         cases hr:Rx.alt s.data.toList (Rx.atom s.data.toList d') (i+1) with
         | out=>rw [hr] at F;exact F.elim
         | bad e p=>
           rw [hr] at hP
           obtain ⟨hz,x,hx,hf⟩:=hP
           have he:¬ x.F.E=0:=by rw [hf];exact hz
           simp only [hx,Option.bind_some,he,if_false,cond_false]
           exact ⟨hz,_,rfl,hf⟩
         | ok n p=>
           rw [hr] at hP F
           have hP:r13_alt_g (r13_atom_g N) N s ((i+1:Nat):Int) (16-(d':Int))=some (okN n p):=hP
           have hp:i+1≤p∧p≤s.data.toList.length:=F
           rw [size_list] at hp
           have g1:r13_is_g s p 41=some (decide (Rx.pk s.data.toList p=41)):=is_p (by decide)
           have e3:=inc1 (show p≤100000000 by omega)
           simp only [hP,Option.bind_some,okN,if_true,g1,e3]
           by_cases c2:Rx.pk s.data.toList p=41
           · simp only [c2,if_true,decide_true,Bool.not_true,cond_false];rfl
           · simp only [c2,if_false,decide_false,Bool.not_false,_root_.cond_true];exact oth_p
     by_cases c2:Rx.pk s.data.toList i=46
     · rw [Rd.atom_46 w c2]
       simp only [c1,c2,if_true,if_false,between_p (a:=0) (b:=255) (by decide) (by decide),Option.bind_some]
       rfl
     by_cases c3:Rx.pk s.data.toList i=91
     · simp only [c1,c2,c3,if_true,if_false]
       have h:=class_p (s:=s) (i:=i+1) (show s.size+20≤N by omega) hs (by omega)
       have F:=fine_cls s.data.toList (i+1) (by rw [size_list];omega)
       cases hr:Rx.cls s.data.toList (i+1) with
       | out=>rw [hr] at F;exact F.elim
       | bad e p=>rw [hr] at h;rw [Rd.atom_clsbad w c3 hr];exact h
       | ok S p=>rw [hr] at h;rw [Rd.atom_cls w c3 hr];exact h
     by_cases c4:Rx.pk s.data.toList i=92
     · simp only [c1,c2,c3,c4,if_true,if_false]
       have h:=esc_p (s:=s) (i:=i) (show 20≤N by omega) (by omega) (by omega)
       have F:=fine_esc s.data.toList i
       cases hr:Rx.esc s.data.toList i with
       | out=>rw [hr] at F;exact F.elim
       | bad e p=>
         rw [hr] at h
         obtain ⟨hz,x,hx,hf⟩:=h
         have he:¬ x.F.E=0:=by rw [hf];exact hz
         rw [Rd.atom_escbad w c4 hr]
         simp only [hx,Option.bind_some,cm_neq,cond_not,cond_dec,he,if_false]
         exact ⟨hz,x,rfl,hf⟩
       | ok a p=>
         rw [hr] at h
         have h:r13_escape_g N s i=some (okS a.1 a.2 p):=h
         rw [Rd.atom_esc w c4 hr]
         simp only [h,okS,Option.bind_some,cm_neq,cond_not,cond_dec,if_true]
         rfl
     · rw [Rd.atom_else w c1 c2 c3 c4]
       simp only [c1,c2,c3,c4,if_false]
       have ec:cv .i64 (Rx.pk s.data.toList i)=Rx.pk s.data.toList i:=cv_i64 (by omega) (by omega)
       rw [ec,between_p hb hb]
       exact rfl
 · have c':(s.size:Int)≤(i:Int):=by omega
   simp only [c',if_true,Option.bind_some,_root_.cond_true]
   have w:Rx.wrongAtom (Rx.pk s.data.toList i)=true:=by rw [pk_out c];rfl
   rw [Rd.atom_wrong w,bind_self]
   exact oth_p
theorem atom_p (hs:s.size≤100000):∀(dd N:Nat),2*s.size+20+dd<N→dd≤16→∀i:Nat,i≤s.size→RN (Rx.atom s.data.toList dd i) (r13_atom_g N s i (16-(dd:Int))):=by
 intro dd
 induction dd with
 | zero=>
   intro N hN hd i hi
   obtain ⟨N,rfl⟩:∃M,N=M+1:=⟨N-1,by omega⟩
   exact atom_s (by omega) hs 0 hd hi fun d' h=>by omega
 | succ dd ih=>
   intro N hN hd i hi
   obtain ⟨N,rfl⟩:∃M,N=M+1:=⟨N-1,by omega⟩
   exact atom_s (by omega) hs (dd+1) hd hi fun d' h=>by
    obtain rfl:dd=d':=by omega
    exact ih N (by omega) (by omega)
theorem parse_p (hN:1000≤N):r13_Parse_g N s=some ((Rx.parse s.data.toList).1,⟨(Rx.parse s.data.toList).2.1,((Rx.parse s.data.toList).2.2:Int)⟩):=by
 unfold r13_Parse_g
 simp only [cm_gtr,sl_eq,cond_dec]
 by_cases c:256<s.size
 · have c':(256:Int)<(s.size:Int):=by omega
   simp only [c',if_true]
   rw [Rx.parse,if_pos (by rw [size_list];omega)]
   rfl
 · have c':¬(256:Int)<(s.size:Int):=by omega
   have hl:s.data.toList.length≤256:=by rw [size_list];omega
   simp only [c',if_false]
   have hP:=alt_p (s:=s) (i:=0) (N:=N) (atm:=Rx.atom s.data.toList 16) (rec:=r13_atom_g N) (d:=0) (by omega) (by omega) (atom_p (by omega) 16 N (by omega) (by omega)) (fun i hi=>fine_atom s.data.toList 16 i hi) (Rx.size_atom s.data.toList 16) (by omega)
   have F:=fine_alt s.data.toList _ (fun i hi=>fine_atom s.data.toList 16 i hi) 0 (by omega)
   cases hr:Rx.alt s.data.toList (Rx.atom s.data.toList 16) 0 with
   | out=>rw [hr] at F;exact F.elim
   | bad e p=>
     rw [hr] at hP
     obtain ⟨hz,x,hx,hf⟩:=hP
     have hx:r13_alt_g (r13_atom_g N) N s 0 0=some x:=hx
     have he:¬ x.F.E=0:=by rw [hf];exact hz
     have hz':¬ e=0:=hz
     simp only [hx,Option.bind_some,cm_eql,cm_neq,cond_not,cond_dec,if_false,cond_false,Rd.par_bad hl hr,hf,hz']
     rfl
   | ok n p=>
     rw [hr] at hP F
     have hP:r13_alt_g (r13_atom_g N) N s 0 0=some (okN n p):=hP
     have hp:0≤p∧p≤s.data.toList.length:=F
     rw [size_list] at hp
     simp only [hP,Option.bind_some,okN,cm_eql,cm_neq,cm_lss,cond_not,cond_dec,if_true]
     by_cases c2:p<s.size
     · have c2':(p:Int)<(s.size:Int):=by omega
       obtain ⟨e,q,h1,h2,x,h3,h4⟩:=other_p (s:=s) (i:=p) (α:=Node)
       have h2':¬ e=0:=h2
       simp only [c2',if_true,decide_true,_root_.cond_true,h3,Option.bind_some,if_false,Rd.par_more hl hr (by rw [size_list];exact c2) h1,h4,h2']
       rfl
     · have c2':¬(p:Int)<(s.size:Int):=by omega
       simp only [c2',if_false,decide_false,cond_false,Option.bind_some,if_true,Rd.par_ok hl hr (by rw [size_list];exact c2)]
       cases n;rfl
end
end Pl
end Go.Proofs.YtpplemjjeefpdaaGreatDoor
namespace Go.Proofs.YtpplemjjeefpdaaGreatDoor
open Go
open Sh Gn
namespace Pl
theorem ite_and {p q:Prop} [Decidable p] [Decidable q]:(if p then some (decide q) else some false)=some (decide (p∧q)):=by by_cases p<;>by_cases q<;>simp_all
theorem ite_or {p q:Prop} [Decidable p] [Decidable q]:(if p then some true else some (decide q))=some (decide (p∨q)):=by by_cases p<;>by_cases q<;>simp_all
section
variable {s:ByteArray} {i:Nat}
def trailB (l:List UInt8):Nat→Nat→Prop
 | _,0=>True
 | q,k+1=>(128≤Qu.bt l q∧Qu.bt l q≤191)∧trailB l (q+1) k
instance trailD (l:List UInt8):∀q k,Decidable (trailB l q k)
 | _,0=>isTrue trivial
 | q,k+1=>@instDecidableAnd _ _ _ (trailD l (q+1) k)
end
end Pl
end Go.Proofs.YtpplemjjeefpdaaGreatDoor
namespace Go.Proofs.YtpplemjjeefpdaaGreatDoor
open Go
open Sh Gn
namespace Pl
def toM (g:GMatcher):Mt.M:=⟨g.Name,g.Op,g.Value⟩
end Pl
end Go.Proofs.YtpplemjjeefpdaaGreatDoor
namespace Go.Proofs.YtpplemjjeefpdaaGreatDoor
open Go
open Sh Gn
namespace Pl
theorem conj3 {a b c:Bool}:conj [a,b,c]=(a&&(b&&c)):=by show (a&&(b&&(c&&true)))=_;rw [Bool.and_true]
theorem eql_self (x:Int):cm .eql x x=true:=by rw [cm_eql];exact decide_eq_true rfl
theorem seql_self (x:ByteArray):sc .eql x x=true:=by rw [sc_eql];exact decide_eq_true rfl
end Pl
end Go.Proofs.YtpplemjjeefpdaaGreatDoor
namespace Go.Proofs.YtpplemjjeefpdaaGreatDoor
open Go
open Sh Gn
namespace Pl
theorem at_get {α:Type} {l:List α} {k:Nat} (h:k<l.length):at_ l (k:Int)=some l[k]:=by
 unfold at_
 rw [if_pos (by omega),Int.toNat_natCast,List.getElem?_eq_getElem h]
theorem kid_size {n c:Node} (h:c∈n.kids):c.size+1≤n.size:=by
 rw [Node.size_eq n]
 have key:∀l:List Node,c∈l→c.size≤Node.sizes l:=by
  intro l
  induction l with
  | nil=>intro h;cases h
  | cons a r ih=>
    intro h
    rw [Node.sizes_cons]
    rcases List.mem_cons.1 h with rfl | h
    · omega
    · have:=ih h;omega
 have:=key _ h
 omega
end Pl
end Go.Proofs.YtpplemjjeefpdaaGreatDoor
namespace Go.Proofs.YtpplemjjeefpdaaGreatDoor
open Go
open Sh Gn
namespace Pl
open Mx (Pos orP zr iter upto more Sup Adds Keeps sp)
def tab (M:Nat) (x:Pos):List Bool:=(List.range M).map x
def jn (a b:Pos) (k:Nat):Pos:=fun j=>if j<k then a j||b j else a j
def fr (a b:Pos) (k:Nat):Bool:=(List.range k).any fun j=>b j&& !a j
end Pl
end Go.Proofs.YtpplemjjeefpdaaGreatDoor
namespace Go.Proofs.YtpplemjjeefpdaaGreatDoor
open Go
open Sh Gn
namespace Pl
theorem parse_size (l:List UInt8):(Rx.parse l).1.size≤1000:=by
 have hz:Rx.zero.size≤1000:=by simp [Rx.zero,Node.size_eq,Node.kids,Node.sizes_nil]
 unfold Rx.parse
 split
 · exact hz
 · cases hr:Rx.alt l (Rx.atom l 16) 0 with
   | bad e p=>exact hz
   | out=>exact hz
   | ok n p=>
     have h1:=Rx.size_alt (Rx.size_atom l 16) (fine_atom l 16) (Nat.zero_le _) hr
     have hfi:=fine_alt l (Rx.atom l 16) (fine_atom l 16) 0 (Nat.zero_le _)
     rw [hr] at hfi
     have h2:p≤l.length:=hfi.2
     dsimp only
     split
     · split<;>exact hz
     · show n.size≤1000;omega
theorem cost_l (rec:Node→Int→Option Int) (n:Node) (x:Int) (hl:n.kids.length≤10000) (hr:∀c∈n.kids,∃r,rec c x=some r):∀(m k:Nat) (v:Int),k≤n.kids.length→n.kids.length<k+m→∃r,r15_cost_l1 rec n x m v k=some r:=by
 intro m
 induction m with
 | zero=>intro k v h1 h2;omega
 | succ m ih=>
   intro k v h1 h2
   rw [r15_cost_l1,cm_lss,cond_dec,ll_eq]
   by_cases c:k<n.kids.length
   · obtain ⟨r,h⟩:=hr _ (List.getElem_mem c)
     rw [if_pos (by omega),at_get c,inc1 (by omega),Option.bind_some,h,Option.bind_some,cm_gtr,cond_dec]
     split
     · exact ⟨_,rfl⟩
     · exact ih (k+1) _ (by omega) (by omega)
   · rw [if_neg (by omega)]
     simp only [cm_lss,cm_eql,cm_leq,cm_geq,cm_gtr,cond_dec,ite_and,Option.bind_some]
     (repeat' split)<;>exact ⟨_,rfl⟩
theorem cost_p (x:Int):∀(m:Nat) (n:Node),n.size≤m→m≤1000→∀N,m+10000≤N→∃r,r15_cost_g N n x=some r:=by
 intro m
 induction m with
 | zero=>intro n h;have:=n.size_pos;omega
 | succ m ih=>
   intro n h hm N hN
   obtain ⟨N,rfl⟩:∃M,N=M+1:=⟨N-1,by omega⟩
   have hk:=n.kids_le
   rw [r15_cost_g]
   exact cost_l (r15_cost_g N) n x (by omega) (fun c hc=>ih c (by have:=kid_size hc;omega) (by omega) N (by omega)) N 0 1 (by omega) (by omega)
end Pl
end Go.Proofs.YtpplemjjeefpdaaGreatDoor
namespace Go.Proofs.YtpplemjjeefpdaaGreatDoor
open Go
open Sh Gn
namespace Pl
def Mild (p:List GLabel) (x:GMatcher):Prop:=x.Value.size≤1200∧x.Name.size≤100∧(x.Op≤2∨∀y∈p,y.Name=x.Name→y.Value.size≤12)
theorem great2_p {N:Nat} (hN:30000≤N) (g:GMatcher) (k:Nat):∃b,r22_Great_g N g k=some b∧(b=false→g.Value.size≤1200∧g.Name.size≤100∧(g.Op≤2∨k≤12)):=by
 unfold r22_Great_g
 simp only [cm_lss,cm_gtr,cm_eql,cond_dec,ite_or,sl_eq,Option.bind_some]
 by_cases c1:g.Op<3
 · rw [if_pos c1]
   refine ⟨_,rfl,fun h=>?_⟩
   have:=of_decide_eq_false h
   omega
 rw [if_neg c1]
 by_cases c2:(60:Int)<g.Value.size∨(100:Int)<g.Name.size∨(12:Int)<k
 · rw [if_pos c2]
   exact ⟨_,rfl,fun h=>by cases h⟩
 rw [if_neg c2,parse_p (by omega),Option.bind_some]
 unfold r15_Great_g
 obtain ⟨r,hr⟩:=cost_p k 1000 (Rx.parse g.Value.data.toList).1 (parse_size _) (by omega) N (by omega)
 rw [hr]
 simp only [Option.bind_some,cm_gtr,bind_self]
 split
 · exact ⟨_,rfl,fun _=>by omega⟩
 · exact ⟨_,rfl,fun _=>by omega⟩
theorem sgreat_in {N:Nat} (hN:30000≤N) (l:List GMatcher) (p:List GLabel) (hp:p.length≤10000) (k1:Int→Option Bool) (i:Nat) (hi:i<l.length) (hi2:i≤10000):∀(m k:Nat),k≤p.length→p.length<k+m→
 r23_Great_l2 N k1 l p i m k=some true∨(r23_Great_l2 N k1 l p i m k=k1 ((i+1:Nat):Int)∧∀j (h:j<p.length),k≤j→p[j].Name=l[i].Name→l[i].Op≤2∨p[j].Value.size≤12):=by
 intro m
 induction m with
 | zero=>intro k h1 h2;omega
 | succ m ih =>
   intro k h1 h2
   rw [r23_Great_l2]
   by_cases c:k<p.length
   · obtain ⟨b,hb,hb2⟩:=great2_p hN l[i] p[k].Value.size
     rw [cm_lss,cond_dec,ll_eq,if_pos (by omega),at_get c,at_get hi,inc1 (by omega)]
     simp only [Option.bind_some,sc_eql,sl_eq,hb]
     by_cases e:p[k].Name=l[i].Name
     · simp only [e,decide_true,_root_.cond_true]
       cases b with
       | true=>exact .inl rfl
       | false=>
         rw [_root_.cond_false]
         rcases ih (k+1) (by omega) (by omega) with h | ⟨h,h'⟩
         · exact .inl h
         · refine .inr ⟨h,fun j hj hkj hn=>?_⟩
           rcases Nat.lt_or_ge k j with h3 | h3
           · exact h' j hj h3 hn
           · obtain rfl:j=k:=by omega
             exact (hb2 rfl).2.2
     · simp only [e,decide_false,_root_.cond_false]
       rcases ih (k+1) (by omega) (by omega) with h | ⟨h,h'⟩
       · exact .inl h
       · refine .inr ⟨h,fun j hj hkj hn=>?_⟩
         rcases Nat.lt_or_ge k j with h3 | h3
         · exact h' j hj h3 hn
         · obtain rfl:j=k:=by omega
           exact absurd hn e
   · rw [cm_lss,cond_dec,ll_eq,if_neg (by omega),inc1 (by omega)]
     exact .inr ⟨rfl,fun j hj hkj _=>by omega⟩
theorem sgreat_from {N:Nat} (hN:30000≤N) (l:List GMatcher) (p:List GLabel) (hl:l.length≤10000) (hp:p.length≤10000):∀(m k:Nat),k≤l.length→l.length<k+m→
 ∃b,r23_Great_l1 N l p m k=some b∧(b=false→∀j (h:j<l.length),k≤j→Mild p l[j]):=by
 intro m
 induction m with
 | zero=>intro k h1 h2;omega
 | succ m ih =>
   intro k h1 h2
   rw [r23_Great_l1]
   by_cases c:k<l.length
   · obtain ⟨b,hb,hb2⟩:=great2_p hN l[k] 0
     rw [show ((0:Nat):Int)=0 from rfl] at hb
     rw [cm_lss,cond_dec,ll_eq,if_pos (by omega),at_get c,Option.bind_some,hb,Option.bind_some]
     cases b with
     | true=>exact ⟨true,rfl,fun h=>by cases h⟩
     | false =>
       rw [_root_.cond_false]
       rcases sgreat_in hN l p hp (r23_Great_l1 N l p m) k c (by omega) N 0 (by omega) (by omega) with h | ⟨h,h'⟩
       · exact ⟨true,h,fun h=>by cases h⟩
       · rw [show ((0:Nat):Int)=0 from rfl] at h
         rw [h]
         obtain ⟨b,q1,q2⟩:=ih (k+1) (by omega) (by omega)
         refine ⟨b,q1,fun e j hj hkj=>?_⟩
         rcases Nat.lt_or_ge k j with h3 | h3
         · exact q2 e j hj h3
         · obtain rfl:j=k:=by omega
           obtain ⟨s1,s2,s3⟩:=hb2 rfl
           refine ⟨s1,s2,?_⟩
           by_cases h4:l[j].Op≤2
           · exact .inl h4
           · refine .inr fun y hy hn=>?_
             obtain ⟨q,hq,rfl⟩:=List.mem_iff_getElem.1 hy
             rcases h' q hq (by omega) hn with h5 | h5
             · omega
             · exact h5
   · rw [cm_lss,cond_dec,ll_eq,if_neg (by omega)]
     exact ⟨false,rfl,fun _ j hj hkj=>by omega⟩
theorem sgreat_p {N:Nat} (hN:30000≤N) (l:List GMatcher) (p:List GLabel):∃b,r23_Great_g N l p=some b∧(b=false→l.length≤70∧p.length≤40∧∀x∈l,Mild p x):=by
 unfold r23_Great_g
 simp only [cm_gtr,cond_dec,ll_eq,ite_or,Option.bind_some]
 by_cases c:(70:Int)<l.length∨(40:Int)<p.length
 · rw [if_pos c];exact ⟨true,rfl,fun h=>by cases h⟩
 · rw [if_neg c]
   obtain ⟨b,h1,h2⟩:=sgreat_from hN l p (by omega) (by omega) N 0 (by omega) (by omega)
   refine ⟨b,h1,fun e=>⟨by omega,by omega,fun x hx=>?_⟩⟩
   obtain ⟨j,hj,rfl⟩:=List.mem_iff_getElem.1 hx
   exact h2 e j hj (by omega)
end Pl
end Go.Proofs.YtpplemjjeefpdaaGreatDoor
namespace Go.Proofs.YtpplemjjeefpdaaGreatDoor
open Go
open Sh Gn
namespace Pl
theorem rcmp_from {a b:ByteArray} (ha:a.size≤10000) (hb:b.size≤10000):∀(m k:Nat),k≤a.size→k≤b.size→a.size<k+m→r02_Compare_l1 a b m k=some (Mt.cmpL (a.data.toList.drop k) (b.data.toList.drop k)):=by
 intro m
 induction m with
 | zero=>intro k h1 h2 h3;omega
 | succ m ih=>
   intro k h1 h2 h3
   unfold r02_Compare_l1
   simp only [cm_lss,cm_gtr,cond_dec,sl_eq,ite_and,Option.bind_some]
   by_cases c1:k<a.size
   · by_cases c2:k<b.size
     · rw [if_pos (by omega),sin_in c1,sin_in c2,inc1 (by omega)]
       simp only [_root_.cond_true]
       have e1:a.data.toList.drop k=a[k]::a.data.toList.drop (k+1):=by rw [List.drop_eq_getElem_cons (by rw [size_list];exact c1)];rfl
       have e2:b.data.toList.drop k=b[k]::b.data.toList.drop (k+1):=by rw [List.drop_eq_getElem_cons (by rw [size_list];exact c2)];rfl
       have f1:sa a (k:Int)=(a[k].toNat:Int):=by
        show ((a.data.getD _ 0).toNat:Int)=_
        rw [Int.toNat_natCast,Array.getD_eq_getD_getElem?,Array.getElem?_eq_getElem c1];rfl
       have f2:sa b (k:Int)=(b[k].toNat:Int):=by
        show ((b.data.getD _ 0).toNat:Int)=_
        rw [Int.toNat_natCast,Array.getD_eq_getD_getElem?,Array.getElem?_eq_getElem c2];rfl
       rw [f1,f2,e1,e2,ih (k+1) (by omega) (by omega) (by omega)]
       unfold Mt.cmpL
       rw [Op.bytesLess]
       have g1:(a[k]<b[k])=(a[k].toNat<b[k].toNat):=rfl
       have g2:(a[k]=b[k])=(a[k].toNat=b[k].toNat):=propext UInt8.toNat_inj.symm
       rcases Nat.lt_trichotomy a[k].toNat b[k].toNat with h | h | h
       · rw [if_pos (by omega)];simp [g1,h]
       · have g:a[k]=b[k]:=by rw [g2];exact h
         rw [if_neg (by omega),if_neg (by omega),g];simp
       · have gn:¬ a[k].toNat<b[k].toNat:=by omega
         have gm:¬ a[k].toNat=b[k].toNat:=by omega
         rw [if_neg (by omega),if_pos (by omega)]
         simp [g1,g2,gn,gm]
     · have e2:b.data.toList.drop k=[]:=List.drop_of_length_le (by rw [size_list];omega)
       have e1:a.data.toList.drop k=a[k]::a.data.toList.drop (k+1):=by rw [List.drop_eq_getElem_cons (by rw [size_list];exact c1)];rfl
       rw [if_neg (by omega),if_neg (by omega),if_pos (by omega),e1,e2]
       simp [Mt.cmpL,Op.bytesLess]
   · have e1:a.data.toList.drop k=[]:=List.drop_of_length_le (by rw [size_list];omega)
     rw [if_neg (by omega),e1]
     by_cases c2:k<b.size
     · have e2:b.data.toList.drop k=b[k]::b.data.toList.drop (k+1):=by rw [List.drop_eq_getElem_cons (by rw [size_list];exact c2)];rfl
       rw [if_pos (by omega),e2]
       simp [Mt.cmpL,Op.bytesLess]
     · have e2:b.data.toList.drop k=[]:=List.drop_of_length_le (by rw [size_list];omega)
       rw [if_neg (by omega),if_neg (by omega),e2]
       simp [Mt.cmpL,Op.bytesLess]
theorem rcmp_p {a b:ByteArray} {N:Nat} (hN:20000≤N) (ha:a.size≤10000) (hb:b.size≤10000):r02_Compare_g N a b=some (Mt.cmpL a.data.toList b.data.toList):=by
 have:=rcmp_from ha hb N 0 (by omega) (by omega) (by omega)
 exact this
theorem rmcmp_p {N:Nat} (hN:20000≤N) (a b:GMatcher) (h1:a.Value.size≤10000) (h2:b.Value.size≤10000) (h3:a.Name.size≤10000) (h4:b.Name.size≤10000):r22_Compare_g N a b=some (Mt.cmp (toM a) (toM b)):=by
 unfold r22_Compare_g Mt.cmp Mt.cmpI toM
 rw [rcmp_p hN h3 h4,rcmp_p hN h1 h2]
 simp only [Option.bind_some,cm_neq,cm_lss,cm_gtr,cond_not,cond_dec,bind_self]
 by_cases c1:Mt.cmpL a.Name.data.toList b.Name.data.toList=0
 · simp only [c1,if_true,ne_eq,not_true_eq_false,if_false]
   by_cases c2:a.Op<b.Op
   · simp [c2]
   · by_cases c3:a.Op=b.Op
     · simp [c3]
     · have:b.Op<a.Op:=by omega
       simp [c2,c3,this]
 · simp only [c1,if_false,ne_eq,not_false_eq_true,if_true]
end Pl
end Go.Proofs.YtpplemjjeefpdaaGreatDoor
namespace Go.Proofs.YtpplemjjeefpdaaGreatDoor
open Go
open Sh Gn
namespace Pl
theorem samesel_from (l:List GMatcher) (hl:l.length≤100000):∀(m k:Nat),k≤l.length→l.length<k+m→porterbase_SameSel_l1 l l m k=some true:=by
 intro m
 induction m with
 | zero=>intro k h1 h2;omega
 | succ m ih=>
   intro k h1 h2
   rw [porterbase_SameSel_l1,cm_lss,cond_dec,ll_eq]
   by_cases c:k<l.length
   · rw [if_pos (by omega),at_get c,inc1 (by omega)]
     simp only [Option.bind_some,conj3,seql_self,eql_self,Bool.and_self,Bool.not_true,_root_.cond_false]
     exact ih (k+1) (by omega) (by omega)
   · rw [if_neg (by omega)]
theorem samesel_p {N:Nat} (l:List GMatcher) (hl:l.length≤100000) (hN:100000<N):porterbase_SameSel_g N l l=some true:=by
 unfold porterbase_SameSel_g
 rw [cm_neq,cond_not,cond_dec,ll_eq,if_pos rfl]
 exact samesel_from l hl N 0 (by omega) (by omega)
end Pl
end Go.Proofs.YtpplemjjeefpdaaGreatDoor
