/- Texts that the proof leans on. -/
import Derived.Test.YtjhbgkakhaonaaaGreatDoorK325
set_option linter.unusedVariables false
set_option linter.unusedSimpArgs false
set_option maxRecDepth 100000
set_option maxHeartbeats 4000000
namespace Go.Proofs.YtjhbgkakhaonaaaGreatDoor
namespace Gk
open Mx
def rd (E:Nat→Nat→Prop) (H:Nat→UInt8→Prop):Nat→List UInt8→Nat→Prop
 | _,[],_=>False
 | k,c::w,k'=>H k c∧((w=[]∧k=k')∨∃j,E k j∧rd E H j w k')
structure Pt where
 fi:Nat→Prop
 la:Nat→Prop
 no:Prop
def L (E:Nat→Nat→Prop) (H:Nat→UInt8→Prop) (p:Pt):Lg:=fun w=>(w=[]∧p.no)∨∃k k',p.fi k∧p.la k'∧rd E H k w k'
variable {E E':Nat→Nat→Prop} {H H':Nat→UInt8→Prop} {I J:Nat→Prop} {A B Q:Pt}
theorem rd_ne {k k':Nat} {w:List UInt8} (h:rd E H k w k'):w≠[]:=by rintro rfl;exact h
def Clo (E:Nat→Nat→Prop) (I:Nat→Prop):Prop:=∀k j,I k→E k j→I j
theorem rd_in (hc:Clo E I):∀{w:List UInt8} {k k':Nat},I k→rd E H k w k'→I k'
 | [],_,_,_,h=>h.elim
 | c::w,k,k',hk,h=>by
   rcases h.2 with ⟨-,rfl⟩ | ⟨j,h1,h2⟩
   · exact hk
   · exact rd_in hc (hc k j hk h1) h2
theorem rd_congr (hc:Clo E I) (he:∀k j,I k→(E k j↔E' k j)) (hh:∀k c,I k→(H k c↔H' k c)):∀{w:List UInt8} {k k':Nat},I k→(rd E H k w k'↔rd E' H' k w k')
 | [],_,_,_=>Iff.rfl
 | c ::w,k,k',hk=>by
   simp only [rd]
   rw [hh k c hk]
   refine and_congr_right fun _=>or_congr Iff.rfl ?_
   constructor
   · rintro ⟨j,h1,h2⟩
     exact ⟨j,(he k j hk).1 h1,(rd_congr hc he hh (hc k j hk h1)).1 h2⟩
   · rintro ⟨j,h1,h2⟩
     have h1':=(he k j hk).2 h1
     exact ⟨j,h1',(rd_congr hc he hh (hc k j hk h1')).2 h2⟩
structure In (I:Nat→Prop) (p:Pt):Prop where
 fi:∀k,p.fi k→I k
 la:∀k,p.la k→I k
theorem L_congr (hc:Clo E I) (hi:In I A) (he:∀k j,I k→(E k j↔E' k j)) (hh:∀k c,I k→(H k c↔H' k c)) (w:List UInt8):L E H A w↔L E' H' A w:=by
 unfold L
 refine or_congr Iff.rfl ?_
 constructor<;>(rintro ⟨k,k',h1,h2,h3⟩;refine ⟨k,k',h1,h2,?_⟩)
 · exact (rd_congr hc he hh (hi.fi k h1)).1 h3
 · exact (rd_congr hc he hh (hi.fi k h1)).2 h3
def link (E:Nat→Nat→Prop) (A B:Pt):Nat→Nat→Prop:=fun k j=>E k j∨(A.la k∧B.fi j)
def behind (A B:Pt):Pt:=⟨fun k=>A.fi k∨(A.no∧B.fi k),fun k=>B.la k∨(B.no∧A.la k),A.no∧B.no⟩
theorem rd_link_J (hJ:Clo E J) (hd:∀k,I k→¬ J k) (hA:In I A) {w:List UInt8} {k k':Nat} (hk:J k):rd (link E A B) H k w k'↔rd E H k w k':=
 (rd_congr hJ (fun k j hk=>⟨.inl,fun h=>h.resolve_right fun h=>hd k (hA.la k h.1) hk⟩) (fun _ _ _=>Iff.rfl) hk).symm
theorem rd_link_I (hI:Clo E I) (hJ:Clo E J) (hd:∀k,I k→¬ J k) (hA:In I A) (hB:In J B):∀{w:List UInt8} {k k':Nat},I k→(rd (link E A B) H k w k'↔rd E H k w k'∨∃u v m j,w=u++v∧rd E H k u m∧A.la m∧B.fi j∧rd E H j v k')
 | [],k,k',hk=>by
   constructor
   · exact fun h=>h.elim
   · rintro (h | ⟨u,v,m,j,h1,h2,-⟩)
     · exact h
     · exact absurd (List.append_eq_nil_iff.1 h1.symm).1 (rd_ne h2)
 | c :: w,k,k',hk=>by
   constructor
   · rintro ⟨h0,h | ⟨j,h1 | h1,h2⟩⟩
     · exact .inl ⟨h0,.inl h⟩
     · rcases (rd_link_I hI hJ hd hA hB (hI k j hk h1)).1 h2 with h | ⟨u,v,m,i,rfl,h4,h5⟩
       · exact .inl ⟨h0,.inr ⟨j,h1,h⟩⟩
       · exact .inr ⟨c::u,v,m,i,rfl,⟨h0,.inr ⟨j,h1,h4⟩⟩,h5⟩
     · exact .inr ⟨[c],w,k,j,rfl,⟨h0,.inl ⟨rfl,rfl⟩⟩,h1.1,h1.2,(rd_link_J hJ hd hA (hB.fi j h1.2)).1 h2⟩
   · rintro (⟨h0,h | ⟨j,h1,h2⟩⟩ | ⟨u,v,m,i,h1,h2,h3,h4,h5⟩)
     · exact ⟨h0,.inl h⟩
     · exact ⟨h0,.inr ⟨j,.inl h1,(rd_link_I hI hJ hd hA hB (hI k j hk h1)).2 (.inl h2)⟩⟩
     · cases u with
       | nil=>exact absurd rfl (rd_ne h2)
       | cons d u=>
         injection h1 with e1 e2
         subst e1 e2
         rcases h2.2 with ⟨rfl,rfl⟩ | ⟨j,g1,g2⟩
         · exact ⟨h2.1,.inr ⟨i,.inr ⟨h3,h4⟩,(rd_link_J hJ hd hA (hB.fi i h4)).2 h5⟩⟩
         · exact ⟨h2.1,.inr ⟨j,.inl g1,(rd_link_I hI hJ hd hA hB (hI k j hk g1)).2 (.inr ⟨u,v,m,i,rfl,g2,h3,h4,h5⟩)⟩⟩
theorem L_behind (hI:Clo E I) (hJ:Clo E J) (hd:∀k,I k→¬ J k) (hA:In I A) (hB:In J B) (w:List UInt8):L (link E A B) H (behind A B) w↔lcat (L E H A) (L E H B) w:=by
 have aa:∀{w k k'},I k→I k'→(rd (link E A B) H k w k'↔rd E H k w k'):=fun {w k k'} hk hk'=>by
  rw [rd_link_I hI hJ hd hA hB hk]
  exact ⟨fun h=>h.resolve_right fun ⟨u,v,m,j,_,_,_,h4,h5⟩=>hd k' hk' (rd_in hJ (hB.fi j h4) h5),.inl⟩
 have ab:∀{w k k'},I k→J k'→(rd (link E A B) H k w k'↔∃u v m j,w=u++v∧rd E H k u m∧A.la m∧B.fi j∧rd E H j v k'):=fun {w k k'} hk hk'=>by
  rw [rd_link_I hI hJ hd hA hB hk]
  exact ⟨fun h=>h.resolve_left fun h=>hd k' (rd_in hI hk h) hk',.inr⟩
 have bb:∀{w k k'},J k→(rd (link E A B) H k w k'↔rd E H k w k'):=fun hk=>rd_link_J hJ hd hA hk
 constructor
 · rintro (⟨rfl,h1,h2⟩ | ⟨k,k',h1,h2,h3⟩)
   · exact ⟨[],[],rfl,.inl ⟨rfl,h1⟩,.inl ⟨rfl,h2⟩⟩
   · rcases h1 with h1 | ⟨h0,h1⟩
     · rcases h2 with h2 | ⟨h2,h4⟩
       · obtain ⟨u,v,m,j,rfl,g1,g2,g3,g4⟩:=(ab (hA.fi k h1) (hB.la k' h2)).1 h3
         exact ⟨u,v,rfl,.inr ⟨k,m,h1,g2,g1⟩,.inr ⟨j,k',g3,h2,g4⟩⟩
       · exact ⟨w,[],(List.append_nil w).symm,.inr ⟨k,k',h1,h4,(aa (hA.fi k h1) (hA.la k' h4)).1 h3⟩,.inl ⟨rfl,h2⟩⟩
     · have h5:=(bb (hB.fi k h1)).1 h3
       rcases h2 with h2 | ⟨h2,h4⟩
       · exact ⟨[],w,rfl,.inl ⟨rfl,h0⟩,.inr ⟨k,k',h1,h2,h5⟩⟩
       · exact absurd (rd_in hJ (hB.fi k h1) h5) (hd k' (hA.la k' h4))
 · rintro ⟨u,v,rfl,⟨rfl,h1⟩ | ⟨k,m,h1,h2,h3⟩,⟨rfl,g1⟩ | ⟨j,k',g1,g2,g3⟩⟩
   · exact .inl ⟨rfl,h1,g1⟩
   · exact .inr ⟨j,k',.inr ⟨h1,g1⟩,.inl g2,(bb (hB.fi j g1)).2 (by simpa using g3)⟩
   · exact .inr ⟨k,m,.inl h1,.inr ⟨g1,h2⟩,(aa (hA.fi k h1) (hA.la m h2)).2 (by simpa using h3)⟩
   · exact .inr ⟨k,k',.inl h1,.inl g2,(ab (hA.fi k h1) (hB.la k' g2)).2 ⟨u,v,m,j,rfl,h3,h2,g1,g3⟩⟩
def orP (A B:Pt):Pt:=⟨fun k=>A.fi k∨B.fi k,fun k=>A.la k∨B.la k,A.no∨B.no⟩
theorem L_or (hI:Clo E I) (hJ:Clo E J) (hd:∀k,I k→¬ J k) (hA:In I A) (hB:In J B) (w:List UInt8):L E H (orP A B) w↔L E H A w∨L E H B w:=by
 constructor
 · rintro (⟨rfl,h1 | h1⟩ | ⟨k,k',h1 | h1,h2 | h2,h3⟩)
   · exact .inl (.inl ⟨rfl,h1⟩)
   · exact .inr (.inl ⟨rfl,h1⟩)
   · exact .inl (.inr ⟨k,k',h1,h2,h3⟩)
   · exact absurd (hB.la k' h2) (hd k' (rd_in hI (hA.fi k h1) h3))
   · exact absurd (rd_in hJ (hB.fi k h1) h3) (hd k' (hA.la k' h2))
   · exact .inr (.inr ⟨k,k',h1,h2,h3⟩)
 · rintro ((⟨rfl,h1⟩ | ⟨k,k',h1,h2,h3⟩) | (⟨rfl,h1⟩ | ⟨k,k',h1,h2,h3⟩))
   · exact .inl ⟨rfl,.inl h1⟩
   · exact .inr ⟨k,k',.inl h1,.inl h2,h3⟩
   · exact .inl ⟨rfl,.inr h1⟩
   · exact .inr ⟨k,k',.inr h1,.inr h2,h3⟩
def loop (Q:Pt):Pt:=⟨Q.fi,Q.la,True⟩
theorem rd_loop (hI:Clo E I) (hQ:In I Q):∀{w:List UInt8} {k k':Nat},I k→(rd (link E Q Q) H k w k'↔rd E H k w k'∨∃u v m j,w=u++v∧rd E H k u m∧Q.la m∧Q.fi j∧rd (link E Q Q) H j v k')
 | [],k,k',hk=>by
   constructor
   · exact fun h=>h.elim
   · rintro (h | ⟨u,v,m,j,h1,h2,-⟩)
     · exact h
     · exact absurd (List.append_eq_nil_iff.1 h1.symm).1 (rd_ne h2)
 | c :: w,k,k',hk=>by
   constructor
   · rintro ⟨h0,h | ⟨j,h1 | h1,h2⟩⟩
     · exact .inl ⟨h0,.inl h⟩
     · rcases (rd_loop hI hQ (hI k j hk h1)).1 h2 with h | ⟨u,v,m,i,rfl,h4,h5⟩
       · exact .inl ⟨h0,.inr ⟨j,h1,h⟩⟩
       · exact .inr ⟨c::u,v,m,i,rfl,⟨h0,.inr ⟨j,h1,h4⟩⟩,h5⟩
     · exact .inr ⟨[c],w,k,j,rfl,⟨h0,.inl ⟨rfl,rfl⟩⟩,h1.1,h1.2,h2⟩
   · rintro (⟨h0,h | ⟨j,h1,h2⟩⟩ | ⟨u,v,m,i,h1,h2,h3,h4,h5⟩)
     · exact ⟨h0,.inl h⟩
     · exact ⟨h0,.inr ⟨j,.inl h1,(rd_loop hI hQ (hI k j hk h1)).2 (.inl h2)⟩⟩
     · cases u with
       | nil=>exact absurd rfl (rd_ne h2)
       | cons d u=>
         injection h1 with e1 e2
         subst e1 e2
         rcases h2.2 with ⟨rfl,rfl⟩ | ⟨j,g1,g2⟩
         · exact ⟨h2.1,.inr ⟨i,.inr ⟨h3,h4⟩,h5⟩⟩
         · exact ⟨h2.1,.inr ⟨j,.inl g1,(rd_loop hI hQ (hI k j hk g1)).2 (.inr ⟨u,v,m,i,rfl,g2,h3,h4,h5⟩)⟩⟩
theorem L_loop (hI:Clo E I) (hQ:In I Q) (w:List UInt8):L (link E Q Q) H (loop Q) w↔∃n,lpow (L E H Q) n w:=by
 constructor
 · rintro (⟨rfl,-⟩ | ⟨k,k',h1,h2,h3⟩)
   · exact ⟨0,by unfold lpow lnil;rfl⟩
   · have key:∀(n:Nat) (w:List UInt8) (k:Nat),w.length≤n→Q.fi k→rd (link E Q Q) H k w k'→∃n,lpow (L E H Q) n w:=by
      intro n
      induction n with
      | zero=>intro w k hw _ h;exact absurd (List.eq_nil_of_length_eq_zero (by omega)) (rd_ne h)
      | succ n ih=>
        intro w k hw hk h
        rcases (rd_loop hI hQ (hQ.fi k hk)).1 h with h | ⟨u,v,m,j,rfl,g1,g2,g3,g4⟩
        · exact ⟨1,w,[],(List.append_nil w).symm,.inr ⟨k,k',hk,h2,h⟩,by unfold lpow lnil;rfl⟩
        · have hu:0<u.length:=List.length_pos_iff.2 (rd_ne g1)
          obtain ⟨i,hi⟩:=ih v j (by rw [List.length_append] at hw;omega) g3 g4
          exact ⟨i+1,u,v,rfl,.inr ⟨k,m,hk,g2,g1⟩,hi⟩
     exact key w.length w k (Nat.le_refl _) h1 h3
 · rintro ⟨n,h⟩
   induction n generalizing w with
   | zero=>exact .inl ⟨h,trivial⟩
   | succ n ih=>
     obtain ⟨u,v,rfl,h1,h2⟩:=h
     have hv:=ih v h2
     rcases h1 with ⟨rfl,-⟩ | ⟨k,m,h3,h4,h5⟩
     · exact hv
     · rcases hv with ⟨rfl,-⟩ | ⟨j,k',g1,g2,g3⟩
       · exact .inr ⟨k,m,h3,h4,(rd_loop hI hQ (hQ.fi k h3)).2 (.inl (by simpa using h5))⟩
       · exact .inr ⟨k,k',h3,g2,(rd_loop hI hQ (hQ.fi k h3)).2 (.inr ⟨u,v,m,j,rfl,h5,h4,g1,g3⟩)⟩
def opt (A:Pt):Pt:=⟨A.fi,A.la,True⟩
theorem L_opt (w:List UInt8):L E H (opt A) w↔w=[]∨L E H A w:=by
 constructor
 · rintro (⟨rfl,-⟩ | h)
   · exact .inl rfl
   · exact .inr (.inr h)
 · rintro (rfl | ⟨rfl,-⟩ | h)
   · exact .inl ⟨rfl,trivial⟩
   · exact .inl ⟨rfl,trivial⟩
   · exact .inr h
def emp:Pt:=⟨fun _=>False,fun _=>False,True⟩
theorem L_emp (w:List UInt8):L E H emp w↔w=[]:=⟨fun h=>h.elim (·.1) fun ⟨_,_,h,_⟩=>h.elim,fun h=>.inl ⟨h,trivial⟩⟩
end Gk
end Go.Proofs.YtjhbgkakhaonaaaGreatDoor
namespace Go.Proofs.YtjhbgkakhaonaaaGreatDoor
open Go Go.RowKit
open Ab Sh
namespace Soo
section
variable {α:Type}
def gl3 (c:α→List Ab.T) (z:α) (ne:α→α→Bool) (v6:Int):Nat→Int→Int→List α→Option (List α)
 | 0,_,_,_=>none
 | m+1,v11,v12,v13=>
   cond (winB v13 v6) (cond (cm .lss v12 (ar .sub .i64 (ll (rw _ c v13)) v6))
    (cond (wrowB v13 v6 v12) ((at_ v13 (ar .add .i64 v6 v12)).bind fun r14=>
    cond (wrowB v13 v6 (ar .sub .i64 v12 1)) ((at_ v13 (ar .add .i64 v6 (ar .sub .i64 v12 1))).bind fun r15=>
    (cond (ne r14 r15)
    (cond (wrowB v13 v6 v12) ((at_ v13 (ar .add .i64 v6 v12)).bind fun r16=>
    (at_ v13 v11).bind fun r17=>
    (at_ v13 v11).bind fun r18=>
    put c v13 v11 r16 fun l19=>
    some (ar .add .i64 v11 1,l19)) none)
    (some (v11,v13)):Option (Int ×(List α))).bind fun j2=>
    (gl3 c z ne v6 m) j2.1 (ar .add .i64 v12 1) j2.2) none) none)
    (cond (winB v13 v11) ((clr c z v13 v11).bind fun l20=>
    (cut c l20 v11).bind fun l21=>
    some l21) none)) none
def gl2 (c:α→List Ab.T) (z:α) (ne eq:α→α→Bool) (N:Nat) (l5:List α):Nat→Int→Option (List α)
 | 0,_=>none
 | m+1,v6=>
   cond (cm .lss v6 (ll (rw _ c l5)))
    ((at_ l5 v6).bind fun r7=>
    (at_ l5 v6).bind fun r8=>
    (at_ l5 (ar .sub .i64 v6 1)).bind fun r9=>
    (at_ l5 (ar .sub .i64 v6 1)).bind fun r10=>
    cond (eq r8 r10)
    (cond (winB l5 v6) (gl3 c z ne v6 N v6 1 l5) none)
    ((gl2 c z ne eq N l5 m) (ar .add .i64 v6 1)))
    (some l5)
theorem at_nat (l:List α) (n:Nat):at_ l (n:Int)=l[n]?:=by unfold at_;rw [if_pos (by omega)];simp
theorem win_t {l:List α} {i:Nat} (h:i≤l.length) (h1:1≤l.length):winB l (i:Int)=true:=by
 unfold winB
 simp only [Bool.and_eq_true,decide_eq_true_eq,Bool.not_eq_true',List.isEmpty_eq_false_iff]
 exact ⟨fun e=>by rw [e] at h1;simp at h1,by omega,by omega⟩
theorem wrow_t {l:List α} {i j:Nat} (h:i+j<l.length):wrowB l (i:Int) (j:Int)=true:=by
 unfold wrowB
 simp only [Bool.and_eq_true,decide_eq_true_eq]
 exact ⟨by omega,by omega,by omega⟩
variable {c:α→List Ab.T} {z:α} {ne eq:α→α→Bool} {lt:α→α→Prop} (hne:∀a b,ne a b=true↔a≠b) (heq:∀a b,eq a b=true↔a=b) (tr:∀a b d,lt a b→lt b d→lt a d)
variable {l:List α} (hs:l.Pairwise fun a b=>a=b∨lt a b) (hlen:l.length≤1000000)
include hne tr hs hlen
theorem gl3_ok (v3:Nat) (h3:1≤v3):∀(m k k2:Nat) (cur:List α),v3+k2≤l.length→1≤k2→cur.length=l.length→k≤v3+k2-1→1≤k→(∀j,v3+k2-1≤j→cur[j]?=l[j]?)→(cur.take k).Pairwise lt→(∀x,x∈cur.take k↔x∈l.take (v3+k2))→
 l.length-v3-k2<m→∃r,gl3 c z ne v3 m k k2 cur=some r∧r.Pairwise lt∧(∀x,x∈r↔x∈l)∧r.length≤l.length:=by
 intro m
 induction m with
 | zero=>intro k k2 cur _ _ _ _ _ _ _ _ h;omega
 | succ m ih=>
   intro k k2 cur h1 h2 hc hk hk1 hj hp hm hmm
   rw [gl3]
   rw [win_t (l:=cur) (i:=v3) (by omega) (by omega)]
   rw [_root_.cond_true,ll_eq,ar_sub (by omega) (by omega),cm_lss]
   by_cases hlt:v3+k2<l.length
   · rw [decide_eq_true (by omega),_root_.cond_true]
     rw [wrow_t (by omega),_root_.cond_true,ar_add (by omega) (by omega)]
     have e1:((v3:Int)+(k2:Int))=((v3+k2:Nat):Int):=by omega
     have e2:((k2:Int)-1)=((k2-1:Nat):Int):=by omega
     have e3:((v3:Int)+((k2-1:Nat):Int))=((v3+k2-1:Nat):Int):=by omega
     have g1:cur[v3+k2]?=some l[v3+k2]:=by rw [hj _ (by omega)];exact List.getElem?_eq_getElem hlt
     have hlt':v3+k2-1<l.length:=by omega
     have g2:cur[v3+k2-1]?=some l[v3+k2-1]:=by rw [hj _ (by omega)];exact List.getElem?_eq_getElem hlt'
     rw [e1,at_nat,g1,Option.bind_some,ar_sub (by omega) (by omega),e2,wrow_t (by omega),_root_.cond_true,ar_add (by omega) (by omega),e3,at_nat,g2,Option.bind_some]
     have e4:((k2:Int)+1)=((k2+1:Nat):Int):=by omega
     have tk:l.take (v3+k2+1)=l.take (v3+k2)++[l[v3+k2]]:=List.take_succ_eq_append_getElem hlt
     by_cases e:l[v3+k2]=l[v3+k2-1]
     · rw [show ne l[v3+k2] l[v3+k2-1]=false from by rw [Bool.eq_false_iff];exact fun h=>(hne _ _).1 h e]
       rw [_root_.cond_false,Option.bind_some]
       dsimp only
       rw [ar_add (by omega) (by omega),e4]
       refine ih k (k2+1) cur (by omega) (by omega) hc (by omega) hk1 (fun j h=>hj j (by omega)) hp (fun x=>?_) (by omega)
       rw [hm x,show v3+(k2+1)=v3+k2+1 by omega,tk,List.mem_append,List.mem_singleton]
       refine ⟨.inl,fun h=>h.elim id fun h=>?_⟩
       rw [h,e]
       exact List.mem_iff_getElem?.2 ⟨v3+k2-1,by rw [List.getElem?_take,if_pos (by omega)];exact List.getElem?_eq_getElem hlt'⟩
     · rw [show ne l[v3+k2] l[v3+k2-1]=true from (hne _ _).2 e]
       have hkl:k<cur.length:=by omega
       rw [_root_.cond_true,_root_.cond_true,Option.bind_some,at_nat,List.getElem?_eq_getElem hkl,Option.bind_some,Option.bind_some]
       unfold Sh.put
       rw [Option.bind_some]
       dsimp only
       rw [ar_add (by omega) (by omega),ar_add (by omega) (by omega),e4,show ((k:Int)+1)=((k+1:Nat):Int) by omega,Int.toNat_natCast]
       have hlast:lt l[v3+k2-1] l[v3+k2]:=by
        rcases List.pairwise_iff_getElem.1 hs (v3+k2-1) (v3+k2) hlt' hlt (by omega) with h | h
        · exact absurd h.symm e
        · exact h
       have tk2:(cur.set k l[v3+k2]).take (k+1)=cur.take k++[l[v3+k2]]:=by
        rw [List.take_succ_eq_append_getElem (by simpa using hkl),List.take_set_of_le (Nat.le_refl _),List.getElem_set_self]
       refine ih (k+1) (k2+1) _ (by omega) (by omega) (by simpa using hc) (by omega) (by omega) (fun j h=>?_) ?_ (fun x=>?_) (by omega)
       · rw [List.getElem?_set_ne (by omega)];exact hj j (by omega)
       · rw [tk2]
         refine List.pairwise_append.2 ⟨hp,List.pairwise_singleton _ _,fun x hx y hy=>?_⟩
         rw [List.mem_singleton] at hy
         subst hy
         have hx':=(hm x).1 hx
         obtain ⟨j,hj1⟩:=List.mem_iff_getElem?.1 hx'
         rw [List.getElem?_take] at hj1
         split at hj1
         case isFalse=>cases hj1
         rename_i hjl
         obtain ⟨hjl2,rfl⟩:=List.getElem?_eq_some_iff.1 hj1
         by_cases hje:j=v3+k2-1
         · subst hje;exact hlast
         · rcases List.pairwise_iff_getElem.1 hs j (v3+k2-1) hjl2 hlt' (by omega) with h | h
           · rw [h];exact hlast
           · exact tr _ _ _ h hlast
       · rw [tk2,show v3+(k2+1)=v3+k2+1 by omega,tk,List.mem_append,List.mem_append,hm x]
   · have he:v3+k2=l.length:=by omega
     rw [decide_eq_false (by omega),_root_.cond_false,win_t (l:=cur) (i:=k) (by omega) (by omega),_root_.cond_true]
     unfold clr
     rw [if_pos (win_t (l:=cur) (i:=k) (by omega) (by omega)),Option.bind_some,ar_sub (by omega) (by omega),Int.toNat_natCast]
     have hl2:(cur.take k++List.replicate ((cur.length:Int)-(k:Int)).toNat z).length=cur.length:=by
      rw [List.length_append,List.length_take,List.length_replicate];omega
     unfold cut
     rw [if_pos (win_t (by omega) (by omega)),Option.bind_some,Int.toNat_natCast]
     have tk3:(cur.take k++List.replicate ((cur.length:Int)-(k:Int)).toNat z).take k=cur.take k:=by
      rw [List.take_append_of_le_length (by rw [List.length_take];omega),List.take_take,Nat.min_self]
     rw [tk3]
     refine ⟨_,rfl,hp,fun x=>?_,by rw [List.length_take];omega⟩
     rw [hm x,he,List.take_length]
include heq in
theorem gl2_ok {N:Nat} (hN:l.length<N):∀(m k:Nat),1≤k→k≤l.length→(l.take k).Pairwise lt→l.length-k<m→∃r,gl2 c z ne eq N l m k=some r∧r.Pairwise lt∧(∀x,x∈r↔x∈l)∧r.length≤l.length:=by
 intro m
 induction m with
 | zero=>intro k _ _ _ h;omega
 | succ m ih=>
   intro k h1 hk hp hm
   rw [gl2,ll_eq,cm_lss]
   by_cases hlt:k<l.length
   · have hlt':k-1<l.length:=by omega
     rw [decide_eq_true (by omega),_root_.cond_true,at_nat,List.getElem?_eq_getElem hlt,Option.bind_some,Option.bind_some,ar_sub (by omega) (by omega),show ((k:Int)-1)=((k-1:Nat):Int) by omega,at_nat,List.getElem?_eq_getElem hlt',Option.bind_some,Option.bind_some]
     have tk:l.take (k+1)=l.take k++[l[k]]:=List.take_succ_eq_append_getElem hlt
     by_cases e:l[k]=l[k-1]
     · rw [(heq _ _).2 e,_root_.cond_true,win_t (by omega) (by omega),_root_.cond_true]
       refine gl3_ok hne tr hs hlen k h1 N k 1 l (by omega) (by omega) rfl (by omega) h1 (fun j _=>rfl) hp (fun x=>?_) (by omega)
       rw [tk,List.mem_append,List.mem_singleton]
       refine ⟨.inl,fun h=>h.elim id fun h=>?_⟩
       rw [h,e]
       exact List.mem_iff_getElem?.2 ⟨k-1,by rw [List.getElem?_take,if_pos (by omega)];exact List.getElem?_eq_getElem hlt'⟩
     · rw [show eq l[k] l[k-1]=false from by rw [Bool.eq_false_iff];exact fun h=>e ((heq _ _).1 h)]
       rw [_root_.cond_false,ar_add (by omega) (by omega),show ((k:Int)+1)=((k+1:Nat):Int) by omega]
       refine ih (k+1) (by omega) (by omega) ?_ (by omega)
       have hlast:lt l[k-1] l[k]:=by
        rcases List.pairwise_iff_getElem.1 hs (k-1) k hlt' hlt (by omega) with h | h
        · exact absurd h.symm e
        · exact h
       rw [tk]
       refine List.pairwise_append.2 ⟨hp,List.pairwise_singleton _ _,fun x hx y hy=>?_⟩
       rw [List.mem_singleton] at hy
       subst hy
       obtain ⟨j,hj1⟩:=List.mem_iff_getElem?.1 hx
       rw [List.getElem?_take] at hj1
       split at hj1
       case isFalse=>cases hj1
       rename_i hjl
       obtain ⟨hjl2,rfl⟩:=List.getElem?_eq_some_iff.1 hj1
       by_cases hje:j=k-1
       · subst hje;exact hlast
       · rcases List.pairwise_iff_getElem.1 hs j (k-1) hjl2 hlt' (by omega) with h | h
         · rw [h];exact hlast
         · exact tr _ _ _ h hlast
   · have he:k=l.length:=by omega
     rw [decide_eq_false (by omega),_root_.cond_false]
     rw [he,List.take_length] at hp
     exact ⟨l,rfl,hp,fun x=>Iff.rfl,Nat.le_refl _⟩
end
end Soo
end Go.Proofs.YtjhbgkakhaonaaaGreatDoor
namespace Go.Proofs.YtjhbgkakhaonaaaGreatDoor
open Go
open Sh Gn
namespace Pl
theorem concat_p {a b:List Int} (M:Nat) (h:a.length+b.length≤1000000):slices_ConcatI_g (M+3) [a,b]=some (a++b):=by
 have e1:ar .add .i64 (0:Int) 1=1:=by rw [ar_add (by decide) (by decide)];rfl
 have e2:ar .add .i64 (1:Int) 1=2:=by rw [ar_add (by decide) (by decide)];rfl
 have f1:ar .add .i64 (0:Int) (a.length:Int)=a.length:=by rw [ar_add (by omega) (by omega)];omega
 have f2:ar .add .i64 (a.length:Int) (b.length:Int)=((a.length+b.length:Nat):Int):=by rw [ar_add (by omega) (by omega)];omega
 have a0:at_ [a,b] 0=some a:=rfl
 have a1:at_ [a,b] 1=some b:=rfl
 have c0:cm .lss 0 (([a,b]:List (List Int)).length:Int)=true:=rfl
 have c1:cm .lss 1 (([a,b]:List (List Int)).length:Int)=true:=rfl
 have c2:cm .lss 2 (([a,b]:List (List Int)).length:Int)=false:=rfl
 have g1:cm .lss (a.length:Int) 0=false:=by rw [cm_lss];exact decide_eq_false (by omega)
 have g2:cm .lss ((a.length+b.length:Nat):Int) 0=false:=by rw [cm_lss];exact decide_eq_false (by omega)
 have g3:growB ((a.length+b.length:Nat):Int)=true:=by unfold growB;simp only [Bool.and_eq_true,decide_eq_true_eq];omega
 unfold slices_ConcatI_g
 simp only [slices_ConcatI_l1,slices_ConcatI_l2,c0,c1,c2,a0,a1,e1,e2,ll_eq,f1,f2,g1,g2,g3,Option.bind_some,_root_.cond_true,_root_.cond_false,app_eq (show ([]:List Int).length+a.length≤1000000000 by simp;omega),List.nil_append,app_eq (show a.length+b.length≤1000000000 by omega)]
theorem gl3_eq (v:Int):∀(m:Nat) (i j:Int) (l:List Int),spots_merge_l3 v m i j l=Soo.gl3 (cI .i64) 0 (fun a b=>cm .neq a b) v m i j l:=by
 intro m;induction m with
 | zero=>intros;rfl
 | succ m ih=>intro i j l;rw [spots_merge_l3,Soo.gl3];simp only [ih]
theorem gl2_eq (N:Nat) (l:List Int):∀(m:Nat) (i:Int),spots_merge_l2 N l m i=Soo.gl2 (cI .i64) 0 (fun a b=>cm .neq a b) (fun a b=>cm .eql a b) N l m i:=by
 intro m;induction m with
 | zero=>intros;rfl
 | succ m ih=>
   intro i;rw [spots_merge_l2,Soo.gl2];simp only [ih,gl3_eq]
theorem merge_p {a b:List Int} {N:Nat} (hN:a.length+b.length+3≤N) (h:a.length+b.length≤1000000):∃r,spots_merge_g N a b=some r∧r.Pairwise (·<·)∧(∀x,x∈r↔x∈a∨x∈b)∧r.length≤a.length+b.length:=by
 obtain ⟨M,rfl⟩:∃M,N=M+3:=⟨N-3,by omega⟩
 unfold spots_merge_g
 rw [concat_p M h]
 have hs:sortI_g (a++b)=some (isortI (a++b)):=by unfold sortI_g sortK_g;rw [if_pos (by rw [List.length_append];omega)]
 have hl:(isortI (a++b)).length=a.length+b.length:=by rw [sortI_len,List.length_append]
 have hm:∀x,x∈isortI (a++b)↔x∈a∨x∈b:=fun x=>by rw [(isortI_perm _).mem_iff,List.mem_append]
 have hr:=isortI_rise (a++b)
 rw [Option.bind_some,hs,Option.bind_some]
 generalize isortI (a++b)=l at hl hm hr
 rw [cm_lss,ll_eq,cond_dec]
 by_cases c:(l.length:Int)<2
 · rw [if_pos c]
   refine ⟨l,rfl,?_,hm,by omega⟩
   match l,c with
   | [],_=>exact List.Pairwise.nil
   | [x],_=>exact List.pairwise_singleton _ _
   | x::y::r,c=>simp at c;omega
 · rw [if_neg c,gl2_eq]
   have hs2:l.Pairwise fun a b=>a=b∨a<b:=hr.imp fun {a b} h=>by omega
   have e1:l.take 1=[l[0]'(by omega)]:=by
    match l,c with
    | x::r,_=>rfl
    | [],c=>simp at c
   obtain ⟨r,h1,h2,h3,h4⟩:=Soo.gl2_ok (c:=cI .i64) (z:=0) (ne:=fun a b=>cm .neq a b) (eq:=fun a b=>cm .eql a b) (lt:=(·<·)) (fun a b=>by rw [cm_neq];simp) (fun a b=>by rw [cm_eql];simp) (fun a b d h k=>Int.lt_trans h k) hs2 (by omega) (N:=M+3) (by omega) (M+3) 1 (by omega) (by omega) (by rw [e1];exact List.pairwise_singleton _ _) (by omega)
   exact ⟨r,h1,h2,fun x=>(h3 x).trans (hm x),by omega⟩
def Rg (b e:Nat) (l:List Int):Prop:=l.Pairwise (·<·)∧∀x∈l,(b:Int)≤x∧x<(e:Int)
theorem rg_len {b e:Nat}:∀{l:List Int},Rg b e l→l.length≤e-b:=fun {l} h=>by
 have key:∀(l:List Int) (a:Int),(∀x∈l,a≤x∧x<(e:Int))→l.Pairwise (·<·)→(l.length:Int)≤max 0 (e-a):=by
  intro l
  induction l with
  | nil=>intro a _ _;simp;omega
  | cons x l ih=>
    intro a h1 h2
    have hx:=h1 x List.mem_cons_self
    have h3:=List.pairwise_cons.1 h2
    have:=ih (x+1) (fun y hy=>⟨by have:=h3.1 y hy;omega,(h1 y (List.mem_cons_of_mem _ hy)).2⟩) h3.2
    rw [List.length_cons]
    omega
 have:=key l b (fun x hx=>h.2 x hx) h.1
 omega
theorem rg_mono {b e b' e':Nat} {l:List Int} (h:Rg b e l) (hb:b'≤b) (he:e≤e'):Rg b' e' l:=⟨h.1,fun x hx=>by have:=h.2 x hx;omega⟩
theorem rg_nil {b e:Nat}:Rg b e []:=⟨List.Pairwise.nil,fun x h=>by cases h⟩
theorem merge_rg {b e N:Nat} {x y:List Int} (he:e≤400) (hN:900≤N) (hx:Rg b e x) (hy:Rg b e y):∃r,spots_merge_g N x y=some r∧Rg b e r∧∀z,z∈r↔z∈x∨z∈y:=by
 have h1:=rg_len hx
 have h2:=rg_len hy
 obtain ⟨r,h3,h4,h5,h6⟩:=merge_p (a:=x) (b:=y) (N:=N) (by omega) (by omega)
 exact ⟨r,h3,⟨h4,fun z hz=>((h5 z).1 hz).elim (hx.2 z) (hy.2 z)⟩,h5⟩
def Ed (nx:List (List Int)) (k j:Nat):Prop:=∃l,nx[k]?=some l∧(j:Int)∈l
def Hs (st:List CSet) (k:Nat) (c:UInt8):Prop:=∃S,st[k]?=some S∧S.has c.toNat=true
def pt (p:Gspots_part):Gk.Pt:=⟨fun k=>(k:Int)∈p.first,fun k=>(k:Int)∈p.last,p.none=true⟩
def Sn (b e:Nat) (nx:List (List Int)):Prop:=nx.length=e∧∀(k:Nat) l,b≤k→nx[k]?=some l→Rg b e l
theorem next_l {b e N:Nat} (he:e≤400) (hN:900≤N) {s:Gspots_writer} {of sp:List Int} (ho:Rg b e of) (hp:Rg b e sp):∀(m i:Nat) (nx:List (List Int)),i≤of.length→of.length<i+m→Sn b e nx→
 ∃nx',spots_writer_next_l1 N of sp s m i nx=some ⟨⟨s.out.Sets,s.out.None,s.out.First,s.out.Last,nx'⟩⟩∧Sn b e nx'∧(∀k,k<b→nx'[k]?=nx[k]?)∧∀k j:Nat,Ed nx' k j↔Ed nx k j∨((k:Int)∈of.drop i∧(j:Int)∈sp):=by
 intro m
 induction m with
 | zero=>intro i nx h1 h2;omega
 | succ m ih=>
   intro i nx h1 h2 hn
   have hol:=rg_len ho
   rw [spots_writer_next_l1]
   by_cases c:i<of.length
   · have c':cm .lss (i:Int) (ll (rw _ (cI .i64) of))=true:=by rw [cm_lss,ll_eq];exact decide_eq_true (by omega)
     have hx:=ho.2 _ (List.getElem_mem c)
     obtain ⟨k0,hk0⟩:=Int.eq_ofNat_of_zero_le (show 0≤of[i] by omega)
     have hk:k0<nx.length:=by rw [hn.1];omega
     have e1:at_ nx of[i]=some nx[k0]:=by rw [hk0,at_in hk]
     have hr:=hn.2 k0 _ (by omega) (List.getElem?_eq_getElem hk)
     obtain ⟨r,r1,r2,r3⟩:=merge_rg he hN hr hp
     rw [c',_root_.cond_true,at_in c]
     simp only [Option.bind_some,e1,r1,put,inc1 (show i≤100000000 by omega)]
     have e2:(of[i]).toNat=k0:=by omega
     rw [e2]
     obtain ⟨nx',q1,q2,q3,q4⟩:=ih (i+1) (nx.set k0 r) (by omega) (by omega) ⟨by rw [List.length_set];exact hn.1,fun k l hk2 hl=>by
      by_cases e:k0=k
      · subst e;rw [List.getElem?_set_self hk] at hl;cases hl;exact r2
      · rw [List.getElem?_set_ne e] at hl;exact hn.2 k l hk2 hl⟩
     refine ⟨nx',q1,q2,fun k hk2=>by rw [q3 k hk2,List.getElem?_set_ne (by omega)],fun k j=>?_⟩
     rw [q4 k j,List.drop_eq_getElem_cons c]
     by_cases e:k0=k
     · subst e
       have a1:Ed (nx.set k0 r) k0 j↔(j:Int)∈r:=⟨fun ⟨l,h1,h2⟩=>by rw [List.getElem?_set_self hk] at h1;cases h1;exact h2,fun h=>⟨r,List.getElem?_set_self hk,h⟩⟩
       have a2:Ed nx k0 j↔(j:Int)∈nx[k0]:=⟨fun ⟨l,h1,h2⟩=>by rw [List.getElem?_eq_getElem hk] at h1;cases h1;exact h2,fun h=>⟨_,List.getElem?_eq_getElem hk,h⟩⟩
       rw [a1,a2,r3,List.mem_cons]
       have a3:((k0:Nat):Int)=of[i]:=hk0.symm
       constructor
       · rintro ((h | h) | ⟨h,h'⟩)
         · exact .inl h
         · exact .inr ⟨.inl a3,h⟩
         · exact .inr ⟨.inr h,h'⟩
       · rintro (h | ⟨-,h⟩)
         · exact .inl (.inl h)
         · exact .inl (.inr h)
     · have a1:Ed (nx.set k0 r) k j↔Ed nx k j:=by unfold Ed;rw [List.getElem?_set_ne e]
       rw [a1,List.mem_cons]
       refine or_congr Iff.rfl (and_congr_left fun _=>⟨.inr,fun h=>h.resolve_left (by omega)⟩)
   · have c':cm .lss (i:Int) (ll (rw _ (cI .i64) of))=false:=by rw [cm_lss,ll_eq];exact decide_eq_false (by omega)
     rw [c',_root_.cond_false,List.drop_of_length_le (by omega)]
     exact ⟨nx,rfl,hn,fun _ _=>rfl,fun k j=>⟨.inl,fun h=>h.resolve_right fun h=>by cases h.1⟩⟩
theorem next_p {b e N:Nat} (he:e≤400) (hN:900≤N) {s:Gspots_writer} {of sp:List Int} (hn:Sn b e s.out.Next) (ho:Rg b e of) (hp:Rg b e sp):
 ∃nx',spots_writer_next_g N of sp s=some ⟨⟨s.out.Sets,s.out.None,s.out.First,s.out.Last,nx'⟩⟩∧Sn b e nx'∧(∀k,k<b→nx'[k]?=s.out.Next[k]?)∧∀k j:Nat,Ed nx' k j↔Ed s.out.Next k j∨((k:Int)∈of∧(j:Int)∈sp):=by
 have hol:=rg_len ho
 exact next_l he hN ho hp N 0 s.out.Next (by omega) (by omega) hn
structure Pr (b e:Nat) (p:Gspots_part):Prop where
 first:Rg b e p.first
 last:Rg b e p.last
theorem behind_p {b e N:Nat} (he:e≤400) (hN:900≤N) {s:Gspots_writer} {x y:Gspots_part} (hn:Sn b e s.out.Next) (hx:Pr b e x) (hy:Pr b e y):
 ∃ p nx',spots_writer_behind_g N x y s=some (p,⟨⟨s.out.Sets,s.out.None,s.out.First,s.out.Last,nx'⟩⟩)∧Sn b e nx'∧(∀k,k<b→nx'[k]?=s.out.Next[k]?)∧Pr b e p∧(∀k j,Ed nx' k j↔Gk.link (Ed s.out.Next) (pt x) (pt y) k j)∧
   (∀k,(pt p).fi k↔(Gk.behind (pt x) (pt y)).fi k)∧(∀k,(pt p).la k↔(Gk.behind (pt x) (pt y)).la k)∧((pt p).no↔(Gk.behind (pt x) (pt y)).no):=by
 obtain ⟨nx',q1,q2,q3,q4⟩:=next_p he hN hn hx.last hy.first
 obtain ⟨f,f1,f2,f3⟩:=merge_rg he hN hx.first hy.first
 obtain ⟨l,l1,l2,l3⟩:=merge_rg he hN hx.last hy.last
 unfold spots_writer_behind_g
 rw [q1,f1,l1]
 obtain ⟨xf,xl,xn⟩:=x
 obtain ⟨yf,yl,yn⟩:=y
 cases xn<;>cases yn<;>simp only [Option.bind_some,_root_.cond_true,_root_.cond_false]
 · exact ⟨_,nx',rfl,q2,q3,⟨hx.first,hy.last⟩,q4,fun k=>by simp [pt,Gk.behind],fun k=>by simp [pt,Gk.behind],by simp [pt,Gk.behind]⟩
 · exact ⟨_,nx',rfl,q2,q3,⟨hx.first,l2⟩,q4,fun k=>by simp [pt,Gk.behind],fun k=>by simp [pt,Gk.behind,l3,or_comm],by simp [pt,Gk.behind]⟩
 · exact ⟨_,nx',rfl,q2,q3,⟨f2,hy.last⟩,q4,fun k=>by simp [pt,Gk.behind,f3],fun k=>by simp [pt,Gk.behind],by simp [pt,Gk.behind]⟩
 · exact ⟨_,nx',rfl,q2,q3,⟨f2,l2⟩,q4,fun k=>by simp [pt,Gk.behind,f3],fun k=>by simp [pt,Gk.behind,l3,or_comm],by simp [pt,Gk.behind]⟩
end Pl
end Go.Proofs.YtjhbgkakhaonaaaGreatDoor
namespace Go.Proofs.YtjhbgkakhaonaaaGreatDoor
open Go
open Sh Gn Mx
namespace Pl
structure Wr (b e:Nat) (sets:List CSet) (nx:List (List Int)) (p:Gspots_part) (A:Lg):Prop where
 len:sets.length=e
 le:b≤e
 sn:Sn b e nx
 pr:Pr b e p
 lg:∀w,Gk.L (Ed nx) (Hs sets) (pt p) w↔A w
def Iv (b e:Nat):Nat→Prop:=fun k=>b≤k∧k<e
theorem sn_clo {b e:Nat} {nx:List (List Int)} (h:Sn b e nx):Gk.Clo (Ed nx) (Iv b e):=fun k j hk ⟨l,h1,h2⟩=>by
 have:=(h.2 k l hk.1 h1).2 _ h2
 exact ⟨by omega,by omega⟩
theorem pr_in {b e:Nat} {p:Gspots_part} (h:Pr b e p):Gk.In (Iv b e) (pt p):=⟨fun k hk=>by have:=h.first.2 _ hk;exact ⟨by omega,by omega⟩,fun k hk=>by have:=h.last.2 _ hk;exact ⟨by omega,by omega⟩⟩
theorem ed_same {nx nx':List (List Int)} {k:Nat} (h:nx'[k]?=nx[k]?) (j:Nat):Ed nx k j↔Ed nx' k j:=by unfold Ed;rw [h]
theorem hs_same {st st':List CSet} {k:Nat} (h:st'[k]?=st[k]?) (c:UInt8):Hs st k c↔Hs st' k c:=by unfold Hs;rw [h]
theorem Wr.more {b m e:Nat} {sets sets':List CSet} {nx nx':List (List Int)} {p:Gspots_part} {A:Lg} (h:Wr b m sets nx p A) (hs:∀k,k<m→sets'[k]?=sets[k]?) (hn:∀k,k<m→nx'[k]?=nx[k]?) (w:List UInt8):Gk.L (Ed nx') (Hs sets') (pt p) w↔A w:=by
 rw [←h.lg w]
 exact (Gk.L_congr (sn_clo h.sn) (pr_in h.pr) (fun k j hk=>ed_same (hn k hk.2) j) (fun k c hk=>hs_same (hs k hk.2) c) w).symm
theorem sn_cat {b m e:Nat} {nx nx':List (List Int)} (h1:Sn b m nx) (h2:Sn m e nx') (hb:b≤m) (hm:m≤e) (hn:∀k,k<m→nx'[k]?=nx[k]?):Sn b e nx':=⟨h2.1,fun k l hk hl=>by
 by_cases c:k<m
 · rw [hn k c] at hl;exact rg_mono (h1.2 k l hk hl) (Nat.le_refl _) hm
 · exact rg_mono (h2.2 k l (by omega) hl) hb (Nat.le_refl _)⟩
theorem pr_mono {b e b' e':Nat} {p:Gspots_part} (h:Pr b e p) (hb:b'≤b) (he:e≤e'):Pr b' e' p:=⟨rg_mono h.first hb he,rg_mono h.last hb he⟩
theorem iv_apart {b m e:Nat} (k:Nat):Iv b m k→¬ Iv m e k:=fun h g=>by have:=h.2;have:=g.1;omega
theorem clo_sub {b m e:Nat} {nx nx':List (List Int)} (h1:Sn b m nx) (hn:∀k,k<m→nx'[k]?=nx[k]?):Gk.Clo (Ed nx') (Iv b m):=fun k j hk he=>sn_clo h1 k j hk ((ed_same (hn k hk.2) j).2 he)
theorem Wr.behind {b m e N:Nat} {s:Gspots_writer} {sets:List CSet} {nx:List (List Int)} {x y:Gspots_part} {A B:Lg} (he:e≤400) (hN:900≤N) (hx:Wr b m sets nx x A) (hy:Wr m e s.out.Sets s.out.Next y B) (hs:∀k,k<m→s.out.Sets[k]?=sets[k]?) (hn:∀k,k<m→s.out.Next[k]?=nx[k]?):
 ∃p nx',spots_writer_behind_g N x y s=some (p,⟨⟨s.out.Sets,s.out.None,s.out.First,s.out.Last,nx'⟩⟩)∧Wr b e s.out.Sets nx' p (lcat A B)∧∀k,k<b→nx'[k]?=s.out.Next[k]?:=by
 obtain ⟨p,nx',q1,q2,q3,q4,q5,q6,q7,q8⟩:=behind_p he hN (sn_cat hx.sn hy.sn hx.le hy.le hn) (pr_mono hx.pr (Nat.le_refl _) hy.le) (pr_mono hy.pr hx.le (Nat.le_refl _))
 refine ⟨p,nx',q1,⟨hy.len,Nat.le_trans hx.le hy.le,q2,q4,fun w=>?_⟩,q3⟩
 have e1:Ed nx'=Gk.link (Ed s.out.Next) (pt x) (pt y):=funext fun k=>funext fun j=>propext (q5 k j)
 have e2:pt p=Gk.behind (pt x) (pt y):=by
  have a1:(pt p).fi=(Gk.behind (pt x) (pt y)).fi:=funext fun k=>propext (q6 k)
  have a2:(pt p).la=(Gk.behind (pt x) (pt y)).la:=funext fun k=>propext (q7 k)
  have a3:(pt p).no=(Gk.behind (pt x) (pt y)).no:=propext q8
  cases h:pt p with
  | mk f l n=>rw [h] at a1 a2 a3;dsimp only at a1 a2 a3;rw [a1,a2,a3]
 rw [e1,e2,Gk.L_behind (I:=Iv b m) (J:=Iv m e) (clo_sub (e:=e) hx.sn hn) (sn_clo hy.sn) iv_apart (pr_in hx.pr) (pr_in hy.pr)]
 have f1:Gk.L (Ed s.out.Next) (Hs s.out.Sets) (pt x)=A:=funext fun w=>propext (hx.more (e:=e) hs hn w)
 have f2:Gk.L (Ed s.out.Next) (Hs s.out.Sets) (pt y)=B:=funext fun w=>propext (hy.lg w)
 rw [f1,f2]
theorem Wr.alt {b m e N:Nat} {sets sets':List CSet} {nx nx':List (List Int)} {x y:Gspots_part} {A B:Lg} (he:e≤400) (hN:900≤N) (hx:Wr b m sets nx x A) (hy:Wr m e sets' nx' y B) (hs:∀k,k<m→sets'[k]?=sets[k]?) (hn:∀k,k<m→nx'[k]?=nx[k]?):
 ∃f l,spots_merge_g N x.first y.first=some f∧spots_merge_g N x.last y.last=some l∧∀n,(n=true↔x.none=true∨y.none=true)→Wr b e sets' nx' ⟨f,l,n⟩ (fun w=>A w∨B w):=by
 obtain ⟨f,f1,f2,f3⟩:=merge_rg he hN (rg_mono hx.pr.first (Nat.le_refl _) hy.le) (rg_mono hy.pr.first hx.le (Nat.le_refl _))
 obtain ⟨l,l1,l2,l3⟩:=merge_rg he hN (rg_mono hx.pr.last (Nat.le_refl _) hy.le) (rg_mono hy.pr.last hx.le (Nat.le_refl _))
 refine ⟨f,l,f1,l1,fun n hno=>⟨hy.len,Nat.le_trans hx.le hy.le,sn_cat hx.sn hy.sn hx.le hy.le hn,⟨f2,l2⟩,fun w=>?_⟩⟩
 have e2:pt ⟨f,l,n⟩=Gk.orP (pt x) (pt y):=by
  unfold pt Gk.orP
  congr 1
  · funext k;exact propext (f3 _)
  · funext k;exact propext (l3 _)
  · exact propext hno
 rw [e2,Gk.L_or (I:=Iv b m) (J:=Iv m e) (clo_sub (e:=e) hx.sn hn) (sn_clo hy.sn) iv_apart (pr_in hx.pr) (pr_in hy.pr),hx.more (e:=e) hs hn w,hy.lg w]
theorem Wr.loop {m e N:Nat} {s:Gspots_writer} {q:Gspots_part} {A:Lg} (he:e≤400) (hN:900≤N) (hq:Wr m e s.out.Sets s.out.Next q A):
 ∃nx',spots_writer_next_g N q.last q.first s=some ⟨⟨s.out.Sets,s.out.None,s.out.First,s.out.Last,nx'⟩⟩∧Wr m e s.out.Sets nx' ⟨q.first,q.last,true⟩ (fun w=>∃n,lpow A n w)∧∀k,k<m→nx'[k]?=s.out.Next[k]?:=by
 obtain ⟨nx',q1,q2,q3,q4⟩:=next_p he hN hq.sn hq.pr.last hq.pr.first
 refine ⟨nx',q1,⟨hq.len,hq.le,q2,⟨hq.pr.first,hq.pr.last⟩,fun w=>?_⟩,q3⟩
 have e1:Ed nx'=Gk.link (Ed s.out.Next) (pt q) (pt q):=funext fun k=>funext fun j=>propext (q4 k j)
 have e2:pt ⟨q.first,q.last,true⟩=Gk.loop (pt q):=by unfold pt Gk.loop;simp
 have f2:Gk.L (Ed s.out.Next) (Hs s.out.Sets) (pt q)=A:=funext fun w=>propext (hq.lg w)
 rw [e1,e2,Gk.L_loop (sn_clo hq.sn) (pr_in hq.pr),f2]
theorem Wr.opt {b e:Nat} {sets:List CSet} {nx:List (List Int)} {p:Gspots_part} {A:Lg} (h:Wr b e sets nx p A):Wr b e sets nx ⟨p.first,p.last,true⟩ (fun w=>w=[]∨A w):=by
 refine ⟨h.len,h.le,h.sn,⟨h.pr.first,h.pr.last⟩,fun w=>?_⟩
 have e2:pt ⟨p.first,p.last,true⟩=Gk.opt (pt p):=by unfold pt Gk.opt;simp
 rw [e2,Gk.L_opt,h.lg]
theorem Wr.of_iff {b e:Nat} {sets:List CSet} {nx:List (List Int)} {p:Gspots_part} {A B:Lg} (h:Wr b e sets nx p A) (hi:∀w,A w↔B w):Wr b e sets nx p B:=⟨h.len,h.le,h.sn,h.pr,fun w=>(h.lg w).trans (hi w)⟩
theorem wr_emp {b:Nat} {sets:List CSet} {nx:List (List Int)} (h1:sets.length=b) (h2:nx.length=b):Wr b b sets nx ⟨[],[],true⟩ lnil:=by
 refine ⟨h1,Nat.le_refl _,⟨h2,fun k l hk hl=>?_⟩,⟨rg_nil,rg_nil⟩,fun w=>?_⟩
 · have:=(List.getElem?_eq_some_iff.1 hl).1;omega
 · have e2:pt ⟨[],[],true⟩=Gk.emp:=by unfold pt Gk.emp;simp
   rw [e2,Gk.L_emp];rfl
theorem wr_no {b:Nat} {sets:List CSet} {nx:List (List Int)} (h1:sets.length=b) (h2:nx.length=b):Wr b b sets nx ⟨[],[],false⟩ (fun _=>False):=by
 refine ⟨h1,Nat.le_refl _,⟨h2,fun k l hk hl=>?_⟩,⟨rg_nil,rg_nil⟩,fun w=>?_⟩
 · have:=(List.getElem?_eq_some_iff.1 hl).1;omega
 · constructor
   · rintro (⟨-,h⟩ | ⟨k,k',h,-⟩)
     · cases h
     · cases h
   · exact fun h=>h.elim
theorem wr_one {b:Nat} {sets:List CSet} {nx:List (List Int)} (h1:sets.length=b) (h2:nx.length=b) (S:CSet):Wr b (b+1) (sets++[S]) (nx++[[]]) ⟨[(b:Int)],[(b:Int)],false⟩ (fun w=>∃c,w=[c]∧S.has c.toNat=true):=by
 have rg:Rg b (b+1) [(b:Int)]:=⟨List.pairwise_singleton _ _,fun x hx=>by rw [List.mem_singleton] at hx;omega⟩
 have hl:(nx++[[]])[b]?=some []:=by rw [List.getElem?_append_right (by omega),h2];simp
 have hS:(sets++[S])[b]?=some S:=by rw [List.getElem?_append_right (by omega),h1];simp
 have hH:∀c,Hs (sets++[S]) b c↔S.has c.toNat=true:=fun c=>⟨fun ⟨T,g1,g2⟩=>by rw [hS] at g1;cases g1;exact g2,fun h=>⟨S,hS,h⟩⟩
 have hE:∀j,¬ Ed (nx++[[]]) b j:=fun j ⟨l,g1,g2⟩=>by rw [hl] at g1;cases g1;cases g2
 refine ⟨by rw [List.length_append,h1];rfl,Nat.le_succ _,⟨by rw [List.length_append,h2];rfl,fun k l hk g=>?_⟩,⟨rg,rg⟩,fun w=>?_⟩
 · have hk2:=(List.getElem?_eq_some_iff.1 g).1
   rw [List.length_append,h2] at hk2
   have:k=b:=by have:k<b+1:=hk2;omega
   subst this
   rw [hl] at g;cases g
   exact rg_nil
 · constructor
   · rintro (⟨-,h⟩ | ⟨k,k',g1,g2,g3⟩)
     · cases h
     · have e1:k=b:=by have:=List.mem_singleton.1 (show (k:Int)∈[(b:Int)] from g1);omega
       subst e1
       match w,g3 with
       | c::w,⟨h0,h⟩=>
         rcases h with ⟨rfl,-⟩ | ⟨j,h3,-⟩
         · exact ⟨c,rfl,(hH c).1 h0⟩
         · exact absurd h3 (hE j)
   · rintro ⟨c,rfl,h⟩
     exact .inr ⟨b,b,List.mem_singleton.2 rfl,List.mem_singleton.2 rfl,(hH c).2 h,.inl ⟨rfl,rfl⟩⟩
end Pl
end Go.Proofs.YtjhbgkakhaonaaaGreatDoor
