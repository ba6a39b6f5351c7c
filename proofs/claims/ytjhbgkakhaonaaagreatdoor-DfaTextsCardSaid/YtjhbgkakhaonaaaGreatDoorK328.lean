/- Texts that the proof leans on. -/
import Derived.Test.YtjhbgkakhaonaaaGreatDoorK327
set_option linter.unusedVariables false
set_option linter.unusedSimpArgs false
set_option maxRecDepth 100000
set_option maxHeartbeats 4000000
namespace Go.Proofs.YtjhbgkakhaonaaaGreatDoor
open Go
open Sh Gn
namespace Pl
theorem setz_p (S:CSet):conj [cm .eql (S.a.toNat:Int) 0,cm .eql (S.b.toNat:Int) 0,cm .eql (S.c.toNat:Int) 0,cm .eql (S.d.toNat:Int) 0]=decide (S=CSet.empty):=by
 have h:∀x:BitVec 64,((x.toNat:Int)=0)=(x=0):=fun x=>propext ⟨fun h=>by
  apply BitVec.eq_of_toNat_eq
  have:x.toNat=0:=by omega
  rw [this];rfl,fun h=>by rw [h];rfl⟩
 rw [cm_eql,cm_eql,cm_eql,cm_eql]
 simp only [h]
 cases S
 rw [Bool.eq_iff_iff]
 simp [conj,CSet.empty]
theorem times_p (lo hi:Int):regex_times_g lo hi=some (Rx.timesB lo hi):=by
 unfold regex_times_g Rx.timesB mx
 simp only [cm_lss,cm_gtr,cm_eql,cm_geq,cm_leq,cond_dec,ite_or,ite_and,Option.bind_some]
 by_cases c:lo<0∨16<lo
 · rw [if_pos c]
   have:lo<0∨lo>16:=c
   congr 1
   rcases this with h | h<;>simp [h]
 · rw [if_neg c]
   have e:∃M:Int,(if (1:Int)>lo then (1:Int) else lo)=M∧(lo=0∧M=1∨lo≠0∧M=lo):=by
    refine ⟨_,rfl,?_⟩
    split<;>omega
   obtain ⟨M,e,hM⟩:=e
   rw [e]
   congr 1
   have c1:¬ lo<0:=fun h=>c (.inl h)
   have c2:¬ lo>16:=fun h=>c (.inr h)
   simp only [c1,c2,decide_false,Bool.false_or]
   by_cases h:(hi>16∨hi< -1)∨hi=0
   · have hd:(decide (hi>16)||decide (hi< -1)||hi==0)=true:=by simpa using h
     rw [hd,if_pos rfl]
     exact decide_eq_false (by omega)
   · have hd:(decide (hi>16)||decide (hi< -1)||hi==0)=false:=by
      rw [Bool.eq_false_iff];intro h';exact h (by simpa using h')
     rw [hd,if_neg (by simp),Bool.eq_iff_iff]
     simp only [Bool.or_eq_true,beq_iff_eq,decide_eq_true_eq]
     omega
theorem at_get {α:Type} {l:List α} {k:Nat} (h:k<l.length):at_ l (k:Int)=some l[k]:=by
 unfold at_
 rw [if_pos (by omega),Int.toNat_natCast,List.getElem?_eq_getElem h]
theorem mkids_p (rec:Node→Option Bool) (n:Node) (hl:n.kids.length≤9223372036854775807) (hr:∀c∈n.kids,rec c=some (Rx.right c)):∀(m k:Nat),k≤n.kids.length→n.kids.length<k+m→regex_Right_l1 rec n m k=some (Rx.topB n.kind n.set n.kids.length n.min n.max&&Rx.rights n.kind (n.kids.drop k)):=by
 intro m
 induction m with
 | zero=>intro k h1 h2;omega
 | succ m ih=>
   intro k h1 h2
   rw [regex_Right_l1]
   simp only [setz_p]
   simp only [cm_lss,cm_eql,cm_neq,cm_gtr,cond_not,cond_dec,ll_eq,setz_p,not_dec,times_p,ite_or,ite_and,ite_gen,Option.bind_some,bind_self]
   by_cases c:k<n.kids.length
   · rw [if_pos (by omega),at_get c,incL (by omega),Option.bind_some,hr _ (List.getElem_mem c),Option.bind_some,ih (k+1) (by omega) (by omega)]
     rw [List.drop_eq_getElem_cons c,Rx.rights]
     generalize n.kids[k]=y
     cases Rx.right y with
     | false=>simp
     | true=>
       have e1:(y.kind==n.kind)=decide (y.kind=n.kind):=Bool.beq_eq_decide_eq _ _
       have e2:(n.kind != 4)= !decide (n.kind=4):=by rw [←Bool.beq_eq_decide_eq];rfl
       rw [e1,e2]
       by_cases g:y.kind=n.kind<;>by_cases g4:n.kind=4<;>simp [g,g4]
   · rw [if_neg (by omega),List.drop_of_length_le (by omega),Rx.rights,Bool.and_true]
     obtain ⟨kind,S,kids,mn,mx⟩:=n
     simp only [Node.kind,Node.set,Node.kids,Node.min,Node.max] at *
     unfold Rx.topB
     generalize kids.length=L
     have q0:((L:Int)=0)=(L=0):=propext (by omega)
     have q1:((L:Int)=1)=(L=1):=propext (by omega)
     have q2:((1:Int)<L)=(1<L):=propext (by omega)
     simp only [q0,q1,q2]
     generalize Rx.timesB mn mx=T
     by_cases k1:kind=1
     · subst k1
       by_cases a1:mn=0<;>by_cases a2:mx=0<;>by_cases a3:L=0<;>simp [a1,a2,a3]
     by_cases k2:kind=2
     · subst k2
       by_cases a0:S=CSet.empty<;>by_cases a1:mn=0<;>by_cases a2:mx=0<;>by_cases a3:L=1<;>simp [a0,a1,a2,a3]
     by_cases k3:kind=3
     · subst k3
       by_cases a0:S=CSet.empty<;>by_cases a1:mn=0<;>by_cases a2:mx=0<;>by_cases a3:1<L<;>simp [a0,a1,a2,a3]
     by_cases k4:kind=4
     · subst k4
       by_cases a0:S=CSet.empty<;>by_cases a3:L=1<;>cases T<;>simp [a0,a3]
     by_cases a0:S=CSet.empty<;>by_cases a1:mn=0<;>by_cases a2:mx=0<;>simp [k1,k2,k3,k4,a0,a1,a2]
theorem kid_size {n c:Node} (h:c∈n.kids):c.size+1≤n.size:=by
 rw [Node.size_eq n]
 have key:∀l:List Node,c∈l→c.size≤Node.sizes l:=by
  intro l
  induction l with
  | nil=>intro h;cases h
  | cons a r ih=>
    intro h
    rw [Node.sizes_cons]
    rcases List.mem_cons.1 h with rfl | h
    · omega
    · have:=ih h;omega
 have:=key _ h
 omega
theorem xright_p:∀(m:Nat) (n:Node),n.size≤m→Lens n→∀N,m+2000≤N→regex_Right_g N n=some (Rx.right n):=by
 intro m
 induction m with
 | zero=>intro n h;have:=n.size_pos;omega
 | succ m ih=>
   intro n h hm N hN
   obtain ⟨N,rfl⟩:∃M,N=M+1:=⟨N-1,by omega⟩
   have hk:=n.kids_le
   have hlen:=Lens_len hm
   rw [regex_Right_g]
   have:=mkids_p (regex_Right_g N) n (by omega) (fun c hc=>ih c (by have:=kid_size hc;omega) (Lens_kid hm hc) N (by omega)) N 0 (by omega) (by omega)
   rw [Rx.right_eq]
   exact this
end Pl
end Go.Proofs.YtjhbgkakhaonaaaGreatDoor
namespace Go.Proofs.YtjhbgkakhaonaaaGreatDoor
open Go
open Sh Gn
namespace Pl
open Mx (Pos orP zr single iter upto more Sup Adds Keeps sp)
def tab (M:Nat) (x:Pos):List Bool:=(List.range M).map x
theorem tab_len (M:Nat) (x:Pos):(tab M x).length=M:=by simp [tab]
theorem tab_at {M k:Nat} {x:Pos} (h:k<M):at_ (tab M x) (k:Int)=some (x k):=by
 unfold at_ tab
 rw [if_pos (by omega),Int.toNat_natCast,List.getElem?_map,List.getElem?_range h];rfl
theorem tab_ext {M:Nat} {x y:Pos} (h:∀j,j<M→x j=y j):tab M x=tab M y:=by
 unfold tab
 apply List.map_congr_left
 intro j hj
 exact h j (by simpa using hj)
theorem tab_set {M k:Nat} {x:Pos} {b:Bool}:(tab M x).set k b=tab M (fun j=>if j=k then b else x j):=by
 unfold tab
 apply List.ext_getElem?
 intro j
 rw [List.getElem?_set,List.getElem?_map,List.getElem?_map]
 by_cases h:k=j
 · subst h
   rw [if_pos rfl]
   by_cases g:k<M
   · simp [g]
   · simp [g,List.getElem?_eq_none]
 · rw [if_neg h]
   by_cases g:j<M
   · have:¬ j=k:=fun e=>h e.symm
     simp [g,this]
   · simp [g,List.getElem?_eq_none]
theorem tab_put {β:Type} {M k:Nat} {x:Pos} {b:Bool} {X:List Bool→Option β}:put cB (tab M x) (k:Int) b X=X (tab M (fun j=>if j=k then b else x j)):=by
 unfold put
 rw [Int.toNat_natCast,tab_set]
theorem tab_zro {M:Nat} (h:M≤1000000000):zro cB false (M:Int) (M:Int)=some (tab M zr):=by
 unfold zro
 rw [if_pos (by omega),Int.toNat_natCast]
 congr 1
 apply List.ext_getElem?
 intro j
 unfold tab
 rw [List.getElem?_map,List.getElem?_replicate]
 by_cases g:j<M
 · simp [g,zr]
 · simp [g,List.getElem?_eq_none]
def jn (a b:Pos) (k:Nat):Pos:=fun j=>if j<k then a j||b j else a j
theorem jn_zero (a b:Pos):jn a b 0=a:=by funext j;simp [jn]
theorem jn_succ (a b:Pos) (k:Nat):(fun j=>if j=k then a k||b k else jn a b k j)=jn a b (k+1):=by
 funext j
 unfold jn
 by_cases h:j=k
 · subst h;rw [if_pos rfl,if_pos (by omega)]
 · rw [if_neg h]
   by_cases g:j<k
   · rw [if_pos g,if_pos (by omega)]
   · rw [if_neg g,if_neg (by omega)]
theorem jn_all (M:Nat) (a b:Pos):tab M (jn a b M)=tab M (orP a b):=tab_ext fun j h=>by unfold jn;rw [if_pos h];rfl
theorem jn_self (a b:Pos) (k:Nat):jn a b k k=a k:=by unfold jn;rw [if_neg (by omega)]
def fr (a b:Pos) (k:Nat):Bool:=(List.range k).any fun j=>b j&& !a j
theorem fr_succ (a b:Pos) (k:Nat):fr a b (k+1)=(fr a b k||(b k&& !a k)):=by unfold fr;rw [List.range_succ,List.any_append];simp
theorem fr_no {a b:Pos} {M:Nat} (hb:Sup M b) (h:fr a b M=false):orP a b=a:=by
 unfold fr at h
 rw [List.any_eq_false] at h
 refine Mx.or_of_le fun j hj=>?_
 have hM:j<M:=Nat.lt_of_not_le fun g=>by rw [hb j g] at hj;cases hj
 have:=h j (by simpa using hM)
 simpa [hj] using this
theorem fr_yes {a b:Pos} {M:Nat} (h:fr a b M=true):orP a b≠a:=fun e=>by
 unfold fr at h
 rw [List.any_eq_true] at h
 obtain ⟨j,_,h2⟩:=h
 have:=congrFun e j
 simp [orP] at this h2
 rw [this h2.1] at h2
 simp at h2
section
variable {s:ByteArray} {M:Nat}
theorem join_one {a b:Pos} {k:Nat} (h:k<M) (X:Bool→List Bool→Option (List Bool)) (f:Bool):
 ((cond f (some true) ((at_ (tab M b) (k:Int)).bind fun r16=>(at_ (tab M b) (k:Int)).bind fun r17=>cond r17 ((at_ (tab M (jn a b k)) (k:Int)).bind fun r18=>(at_ (tab M (jn a b k)) (k:Int)).bind fun r19=>some !r19) (some false)):Option Bool).bind fun j44=>
 ((at_ (tab M (jn a b k)) (k:Int)).bind fun r20=>(at_ (tab M (jn a b k)) (k:Int)).bind fun r21=>cond r21
   ((at_ (tab M (jn a b k)) (k:Int)).bind fun r22=>(at_ (tab M (jn a b k)) (k:Int)).bind fun r23=>put cB (tab M (jn a b k)) (k:Int) true fun l24=>some l24)
   ((at_ (tab M b) (k:Int)).bind fun r25=>(at_ (tab M b) (k:Int)).bind fun r26=>(at_ (tab M (jn a b k)) (k:Int)).bind fun r27=>(at_ (tab M (jn a b k)) (k:Int)).bind fun r28=>put cB (tab M (jn a b k)) (k:Int) r26 fun l29=>some l29):Option (List Bool)).bind fun j45=>X j44 j45)=X (f||(b k&& !a k)) (tab M (jn a b (k+1))):=by
 simp only [tab_at h,Option.bind_some,tab_put,jn_self]
 have key:=jn_succ a b k
 cases f<;>cases hb:b k<;>cases ha:a k<;>simp [←key,ha,hb]
theorem often4_p {a0 a b:Pos} {k2:Int→List Bool→List Bool→Option (List Bool)} {v:Int} (hM:M≤100000):∀(m k:Nat),k≤M→M<k+m→
 match_often_l4 k2 (tab M a0) v (tab M b) m (fr a b k) k (tab M (jn a b k))=if fr a b M=true then k2 (ar .add .i64 v 1) (tab M b) (tab M (orP a b)) else some (tab M (orP a b)):=by
 intro m
 induction m with
 | zero=>intro k h1 h2;omega
 | succ m ih=>
   intro k h1 h2
   rw [match_often_l4,cm_lss,cond_dec,ll_eq,tab_len]
   by_cases c:k<M
   · rw [if_pos (by omega),inc1 (by omega)]
     rw [join_one c,←fr_succ,ih (k+1) (by omega) (by omega)]
   · obtain rfl:k=M:=by omega
     rw [if_neg (by omega),jn_all,cond_not]
     cases fr a b k<;>rfl
theorem often7_p {a0 a b:Pos} {k2:Int→List Bool→List Bool→Option (List Bool)} {v:Int} (hM:M≤100000):∀(m k:Nat),k≤M→M<k+m→
 match_often_l7 k2 (tab M a0) v (tab M b) m (fr a b k) k (tab M (jn a b k))=if fr a b M=true then k2 (ar .add .i64 v 1) (tab M b) (tab M (orP a b)) else some (tab M (orP a b)):=by
 intro m
 induction m with
 | zero=>intro k h1 h2;omega
 | succ m ih=>
   intro k h1 h2
   rw [match_often_l7,cm_lss,cond_dec,ll_eq,tab_len]
   by_cases c:k<M
   · rw [if_pos (by omega),inc1 (by omega)]
     rw [join_one c,←fr_succ,ih (k+1) (by omega) (by omega)]
   · obtain rfl:k=M:=by omega
     rw [if_neg (by omega),jn_all,cond_not]
     cases fr a b k<;>rfl
theorem moved5_p {a0 a b:Pos} {k3:Int→List Bool→Option (List Bool)} {v:Int} (hM:M≤100000):∀(m k:Nat) (f:Bool),k≤M→M<k+m→
 match_moved_l5 k3 v (tab M a0) (tab M b) m f k (tab M (jn a b k))=k3 (ar .add .i64 v 1) (tab M (orP a b)):=by
 intro m
 induction m with
 | zero=>intro k f h1 h2;omega
 | succ m ih=>
   intro k f h1 h2
   rw [match_moved_l5,cm_lss,cond_dec,ll_eq,tab_len]
   by_cases c:k<M
   · rw [if_pos (by omega),inc1 (by omega)]
     rw [join_one c,ih (k+1) _ (by omega) (by omega)]
   · obtain rfl:k=M:=by omega
     rw [if_neg (by omega),jn_all]
def MOk (s:ByteArray) (N:Nat) (n:Node):Prop:=∀x,Sup (s.size+1) x→match_moved_g N n s (tab (s.size+1) x)=some (tab (s.size+1) (sp s.data.toList n x))
theorem clone_p {l:List Bool} (h:l.length≤1000000000):slices_Clone_159_g l=some l:=by
 unfold slices_Clone_159_g nilq
 cases l with
 | nil=>rfl
 | cons a r=>simp only [Option.bind_some];unfold app;rw [if_pos (by simpa using h)];rfl
theorem equal_p {x y:Pos} (hM:M≤100000):∀(m k:Nat),k≤M→M<k+m→∃b,slices_Equal_160_l1 (tab M x) (tab M y) m k=some b∧(b=true↔∀j,k≤j→j<M→x j=y j):=by
 intro m
 induction m with
 | zero=>intro k h1 h2;omega
 | succ m ih=>
   intro k h1 h2
   rw [slices_Equal_160_l1,cm_lss,cond_dec,ll_eq,tab_len]
   by_cases c:k<M
   · rw [if_pos (by omega),inc1 (by omega),tab_at c,tab_at c]
     simp only [Option.bind_some]
     obtain ⟨b,hb,hb2⟩:=ih (k+1) (by omega) (by omega)
     by_cases g:x k=y k
     · rw [g]
       have:conj [y k==y k]=true:=by cases y k<;>rfl
       rw [this]
       refine ⟨b,hb,hb2.trans ⟨fun h j h1 h2=>?_,fun h j h1 h2=>h j (by omega) h2⟩⟩
       rcases Nat.lt_or_ge k j with h3 | h3
       · exact h j h3 h2
       · obtain rfl:j=k:=by omega
         exact g
     · have:conj [x k==y k]=false:=by cases hx:x k<;>cases hy:y k<;>first | rfl | (rw [hx,hy] at g;exact absurd rfl g)
       rw [this]
       exact ⟨false,rfl,fun h=>(nomatch h),fun h=>absurd (h k (Nat.le_refl _) c) g⟩
   · rw [if_neg (by omega)]
     exact ⟨true,rfl,fun _ j h1 h2=>by omega,fun _=>rfl⟩
theorem equals_p {x y:Pos} {N:Nat} (hM:M≤100000) (hN:M<N) (hx:Sup M x) (hy:Sup M y):∃b,slices_Equal_160_g N (tab M x) (tab M y)=some b∧(b=true↔x=y):=by
 unfold slices_Equal_160_g
 rw [cm_neq,cond_not,cond_dec,ll_eq,ll_eq,tab_len,tab_len,if_pos rfl]
 obtain ⟨b,h1,h2⟩:=equal_p (x:=x) (y:=y) hM N 0 (by omega) (by omega)
 refine ⟨b,h1,h2.trans ⟨fun h=>?_,fun h j _ _=>by rw [h]⟩⟩
 funext j
 rcases Nat.lt_or_ge j M with h1 | h1
 · exact h j (by omega) h1
 · rw [hx j h1,hy j h1]
theorem rounds_p {n c:Node} {y:Pos} {N:Nat} {K:Nat} {L:Nat→Int→List Bool→List Bool→Option (List Bool)} (hs:s.size≤10000) (hN:s.size+20≤N) (hK:K≤16) (hy:Sup (s.size+1) y) (hmx:n.max=-1∨((K:Nat):Int)≤n.max) (hmx2:n.max≤16)
 (hL:∀m (j:Nat) (w z:Pos),j≤s.size+2→Sup (s.size+1) w→L (m+1) ((K+j:Nat):Int) (tab (s.size+1) w) (tab (s.size+1) z)=if n.max=-1∨((K+j:Nat):Int)<n.max then (if fr z (sp s.data.toList c w) (s.size+1)=true then L m ((K+(j+1):Nat):Int) (tab (s.size+1) (sp s.data.toList c w)) (tab (s.size+1) (orP z (sp s.data.toList c w))) else some (tab (s.size+1) (orP z (sp s.data.toList c w)))) else some (tab (s.size+1) z)):
 ∀(m j:Nat),j≤s.size+2→s.size+4≤j+m→(n.max=-1∨((K+j:Nat):Int)≤n.max)→(∀i,i<j→upto (sp s.data.toList c) (i+1) y≠upto (sp s.data.toList c) i y)→
 L m ((K+j:Nat):Int) (tab (s.size+1) (iter (sp s.data.toList c) j y)) (tab (s.size+1) (upto (sp s.data.toList c) j y))=some (tab (s.size+1) (upto (sp s.data.toList c) (more s.data.toList.length K n.max) y)):=by
 have hA:=Mx.adds_sp s.data.toList c
 have hKe:=Mx.keeps_sp s.data.toList c
 have hlen:s.data.toList.length=s.size:=size_list s
 rw [hlen] at hKe
 intro m
 induction m with
 | zero=>intro j h1 h2;omega
 | succ m ih=>
   intro j h1 h2 h3 h4
   have hsup:Sup (s.size+1) (iter (sp s.data.toList c) j y):=(Keeps.iter hKe j) y hy
   rw [hL m j _ _ h1 hsup]
   have hj:j≤s.size:=by
    cases j with
    | zero=>omega
    | succ j=>
      by_cases hz:y=zr
      · subst hz
        exact absurd (by rw [(hA.upto (j+1)).none_,(hA.upto j).none_]) (h4 j (by omega))
      · have e1:=Mx.cnt_upto hA hKe hy hz j (h4 j (by omega))
        have e2:=Mx.cnt_le (s.size+1) (upto (sp s.data.toList c) (j+1) y)
        omega
   have hstep:orP (upto (sp s.data.toList c) j y) (sp s.data.toList c (iter (sp s.data.toList c) j y))=upto (sp s.data.toList c) (j+1) y:=by
    rw [Mx.upto_succ hA,Mx.iter_succ]
   have hit:sp s.data.toList c (iter (sp s.data.toList c) j y)=iter (sp s.data.toList c) (j+1) y:=(Mx.iter_succ _ j y).symm
   have hsup2:Sup (s.size+1) (sp s.data.toList c (iter (sp s.data.toList c) j y)):=hKe _ hsup
   by_cases c1:n.max=-1∨((K+j:Nat):Int)<n.max
   · rw [if_pos c1]
     by_cases c2:fr (upto (sp s.data.toList c) j y) (sp s.data.toList c (iter (sp s.data.toList c) j y)) (s.size+1)=true
     · rw [if_pos c2,hstep,hit]
       refine ih (j+1) (by omega) (by omega) (by omega) fun i hi=>?_
       rcases Nat.lt_or_ge i j with h5 | h5
       · exact h4 i h5
       · obtain rfl:i=j:=by omega
         rw [←hstep]
         exact fr_yes c2
     · rw [if_neg c2]
       have e:=fr_no hsup2 (Bool.eq_false_iff.2 c2)
       rw [e]
       rw [hstep] at e
       congr 2
       have hst:=Mx.upto_stop e
       unfold more
       by_cases c3:n.max=-1
       · rw [if_pos c3,hlen]
         exact (hst s.size hj).symm
       · rw [if_neg c3]
         exact (hst _ (by omega)).symm
   · rw [if_neg c1]
     congr 2
     unfold more
     rw [if_neg (by omega)]
     congr 1
     omega
theorem iter_fix {f:Pos→Pos} {x:Pos} {k:Nat} (h:f (iter f k x)=iter f k x):∀m,k≤m→iter f m x=iter f k x:=by
 intro m hm
 induction m with
 | zero => obtain rfl:k=0:=by omega
           rfl
 | succ m ih=>
   rcases Nat.lt_or_ge k (m+1) with h1 | h1
   · rw [Mx.iter_succ,ih (by omega),h]
   · obtain rfl:k=m+1:=by omega
     rfl
theorem often_p {n c:Node} {N:Nat} {rec:Node→ByteArray→List Bool→Option (List Bool)} (hs:s.size≤10000) (hN:s.size+40≤N) (hc:n.kids=[c]) (hmn:0≤n.min∧n.min≤16) (hmx:n.max=-1∨n.min≤n.max) (hmx2:n.max≤16)
 (hr:∀x,Sup (s.size+1) x→rec c s (tab (s.size+1) x)=some (tab (s.size+1) (sp s.data.toList c x))) {x:Pos} (hx:Sup (s.size+1) x):
 match_often_g rec N n s (tab (s.size+1) x)=some (tab (s.size+1) (Mx.spRep s.data.toList n.kids n.min n.max x)):=by
 obtain ⟨K,hK⟩:∃K:Nat,n.min=(K:Int):=⟨n.min.toNat,by omega⟩
 have hK16:K≤16:=by omega
 have hKe:=Mx.keeps_sp s.data.toList c
 have hlen:s.data.toList.length=s.size:=size_list s
 rw [hlen] at hKe
 have hat:at_ n.kids (0:Int)=some c:=by rw [hc];rfl
 have e1:Mx.spRep s.data.toList n.kids n.min n.max x=upto (sp s.data.toList c) (more s.data.toList.length K n.max) (iter (sp s.data.toList c) K x):=by
  rw [hc,hK];rfl
 rw [e1]
 have hL2:∀m (j:Nat) (w z:Pos),j≤s.size+2→Sup (s.size+1) w→match_often_l2 rec N n s (m+1) ((K+j:Nat):Int) (tab (s.size+1) w) (tab (s.size+1) z)=if n.max=-1∨((K+j:Nat):Int)<n.max then (if fr z (sp s.data.toList c w) (s.size+1)=true then match_often_l2 rec N n s m ((K+(j+1):Nat):Int) (tab (s.size+1) (sp s.data.toList c w)) (tab (s.size+1) (orP z (sp s.data.toList c w))) else some (tab (s.size+1) (orP z (sp s.data.toList c w)))) else some (tab (s.size+1) z):=by
  intro m j w z hj hw
  rw [match_often_l2]
  simp only [cm_eql,cm_lss,cond_dec,ite_or,Option.bind_some,hat,hr w hw]
  by_cases c1:n.max=-1∨((K+j:Nat):Int)<n.max
  · rw [if_pos c1,if_pos c1]
    have key:=often4_p (a0:=z) (a:=z) (b:=sp s.data.toList c w) (k2:=match_often_l2 rec N n s m) (v:=((K+j:Nat):Int)) (M:=s.size+1) (by omega) N 0 (by omega) (by omega)
    rw [jn_zero,inc1 (by omega)] at key
    exact key
  · rw [if_neg c1,if_neg c1]
 have hL5:∀m (j:Nat) (w z:Pos),j≤s.size+2→Sup (s.size+1) w→match_often_l5 rec N n s (m+1) ((K+j:Nat):Int) (tab (s.size+1) w) (tab (s.size+1) z)=if n.max=-1∨((K+j:Nat):Int)<n.max then (if fr z (sp s.data.toList c w) (s.size+1)=true then match_often_l5 rec N n s m ((K+(j+1):Nat):Int) (tab (s.size+1) (sp s.data.toList c w)) (tab (s.size+1) (orP z (sp s.data.toList c w))) else some (tab (s.size+1) (orP z (sp s.data.toList c w)))) else some (tab (s.size+1) z):=by
  intro m j w z hj hw
  rw [match_often_l5]
  simp only [cm_eql,cm_lss,cond_dec,ite_or,Option.bind_some,hat,hr w hw]
  by_cases c1:n.max=-1∨((K+j:Nat):Int)<n.max
  · rw [if_pos c1,if_pos c1]
    have key:=often7_p (a0:=z) (a:=z) (b:=sp s.data.toList c w) (k2:=match_often_l5 rec N n s m) (v:=((K+j:Nat):Int)) (M:=s.size+1) (by omega) N 0 (by omega) (by omega)
    rw [jn_zero,inc1 (by omega)] at key
    exact key
  · rw [if_neg c1,if_neg c1]
 have hmx':n.max=-1∨((K:Nat):Int)≤n.max:=by omega
 have go2:∀y,Sup (s.size+1) y→match_often_l2 rec N n s N (K:Int) (tab (s.size+1) y) (tab (s.size+1) y)=some (tab (s.size+1) (upto (sp s.data.toList c) (more s.data.toList.length K n.max) y)):=fun y hy=>
  rounds_p (n:=n) (c:=c) (y:=y) (N:=N) (K:=K) (L:=match_often_l2 rec N n s) hs (by omega) hK16 hy hmx' hmx2 hL2 N 0 (by omega) (by omega) (by omega) (fun i hi=>by omega)
 have go5:∀y,Sup (s.size+1) y→match_often_l5 rec N n s N (K:Int) (tab (s.size+1) y) (tab (s.size+1) y)=some (tab (s.size+1) (upto (sp s.data.toList c) (more s.data.toList.length K n.max) y)):=fun y hy=>
  rounds_p (n:=n) (c:=c) (y:=y) (N:=N) (K:=K) (L:=match_often_l5 rec N n s) hs (by omega) hK16 hy hmx' hmx2 hL5 N 0 (by omega) (by omega) (by omega) (fun i hi=>by omega)
 have hcl:∀y,slices_Clone_159_g (tab (s.size+1) y)=some (tab (s.size+1) y):=fun y=>clone_p (by rw [tab_len];omega)
 have key:∀(m k:Nat),k≤K→K<k+m→match_often_l1 rec N n s m (k:Int) (tab (s.size+1) (iter (sp s.data.toList c) k x))=some (tab (s.size+1) (upto (sp s.data.toList c) (more s.data.toList.length K n.max) (iter (sp s.data.toList c) K x))):=by
  intro m
  induction m with
  | zero=>intro k h1 h2;omega
  | succ m ih=>
    intro k h1 h2
    rw [match_often_l1]
    have hsup:Sup (s.size+1) (iter (sp s.data.toList c) k x):=(Keeps.iter hKe k) x hx
    simp only [cm_lss,cond_dec,hat,Option.bind_some,hr _ hsup,hK,hcl]
    by_cases c1:k<K
    · obtain ⟨b,hb,hb2⟩:=equals_p (M:=s.size+1) (N:=N) (by omega) (by omega) (hKe _ hsup) hsup
      rw [if_pos (by omega),hb,inc1 (by omega)]
      simp only [Option.bind_some]
      cases b with
      | true=>rw [_root_.cond_true,go2 _ hsup,iter_fix (hb2.1 rfl) K (by omega)]
      | false=>
        rw [_root_.cond_false]
        have e:sp s.data.toList c (iter (sp s.data.toList c) k x)=iter (sp s.data.toList c) (k+1) x:=(Mx.iter_succ _ k x).symm
        rw [e]
        exact ih (k+1) (by omega) (by omega)
    · obtain rfl:k=K:=by omega
      rw [if_neg (by omega),go5 _ hsup]
 unfold match_often_g
 rw [hcl,Option.bind_some]
 exact key N 0 (by omega) (by omega)
theorem sp_eq (l:List UInt8) (n:Node) (x:Pos):sp l n x=if n.kind=1 then Mx.one n.set l x else if n.kind=2 then Mx.spCat l n.kids x else if n.kind=3 then Mx.spAlt l n.kids x else Mx.spRep l n.kids n.min n.max x:=by
 cases n
 first | (rw [sp];done) | (rw [sp];rfl)
theorem one_p {n:Node} (hs:s.size≤10000) (x:Pos):∀(m k:Nat),k≤s.size→s.size<k+m→
 match_moved_l1 n s (tab (s.size+1) x) m k (tab (s.size+1) (fun j=>if j≤k then Mx.one n.set s.data.toList x j else false))=some (tab (s.size+1) (Mx.one n.set s.data.toList x)):=by
 intro m
 induction m with
 | zero=>intro k h1 h2;omega
 | succ m ih=>
   intro k h1 h2
   rw [match_moved_l1,cm_lss,cond_dec,sl_eq]
   by_cases c:k<s.size
   · have hi:=inc1 (show k≤100000000 by omega)
     have hch:charset_Has_g n.set (sa s (k:Int))=some (n.set.has (Qu.bt s.data.toList k)):=by
      have:=Qu.bt_lt s.data.toList k
      unfold charset_Has_g
      rw [sa_bt,if_pos (by omega),Int.toNat_natCast]
     have hbt:Mx.one n.set s.data.toList x (k+1)=(x k&&n.set.has (Qu.bt s.data.toList k)):=by
      show (x k&&_)=_
      have:s.data.toList[k]?=some (s.data.toList[k]'(by rw [size_list];exact c)):=List.getElem?_eq_getElem _
      unfold Qu.bt
      rw [this]
     have step:∀b,b=Mx.one n.set s.data.toList x (k+1)→match_moved_l1 n s (tab (s.size+1) x) m ((k+1:Nat):Int) (tab (s.size+1) (fun j=>if j=k+1 then b else if j≤k then Mx.one n.set s.data.toList x j else false))=some (tab (s.size+1) (Mx.one n.set s.data.toList x)):=fun b hb=>by
      rw [←ih (k+1) (by omega) (by omega)]
      congr 1
      refine tab_ext fun j hj=>?_
      by_cases g:j=k+1
      · subst g;rw [if_pos rfl,if_pos (Nat.le_refl _),hb]
      · rw [if_neg g]
        by_cases g2:j≤k
        · rw [if_pos g2,if_pos (by omega)]
        · rw [if_neg g2,if_neg (by omega)]
     rw [if_pos (by omega),tab_at (by omega)]
     simp only [Option.bind_some,hi,tab_at (show k+1<s.size+1 by omega),tab_put,hch,sin_in c,_root_.cond_true]
     cases hx:x k with
     | true=>
       simp only [_root_.cond_true]
       exact step _ (by rw [hbt,hx];rfl)
     | false=>
       simp only [_root_.cond_false]
       exact step _ (by rw [hbt,hx];rfl)
   · obtain rfl:k=s.size:=by omega
     rw [if_neg (by omega)]
     congr 1
     exact tab_ext fun j hj=>by rw [if_pos (by omega)]
theorem mcat_p {n:Node} {rec:Node→ByteArray→List Bool→Option (List Bool)} (hl:n.kids.length≤9223372036854775807)
 (hr:∀c∈n.kids,∀x,Sup (s.size+1) x→rec c s (tab (s.size+1) x)=some (tab (s.size+1) (sp s.data.toList c x))):∀(m k:Nat) (x:Pos),Sup (s.size+1) x→k≤n.kids.length→n.kids.length<k+m→
 match_moved_l2 rec n s m k (tab (s.size+1) x)=some (tab (s.size+1) (Mx.spCat s.data.toList (n.kids.drop k) x)):=by
 intro m
 induction m with
 | zero=>intro k x hx h1 h2;omega
 | succ m ih=>
   intro k x hx h1 h2
   rw [match_moved_l2,cm_lss,cond_dec,ll_eq]
   by_cases c:k<n.kids.length
   · have hKe:=Mx.keeps_sp s.data.toList n.kids[k]
     rw [size_list] at hKe
     rw [if_pos (by omega),at_get c,incL (by omega),Option.bind_some,hr _ (List.getElem_mem c) x hx,Option.bind_some,ih (k+1) _ (hKe x hx) (by omega) (by omega),List.drop_eq_getElem_cons c,Mx.spCat]
   · rw [if_neg (by omega),List.drop_of_length_le (by omega),Mx.spCat]
theorem malt_p {n:Node} {N:Nat} {rec:Node→ByteArray→List Bool→Option (List Bool)} (hs:s.size≤10000) (hN:s.size+1<N) (hl:n.kids.length≤9223372036854775807) {x:Pos}
 (hr:∀c∈n.kids,rec c s (tab (s.size+1) x)=some (tab (s.size+1) (sp s.data.toList c x))):∀(m k:Nat) (y:Pos),k≤n.kids.length→n.kids.length<k+m→
 match_moved_l3 rec N n s (tab (s.size+1) x) m k (tab (s.size+1) y)=some (tab (s.size+1) (orP y (Mx.spAlt s.data.toList (n.kids.drop k) x))):=by
 intro m
 induction m with
 | zero=>intro k y h1 h2;omega
 | succ m ih=>
   intro k y h1 h2
   rw [match_moved_l3,cm_lss,cond_dec,ll_eq]
   by_cases c:k<n.kids.length
   · rw [if_pos (by omega),at_get c,Option.bind_some,hr _ (List.getElem_mem c),Option.bind_some]
     have key:=moved5_p (a0:=y) (a:=y) (b:=sp s.data.toList n.kids[k] x) (k3:=match_moved_l3 rec N n s (tab (s.size+1) x) m) (v:=(k:Int)) (M:=s.size+1) (by omega) N 0 false (by omega) (by omega)
     rw [jn_zero,incL (by omega),ih (k+1) _ (by omega) (by omega)] at key
     rw [List.drop_eq_getElem_cons c,Mx.spAlt,←Mx.or_assoc]
     exact key
   · rw [if_neg (by omega),List.drop_of_length_le (by omega),Mx.spAlt,Mx.or_none]
theorem moved_p (hs:s.size≤10000):∀(m:Nat) (n:Node),n.size≤m→Lens n→Rx.right n=true→∀N,m+20000≤N→MOk s N n:=by
 intro m
 induction m with
 | zero=>intro n h;have:=n.size_pos;omega
 | succ m ih=>
   intro n h hm hri N hN x hx
   obtain ⟨N,rfl⟩:∃M,N=M+1:=⟨N-1,by omega⟩
   have hk:=n.kids_le
   have hlen:=Lens_len hm
   rw [Rx.right_eq,Bool.and_eq_true] at hri
   obtain ⟨ht,hrs⟩:=hri
   have hrs:=(Rx.rights_iff _ _).1 hrs
   have hrec:∀c∈n.kids,∀x,Sup (s.size+1) x→match_moved_g N c s (tab (s.size+1) x)=some (tab (s.size+1) (sp s.data.toList c x)):=fun c hc=>ih c (by have:=kid_size hc;omega) (Lens_kid hm hc) (hrs c hc).1 N (by omega)
   rw [match_moved_g]
   dsimp only
   rw [ll_eq,tab_len,tab_zro (by omega),Option.bind_some,sp_eq]
   simp only [cm_eql,cond_dec,bind_self]
   by_cases k1:n.kind=1
   · rw [if_pos k1,if_pos k1]
     have key:=one_p (n:=n) hs x N 0 (by omega) (by omega)
     rw [←key]
     congr 1
     refine tab_ext fun j hj=>?_
     cases j with
     | zero=>rfl
     | succ j=>rw [if_neg (by omega)];rfl
   by_cases k2:n.kind=2
   · rw [if_neg k1,if_pos k2,if_neg k1,if_pos k2]
     have hcp:cpy cB (tab (s.size+1) zr) (tab (s.size+1) x)=some (tab (s.size+1) x):=by
      have hne:∀y,tab (s.size+1) y≠[]:=fun y e=>by have:=tab_len (s.size+1) y;rw [e] at this;cases this
      unfold cpy
      rw [if_pos ⟨hne _,hne _⟩,tab_len,tab_len,List.take_of_length_le (by rw [tab_len];omega),List.drop_of_length_le (by rw [tab_len];omega),List.append_nil]
     rw [hcp,Option.bind_some]
     exact mcat_p (by omega) hrec N 0 x hx (by omega) (by omega)
   by_cases k3:n.kind=3
   · rw [if_neg k1,if_neg k2,if_pos k3,if_neg k1,if_neg k2,if_pos k3]
     have key:=malt_p (n:=n) (N:=N) (rec:=match_moved_g N) hs (by omega) (by omega) (x:=x) (fun c hc=>hrec c hc x hx) N 0 zr (by omega) (by omega)
     rw [Mx.none_or] at key
     exact key
   have k4:n.kind=4:=by
    unfold Rx.topB at ht
    simp only [Bool.and_eq_true,Bool.or_eq_true,beq_iff_eq] at ht
    have:=ht.1.1.1
    omega
   rw [if_neg k1,if_neg k2,if_neg k3,if_pos k4,if_neg k1,if_neg k2,if_neg k3]
   have h4:n.kids.length=1∧Rx.timesB n.min n.max=true:=by
    unfold Rx.topB at ht
    simp [k4] at ht
    exact ht.2
   obtain ⟨c,hc⟩:=List.length_eq_one_iff.1 h4.1
   have ht2:=h4.2
   unfold Rx.timesB at ht2
   split at ht2
   · cases ht2
   · rename_i g
     simp at g ht2
     exact often_p hs (by omega) hc (by omega) (by omega) (by omega) (hrec c (by rw [hc];simp)) hx
end
end Pl
end Go.Proofs.YtjhbgkakhaonaaaGreatDoor
namespace Go.Proofs.YtjhbgkakhaonaaaGreatDoor
open Go
open Sh Gn Mx
namespace Pl
theorem cloneI_p {l:List Int} (h:l.length≤1000000):slices_CloneI_g l=some l:=by
 unfold slices_CloneI_g nilq
 cases l with
 | nil=>rfl
 | cons x l=>simp only [Option.bind_some,app_eq (show ([]:List Int).length+(x::l).length≤1000000000 by simp at h ⊢;omega),List.nil_append]
variable {N:Nat} {n:Node} {s:ByteArray}
theorem of_bad (hR:regex_Right_g N n=some false):spots_Of_g N n=some (⟨[],false,[],[],[]⟩,7):=by
 unfold spots_Of_g;rw [hR];rfl
theorem of_p (hR:regex_Right_g N n=some true) (hr:Rx.right n=true) (hz:Lens n) (hN:30*n.size+3000≤N) (hc:cnt n≤200):∃q sets nx,spots_Of_g N n=some (⟨sets,q.none,q.first,q.last,nx⟩,0)∧Wr 0 (cnt n) sets nx q (lang n):=by
 unfold spots_Of_g
 rw [hR,Option.bind_some]
 have e1:=count_p n.size n (Nat.le_refl _) hz hr N (by omega)
 obtain ⟨q,X,nx,r1,r2,-⟩:=write_p n.size n (Nat.le_refl _) hz hr N (by omega) ⟨⟨[],false,[],[],[]⟩⟩ 0 rfl rfl (by omega)
 rw [Nat.zero_add] at r2
 have l1:=rg_len r2.pr.first
 have l2:=rg_len r2.pr.last
 rw [e1,Option.bind_some,cm_gtr,cond_dec,if_neg (by omega),r1]
 simp only [Bool.not_true,_root_.cond_false,Option.bind_some,cloneI_p (show q.first.length≤1000000 by omega),cloneI_p (show q.last.length≤1000000 by omega)]
 exact ⟨q,_,nx,rfl,r2⟩
end Pl
end Go.Proofs.YtjhbgkakhaonaaaGreatDoor
namespace Go.Proofs.YtjhbgkakhaonaaaGreatDoor
open Go
open Sh Gn
namespace Pl
theorem size_g:∀(m:Nat) (n:Node),n.size≤m→Lens n→∀N,m+2≤N→∃x,r13_Size_g N n=some x:=by
 intro m
 induction m with
 | zero=>intro n h;have:=n.size_pos;omega
 | succ m ih=>
   intro n h hl N hN
   obtain ⟨N,rfl⟩:∃K,N=K+1:=⟨N-1,by omega⟩
   have hkl:=n.kids_le
   have hlen:=Lens_len hl
   rw [r13_Size_g]
   have key:∀(f i:Nat) (S D:Int),i≤n.kids.length→n.kids.length<i+f→∃x,r13_Size_l1 (r13_Size_g N) n f S D (i:Int)=some x:=by
    intro f
    induction f with
    | zero=>intro i S D h1 h2;omega
    | succ f ihf=>
      intro i S D h1 h2
      rw [r13_Size_l1]
      by_cases c:i<n.kids.length
      · have c':cm .lss (i:Int) (ll (rw _ nodeRow n.kids))=true:=by rw [cm_lss,ll_eq];exact decide_eq_true (by omega)
        have hc:=kid_le (List.getElem_mem c)
        obtain ⟨x,e1⟩:=ih n.kids[i] (by omega) (Lens_kid hl (List.getElem_mem c)) N (by omega)
        rw [c',_root_.cond_true,at_in c,Option.bind_some,e1,Option.bind_some,incL (by omega),cm_gtr,cond_dec]
        split
        · simp only [Option.bind_some]
          exact ihf (i+1) _ _ (by omega) (by omega)
        · simp only [Option.bind_some]
          exact ihf (i+1) _ _ (by omega) (by omega)
      · have c':cm .lss (i:Int) (ll (rw _ nodeRow n.kids))=false:=by rw [cm_lss,ll_eq];exact decide_eq_false (by omega)
        rw [c',_root_.cond_false]
        exact ⟨_,rfl⟩
   exact key N 0 1 0 (by omega) (by omega)
theorem great_p {n:Node} {N:Nat} (h:Lens n) (hN:n.size+2≤N):∃g,l13_Great_g N n=some g:=by
 obtain ⟨x,e⟩:=size_g n.size n (Nat.le_refl _) h N hN
 unfold l13_Great_g
 rw [e,Option.bind_some,cm_gtr,cond_dec]
 split
 · exact ⟨true,rfl⟩
 · exact ⟨_,rfl⟩
end Pl
end Go.Proofs.YtjhbgkakhaonaaaGreatDoor
namespace Go.Proofs.YtjhbgkakhaonaaaGreatDoor
open Go
open Sh Gn
open Mx (Pos orP zr single iter upto more Sup Adds Keeps sp)
namespace Pl
def hits (n:Node) (l:List UInt8):Bool:=Rx.right n&&Mx.sp l n (Mx.single 0) l.length
section
variable {s:ByteArray} {M:Nat}
theorem list_p {x:Pos} (hM:M≤100000):∀(m k:Nat) (l:List Int),k≤M→M<k+m→l.length≤k→match_Ends_l1 (tab M x) m k l=some (l++(((List.range M).drop k).filter x).map fun i:Nat=>(i:Int)):=by
 intro m
 induction m with
 | zero=>intro k l h1 h2;omega
 | succ m ih=>
   intro k l h1 h2 h3
   rw [match_Ends_l1,cm_lss,cond_dec,ll_eq,tab_len]
   by_cases c:k<M
   · rw [if_pos (by omega),inc1 (by omega),tab_at c]
     have ed:(List.range M).drop k=k::(List.range M).drop (k+1):=by
      rw [List.drop_eq_getElem_cons (by simpa using c)];simp
     rw [ed,List.filter_cons]
     simp only [Option.bind_some]
     cases hx:x k with
     | true=>
       have ea:app (cI .i64) l [(k:Int)]=some (l++[(k:Int)]):=by unfold app;rw [if_pos (by simp;omega)]
       rw [_root_.cond_true,ea]
       simp only [Option.bind_some]
       rw [ih (k+1) _ (by omega) (by omega) (by simp;omega)]
       simp
     | false=>
       rw [_root_.cond_false,Option.bind_some,ih (k+1) _ (by omega) (by omega) (by omega)]
       simp
   · rw [if_neg (by omega),List.drop_of_length_le (by simp;omega)]
     simp
theorem index_has {l:List Int} {x:Int} (hl:l.length≤100000):∀(m k:Nat),k≤l.length→l.length<k+m→∃r,slices_Index_152_l1 l x m k=some r∧(0≤r↔x∈l.drop k):=by
 intro m
 induction m with
 | zero=>intro k h1 h2;omega
 | succ m ih=>
   intro k h1 h2
   rw [slices_Index_152_l1,cm_lss,cond_dec,ll_eq]
   by_cases c:k<l.length
   · rw [if_pos (by omega),inc1 (by omega),at_get c,Option.bind_some,cm_eql,cond_dec]
     by_cases g:x=l[k]
     · rw [if_pos g]
       exact ⟨_,rfl,by rw [List.drop_eq_getElem_cons c];simp [←g]⟩
     · rw [if_neg g]
       obtain ⟨r,h3,h4⟩:=ih (k+1) (by omega) (by omega)
       refine ⟨r,h3,h4.trans ?_⟩
       have e:l.drop k=l[k]::l.drop (k+1):=List.drop_eq_getElem_cons c
       rw [e,List.mem_cons]
       exact ⟨.inr,fun h=>h.elim (fun h=>absurd h g) id⟩
   · rw [if_neg (by omega),List.drop_of_length_le (by omega)]
     exact ⟨-1,rfl,by simp⟩
theorem mmatch_p {n:Node} {N:Nat} (hs:s.size≤10000) (hz:Lens n) (hN:n.size+30000≤N):match_Match_g N n s=some (hits n s.data.toList):=by
 unfold match_Match_g match_Ends_g hits
 rw [xright_p n.size n (Nat.le_refl _) hz N (by omega),Option.bind_some,cond_not]
 simp only [cm_lss,cm_gtr,cond_dec,ite_or,sl_eq]
 cases hr:Rx.right n with
 | false=>
   simp only [_root_.cond_false,Option.bind_some,_root_.cond_true]
   obtain ⟨r,h1,h2⟩:=index_has (l:=[]) (x:=(s.size:Int)) (by simp) N 0 (by simp) (by simp;omega)
   unfold slices_Contains_150_g slices_Index_152_g
   rw [show ((0:Nat):Int)=0 from rfl] at h1
   rw [h1,Option.bind_some,Option.bind_some,cm_geq]
   simp at h2
   simp;omega
 | true=>
   have hx:Sup (s.size+1) (single 0):=Mx.sup_single (by omega)
   have key:=moved_p hs n.size n (Nat.le_refl _) hz hr N (by omega) (single 0) hx
   have e1:ar .add .i64 (s.size:Int) 1=((s.size+1:Nat):Int):=inc1 (by omega)
   have es:tab (s.size+1) (fun j=>if j=0 then true else zr j)=tab (s.size+1) (single 0):=tab_ext fun j hj=>by
    by_cases g:j=0
    · simp [g,single]
    · simp [g,single,zr]
   have h0:decide ((0:Int)<0∨(s.size:Int)<0)=false:=decide_eq_false (by omega)
   have t0:=fun x=>tab_at (M:=s.size+1) (k:=0) (x:=x) (by omega)
   have p0:=fun (b:Bool) (X:List Bool→Option (List Int))=>tab_put (M:=s.size+1) (k:=0) (x:=zr) (b:=b) (X:=X)
   rw [show ((0:Nat):Int)=0 from rfl] at t0 p0
   simp only [_root_.cond_true,h0,Option.bind_some,_root_.cond_false,e1,tab_zro (show s.size+1≤1000000000 by omega),t0,p0,es,key]
   have hl:=list_p (M:=s.size+1) (x:=sp s.data.toList n (single 0)) (by omega) N 0 [] (by omega) (by omega) (by simp)
   rw [show ((0:Nat):Int)=0 from rfl,List.drop_zero,List.nil_append] at hl
   rw [hl,Option.bind_some]
   have hlen:(((List.range (s.size+1)).filter (sp s.data.toList n (single 0))).map fun i:Nat=>(i:Int)).length≤s.size+1:=by
    rw [List.length_map]
    have:=List.length_filter_le (sp s.data.toList n (single 0)) (List.range (s.size+1))
    simpa using this
   generalize hL:(((List.range (s.size+1)).filter (sp s.data.toList n (single 0))).map fun i:Nat=>(i:Int))=L at *
   obtain ⟨r,h1,h2⟩:=index_has (l:=L) (x:=(s.size:Int)) (by omega) N 0 (by omega) (by omega)
   unfold slices_Contains_150_g slices_Index_152_g
   rw [show ((0:Nat):Int)=0 from rfl] at h1
   rw [h1,Option.bind_some,Option.bind_some,cm_geq,Bool.true_and,size_list]
   congr 1
   rw [Bool.eq_iff_iff,decide_eq_true_eq,h2,List.drop_zero,←hL]
   simp only [List.mem_map,List.mem_filter,List.mem_range]
   constructor
   · rintro ⟨a,⟨_,h3⟩,h4⟩
     have:a=s.size:=by omega
     rw [←this];exact h3
   · intro h3
     exact ⟨s.size,⟨by omega,h3⟩,rfl⟩
end
end Pl
end Go.Proofs.YtjhbgkakhaonaaaGreatDoor
namespace Go.Proofs.YtjhbgkakhaonaaaGreatDoor
open Go Go.RowKit
open Ab Sh
namespace Gn
def charset_Of_g (x y:Int):Option CSet:=if 0≤x∧x<256∧0≤y∧y<256 then some (CSet.between x.toNat y.toNat) else none
theorem charset_Of_w {x y:Int} {r:CSet} (h:charset_Of_g x y=some r):FunS Tryz.prog 45 [fI .u8 x,fI .u8 y] (setS rw) r:=by
 unfold charset_Of_g at h
 split at h
 · rename_i hh
   cases h
   exact f_of (by omega) (by omega) (by omega) (by omega)
 · cases h
end Gn
end Go.Proofs.YtjhbgkakhaonaaaGreatDoor
namespace Go.Proofs.YtjhbgkakhaonaaaGreatDoor
open Go Go.RowKit
open Ab Sh
namespace Gn
structure GDfa where
 Start:Int
 Final:List Bool
 Block:List Int
 Next:List (List Int)
structure Gdfa_builder where
 p:GSpots
 in_:List (List Int)
 seen:List (ByteArray × Int)
 sets:List (List Int)
 out:GDfa
end Gn
end Go.Proofs.YtjhbgkakhaonaaaGreatDoor
