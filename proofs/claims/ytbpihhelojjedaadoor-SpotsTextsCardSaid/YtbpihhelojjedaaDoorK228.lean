/- Texts that the proof leans on. -/
import Derived.Test.YtbpihhelojjedaaDoorK227
set_option linter.unusedVariables false
set_option linter.unusedSimpArgs false
set_option maxRecDepth 100000
set_option maxHeartbeats 4000000
namespace Go.Proofs.YtbpihhelojjedaaDoor
open Go
open Sh Gn
namespace Pl
open Mx (Pos orP zr single iter upto more Sup Adds Keeps sp)
def tab (M:Nat) (x:Pos):List Bool:=(List.range M).map x
theorem tab_len (M:Nat) (x:Pos):(tab M x).length=M:=by simp [tab]
theorem tab_at {M k:Nat} {x:Pos} (h:k<M):at_ (tab M x) (k:Int)=some (x k):=by
 unfold at_ tab
 rw [if_pos (by omega),Int.toNat_natCast,List.getElem?_map,List.getElem?_range h];rfl
theorem tab_ext {M:Nat} {x y:Pos} (h:∀j,j<M→x j=y j):tab M x=tab M y:=by
 unfold tab
 apply List.map_congr_left
 intro j hj
 exact h j (by simpa using hj)
theorem tab_set {M k:Nat} {x:Pos} {b:Bool}:(tab M x).set k b=tab M (fun j=>if j=k then b else x j):=by
 unfold tab
 apply List.ext_getElem?
 intro j
 rw [List.getElem?_set,List.getElem?_map,List.getElem?_map]
 by_cases h:k=j
 · subst h
   rw [if_pos rfl]
   by_cases g:k<M
   · simp [g]
   · simp [g,List.getElem?_eq_none]
 · rw [if_neg h]
   by_cases g:j<M
   · have:¬ j=k:=fun e=>h e.symm
     simp [g,this]
   · simp [g,List.getElem?_eq_none]
theorem tab_put {β:Type} {M k:Nat} {x:Pos} {b:Bool} {X:List Bool→Option β}:put cB (tab M x) (k:Int) b X=X (tab M (fun j=>if j=k then b else x j)):=by
 unfold put
 rw [Int.toNat_natCast,tab_set]
theorem tab_zro {M:Nat} (h:M≤1000000000):zro cB false (M:Int) (M:Int)=some (tab M zr):=by
 unfold zro
 rw [if_pos (by omega),Int.toNat_natCast]
 congr 1
 apply List.ext_getElem?
 intro j
 unfold tab
 rw [List.getElem?_map,List.getElem?_replicate]
 by_cases g:j<M
 · simp [g,zr]
 · simp [g,List.getElem?_eq_none]
def jn (a b:Pos) (k:Nat):Pos:=fun j=>if j<k then a j||b j else a j
theorem jn_zero (a b:Pos):jn a b 0=a:=by funext j;simp [jn]
theorem jn_succ (a b:Pos) (k:Nat):(fun j=>if j=k then a k||b k else jn a b k j)=jn a b (k+1):=by
 funext j
 unfold jn
 by_cases h:j=k
 · subst h;rw [if_pos rfl,if_pos (by omega)]
 · rw [if_neg h]
   by_cases g:j<k
   · rw [if_pos g,if_pos (by omega)]
   · rw [if_neg g,if_neg (by omega)]
theorem jn_all (M:Nat) (a b:Pos):tab M (jn a b M)=tab M (orP a b):=tab_ext fun j h=>by unfold jn;rw [if_pos h];rfl
theorem jn_self (a b:Pos) (k:Nat):jn a b k k=a k:=by unfold jn;rw [if_neg (by omega)]
def fr (a b:Pos) (k:Nat):Bool:=(List.range k).any fun j=>b j&& !a j
theorem fr_succ (a b:Pos) (k:Nat):fr a b (k+1)=(fr a b k||(b k&& !a k)):=by unfold fr;rw [List.range_succ,List.any_append];simp
theorem fr_no {a b:Pos} {M:Nat} (hb:Sup M b) (h:fr a b M=false):orP a b=a:=by
 unfold fr at h
 rw [List.any_eq_false] at h
 refine Mx.or_of_le fun j hj=>?_
 have hM:j<M:=Nat.lt_of_not_le fun g=>by rw [hb j g] at hj;cases hj
 have:=h j (by simpa using hM)
 simpa [hj] using this
theorem fr_yes {a b:Pos} {M:Nat} (h:fr a b M=true):orP a b≠a:=fun e=>by
 unfold fr at h
 rw [List.any_eq_true] at h
 obtain ⟨j,_,h2⟩:=h
 have:=congrFun e j
 simp [orP] at this h2
 rw [this h2.1] at h2
 simp at h2
section
variable {s:ByteArray} {M:Nat}
theorem join_one {a b:Pos} {k:Nat} (h:k<M) (X:Bool→List Bool→Option (List Bool)) (f:Bool):
 ((cond f (some true) ((at_ (tab M b) (k:Int)).bind fun r16=>(at_ (tab M b) (k:Int)).bind fun r17=>cond r17 ((at_ (tab M (jn a b k)) (k:Int)).bind fun r18=>(at_ (tab M (jn a b k)) (k:Int)).bind fun r19=>some !r19) (some false)):Option Bool).bind fun j44=>
 ((at_ (tab M (jn a b k)) (k:Int)).bind fun r20=>(at_ (tab M (jn a b k)) (k:Int)).bind fun r21=>cond r21
   ((at_ (tab M (jn a b k)) (k:Int)).bind fun r22=>(at_ (tab M (jn a b k)) (k:Int)).bind fun r23=>put cB (tab M (jn a b k)) (k:Int) true fun l24=>some l24)
   ((at_ (tab M b) (k:Int)).bind fun r25=>(at_ (tab M b) (k:Int)).bind fun r26=>(at_ (tab M (jn a b k)) (k:Int)).bind fun r27=>(at_ (tab M (jn a b k)) (k:Int)).bind fun r28=>put cB (tab M (jn a b k)) (k:Int) r26 fun l29=>some l29):Option (List Bool)).bind fun j45=>X j44 j45)=X (f||(b k&& !a k)) (tab M (jn a b (k+1))):=by
 simp only [tab_at h,Option.bind_some,tab_put,jn_self]
 have key:=jn_succ a b k
 cases f<;>cases hb:b k<;>cases ha:a k<;>simp [←key,ha,hb]
theorem often4_p {a0 a b:Pos} {k2:Int→List Bool→List Bool→Option (List Bool)} {v:Int} (hM:M≤100000):∀(m k:Nat),k≤M→M<k+m→
 match_often_l4 k2 (tab M a0) v (tab M b) m (fr a b k) k (tab M (jn a b k))=if fr a b M=true then k2 (ar .add .i64 v 1) (tab M b) (tab M (orP a b)) else some (tab M (orP a b)):=by
 intro m
 induction m with
 | zero=>intro k h1 h2;omega
 | succ m ih=>
   intro k h1 h2
   rw [match_often_l4,cm_lss,cond_dec,ll_eq,tab_len]
   by_cases c:k<M
   · rw [if_pos (by omega),inc1 (by omega)]
     rw [join_one c,←fr_succ,ih (k+1) (by omega) (by omega)]
   · obtain rfl:k=M:=by omega
     rw [if_neg (by omega),jn_all,cond_not]
     cases fr a b k<;>rfl
theorem often7_p {a0 a b:Pos} {k2:Int→List Bool→List Bool→Option (List Bool)} {v:Int} (hM:M≤100000):∀(m k:Nat),k≤M→M<k+m→
 match_often_l7 k2 (tab M a0) v (tab M b) m (fr a b k) k (tab M (jn a b k))=if fr a b M=true then k2 (ar .add .i64 v 1) (tab M b) (tab M (orP a b)) else some (tab M (orP a b)):=by
 intro m
 induction m with
 | zero=>intro k h1 h2;omega
 | succ m ih=>
   intro k h1 h2
   rw [match_often_l7,cm_lss,cond_dec,ll_eq,tab_len]
   by_cases c:k<M
   · rw [if_pos (by omega),inc1 (by omega)]
     rw [join_one c,←fr_succ,ih (k+1) (by omega) (by omega)]
   · obtain rfl:k=M:=by omega
     rw [if_neg (by omega),jn_all,cond_not]
     cases fr a b k<;>rfl
theorem moved5_p {a0 a b:Pos} {k3:Int→List Bool→Option (List Bool)} {v:Int} (hM:M≤100000):∀(m k:Nat) (f:Bool),k≤M→M<k+m→
 match_moved_l5 k3 v (tab M a0) (tab M b) m f k (tab M (jn a b k))=k3 (ar .add .i64 v 1) (tab M (orP a b)):=by
 intro m
 induction m with
 | zero=>intro k f h1 h2;omega
 | succ m ih=>
   intro k f h1 h2
   rw [match_moved_l5,cm_lss,cond_dec,ll_eq,tab_len]
   by_cases c:k<M
   · rw [if_pos (by omega),inc1 (by omega)]
     rw [join_one c,ih (k+1) _ (by omega) (by omega)]
   · obtain rfl:k=M:=by omega
     rw [if_neg (by omega),jn_all]
def MOk (s:ByteArray) (N:Nat) (n:Node):Prop:=∀x,Sup (s.size+1) x→match_moved_g N n s (tab (s.size+1) x)=some (tab (s.size+1) (sp s.data.toList n x))
theorem clone_p {l:List Bool} (h:l.length≤1000000000):slices_Clone_159_g l=some l:=by
 unfold slices_Clone_159_g nilq
 cases l with
 | nil=>rfl
 | cons a r=>simp only [Option.bind_some];unfold app;rw [if_pos (by simpa using h)];rfl
theorem equal_p {x y:Pos} (hM:M≤100000):∀(m k:Nat),k≤M→M<k+m→∃b,slices_Equal_160_l1 (tab M x) (tab M y) m k=some b∧(b=true↔∀j,k≤j→j<M→x j=y j):=by
 intro m
 induction m with
 | zero=>intro k h1 h2;omega
 | succ m ih=>
   intro k h1 h2
   rw [slices_Equal_160_l1,cm_lss,cond_dec,ll_eq,tab_len]
   by_cases c:k<M
   · rw [if_pos (by omega),inc1 (by omega),tab_at c,tab_at c]
     simp only [Option.bind_some]
     obtain ⟨b,hb,hb2⟩:=ih (k+1) (by omega) (by omega)
     by_cases g:x k=y k
     · rw [g]
       have:conj [y k==y k]=true:=by cases y k<;>rfl
       rw [this]
       refine ⟨b,hb,hb2.trans ⟨fun h j h1 h2=>?_,fun h j h1 h2=>h j (by omega) h2⟩⟩
       rcases Nat.lt_or_ge k j with h3 | h3
       · exact h j h3 h2
       · obtain rfl:j=k:=by omega
         exact g
     · have:conj [x k==y k]=false:=by cases hx:x k<;>cases hy:y k<;>first | rfl | (rw [hx,hy] at g;exact absurd rfl g)
       rw [this]
       exact ⟨false,rfl,fun h=>(nomatch h),fun h=>absurd (h k (Nat.le_refl _) c) g⟩
   · rw [if_neg (by omega)]
     exact ⟨true,rfl,fun _ j h1 h2=>by omega,fun _=>rfl⟩
theorem equals_p {x y:Pos} {N:Nat} (hM:M≤100000) (hN:M<N) (hx:Sup M x) (hy:Sup M y):∃b,slices_Equal_160_g N (tab M x) (tab M y)=some b∧(b=true↔x=y):=by
 unfold slices_Equal_160_g
 rw [cm_neq,cond_not,cond_dec,ll_eq,ll_eq,tab_len,tab_len,if_pos rfl]
 obtain ⟨b,h1,h2⟩:=equal_p (x:=x) (y:=y) hM N 0 (by omega) (by omega)
 refine ⟨b,h1,h2.trans ⟨fun h=>?_,fun h j _ _=>by rw [h]⟩⟩
 funext j
 rcases Nat.lt_or_ge j M with h1 | h1
 · exact h j (by omega) h1
 · rw [hx j h1,hy j h1]
theorem rounds_p {n c:Node} {y:Pos} {N:Nat} {K:Nat} {L:Nat→Int→List Bool→List Bool→Option (List Bool)} (hs:s.size≤10000) (hN:s.size+20≤N) (hK:K≤16) (hy:Sup (s.size+1) y) (hmx:n.max=-1∨((K:Nat):Int)≤n.max) (hmx2:n.max≤16)
 (hL:∀m (j:Nat) (w z:Pos),j≤s.size+2→Sup (s.size+1) w→L (m+1) ((K+j:Nat):Int) (tab (s.size+1) w) (tab (s.size+1) z)=if n.max=-1∨((K+j:Nat):Int)<n.max then (if fr z (sp s.data.toList c w) (s.size+1)=true then L m ((K+(j+1):Nat):Int) (tab (s.size+1) (sp s.data.toList c w)) (tab (s.size+1) (orP z (sp s.data.toList c w))) else some (tab (s.size+1) (orP z (sp s.data.toList c w)))) else some (tab (s.size+1) z)):
 ∀(m j:Nat),j≤s.size+2→s.size+4≤j+m→(n.max=-1∨((K+j:Nat):Int)≤n.max)→(∀i,i<j→upto (sp s.data.toList c) (i+1) y≠upto (sp s.data.toList c) i y)→
 L m ((K+j:Nat):Int) (tab (s.size+1) (iter (sp s.data.toList c) j y)) (tab (s.size+1) (upto (sp s.data.toList c) j y))=some (tab (s.size+1) (upto (sp s.data.toList c) (more s.data.toList.length K n.max) y)):=by
 have hA:=Mx.adds_sp s.data.toList c
 have hKe:=Mx.keeps_sp s.data.toList c
 have hlen:s.data.toList.length=s.size:=size_list s
 rw [hlen] at hKe
 intro m
 induction m with
 | zero=>intro j h1 h2;omega
 | succ m ih=>
   intro j h1 h2 h3 h4
   have hsup:Sup (s.size+1) (iter (sp s.data.toList c) j y):=(Keeps.iter hKe j) y hy
   rw [hL m j _ _ h1 hsup]
   have hj:j≤s.size:=by
    cases j with
    | zero=>omega
    | succ j=>
      by_cases hz:y=zr
      · subst hz
        exact absurd (by rw [(hA.upto (j+1)).none_,(hA.upto j).none_]) (h4 j (by omega))
      · have e1:=Mx.cnt_upto hA hKe hy hz j (h4 j (by omega))
        have e2:=Mx.cnt_le (s.size+1) (upto (sp s.data.toList c) (j+1) y)
        omega
   have hstep:orP (upto (sp s.data.toList c) j y) (sp s.data.toList c (iter (sp s.data.toList c) j y))=upto (sp s.data.toList c) (j+1) y:=by
    rw [Mx.upto_succ hA,Mx.iter_succ]
   have hit:sp s.data.toList c (iter (sp s.data.toList c) j y)=iter (sp s.data.toList c) (j+1) y:=(Mx.iter_succ _ j y).symm
   have hsup2:Sup (s.size+1) (sp s.data.toList c (iter (sp s.data.toList c) j y)):=hKe _ hsup
   by_cases c1:n.max=-1∨((K+j:Nat):Int)<n.max
   · rw [if_pos c1]
     by_cases c2:fr (upto (sp s.data.toList c) j y) (sp s.data.toList c (iter (sp s.data.toList c) j y)) (s.size+1)=true
     · rw [if_pos c2,hstep,hit]
       refine ih (j+1) (by omega) (by omega) (by omega) fun i hi=>?_
       rcases Nat.lt_or_ge i j with h5 | h5
       · exact h4 i h5
       · obtain rfl:i=j:=by omega
         rw [←hstep]
         exact fr_yes c2
     · rw [if_neg c2]
       have e:=fr_no hsup2 (Bool.eq_false_iff.2 c2)
       rw [e]
       rw [hstep] at e
       congr 2
       have hst:=Mx.upto_stop e
       unfold more
       by_cases c3:n.max=-1
       · rw [if_pos c3,hlen]
         exact (hst s.size hj).symm
       · rw [if_neg c3]
         exact (hst _ (by omega)).symm
   · rw [if_neg c1]
     congr 2
     unfold more
     rw [if_neg (by omega)]
     congr 1
     omega
theorem iter_fix {f:Pos→Pos} {x:Pos} {k:Nat} (h:f (iter f k x)=iter f k x):∀m,k≤m→iter f m x=iter f k x:=by
 intro m hm
 induction m with
 | zero => obtain rfl:k=0:=by omega
           rfl
 | succ m ih=>
   rcases Nat.lt_or_ge k (m+1) with h1 | h1
   · rw [Mx.iter_succ,ih (by omega),h]
   · obtain rfl:k=m+1:=by omega
     rfl
theorem often_p {n c:Node} {N:Nat} {rec:Node→ByteArray→List Bool→Option (List Bool)} (hs:s.size≤10000) (hN:s.size+40≤N) (hc:n.kids=[c]) (hmn:0≤n.min∧n.min≤16) (hmx:n.max=-1∨n.min≤n.max) (hmx2:n.max≤16)
 (hr:∀x,Sup (s.size+1) x→rec c s (tab (s.size+1) x)=some (tab (s.size+1) (sp s.data.toList c x))) {x:Pos} (hx:Sup (s.size+1) x):
 match_often_g rec N n s (tab (s.size+1) x)=some (tab (s.size+1) (Mx.spRep s.data.toList n.kids n.min n.max x)):=by
 obtain ⟨K,hK⟩:∃K:Nat,n.min=(K:Int):=⟨n.min.toNat,by omega⟩
 have hK16:K≤16:=by omega
 have hKe:=Mx.keeps_sp s.data.toList c
 have hlen:s.data.toList.length=s.size:=size_list s
 rw [hlen] at hKe
 have hat:at_ n.kids (0:Int)=some c:=by rw [hc];rfl
 have e1:Mx.spRep s.data.toList n.kids n.min n.max x=upto (sp s.data.toList c) (more s.data.toList.length K n.max) (iter (sp s.data.toList c) K x):=by
  rw [hc,hK];rfl
 rw [e1]
 have hL2:∀m (j:Nat) (w z:Pos),j≤s.size+2→Sup (s.size+1) w→match_often_l2 rec N n s (m+1) ((K+j:Nat):Int) (tab (s.size+1) w) (tab (s.size+1) z)=if n.max=-1∨((K+j:Nat):Int)<n.max then (if fr z (sp s.data.toList c w) (s.size+1)=true then match_often_l2 rec N n s m ((K+(j+1):Nat):Int) (tab (s.size+1) (sp s.data.toList c w)) (tab (s.size+1) (orP z (sp s.data.toList c w))) else some (tab (s.size+1) (orP z (sp s.data.toList c w)))) else some (tab (s.size+1) z):=by
  intro m j w z hj hw
  rw [match_often_l2]
  simp only [cm_eql,cm_lss,cond_dec,ite_or,Option.bind_some,hat,hr w hw]
  by_cases c1:n.max=-1∨((K+j:Nat):Int)<n.max
  · rw [if_pos c1,if_pos c1]
    have key:=often4_p (a0:=z) (a:=z) (b:=sp s.data.toList c w) (k2:=match_often_l2 rec N n s m) (v:=((K+j:Nat):Int)) (M:=s.size+1) (by omega) N 0 (by omega) (by omega)
    rw [jn_zero,inc1 (by omega)] at key
    exact key
  · rw [if_neg c1,if_neg c1]
 have hL5:∀m (j:Nat) (w z:Pos),j≤s.size+2→Sup (s.size+1) w→match_often_l5 rec N n s (m+1) ((K+j:Nat):Int) (tab (s.size+1) w) (tab (s.size+1) z)=if n.max=-1∨((K+j:Nat):Int)<n.max then (if fr z (sp s.data.toList c w) (s.size+1)=true then match_often_l5 rec N n s m ((K+(j+1):Nat):Int) (tab (s.size+1) (sp s.data.toList c w)) (tab (s.size+1) (orP z (sp s.data.toList c w))) else some (tab (s.size+1) (orP z (sp s.data.toList c w)))) else some (tab (s.size+1) z):=by
  intro m j w z hj hw
  rw [match_often_l5]
  simp only [cm_eql,cm_lss,cond_dec,ite_or,Option.bind_some,hat,hr w hw]
  by_cases c1:n.max=-1∨((K+j:Nat):Int)<n.max
  · rw [if_pos c1,if_pos c1]
    have key:=often7_p (a0:=z) (a:=z) (b:=sp s.data.toList c w) (k2:=match_often_l5 rec N n s m) (v:=((K+j:Nat):Int)) (M:=s.size+1) (by omega) N 0 (by omega) (by omega)
    rw [jn_zero,inc1 (by omega)] at key
    exact key
  · rw [if_neg c1,if_neg c1]
 have hmx':n.max=-1∨((K:Nat):Int)≤n.max:=by omega
 have go2:∀y,Sup (s.size+1) y→match_often_l2 rec N n s N (K:Int) (tab (s.size+1) y) (tab (s.size+1) y)=some (tab (s.size+1) (upto (sp s.data.toList c) (more s.data.toList.length K n.max) y)):=fun y hy=>
  rounds_p (n:=n) (c:=c) (y:=y) (N:=N) (K:=K) (L:=match_often_l2 rec N n s) hs (by omega) hK16 hy hmx' hmx2 hL2 N 0 (by omega) (by omega) (by omega) (fun i hi=>by omega)
 have go5:∀y,Sup (s.size+1) y→match_often_l5 rec N n s N (K:Int) (tab (s.size+1) y) (tab (s.size+1) y)=some (tab (s.size+1) (upto (sp s.data.toList c) (more s.data.toList.length K n.max) y)):=fun y hy=>
  rounds_p (n:=n) (c:=c) (y:=y) (N:=N) (K:=K) (L:=match_often_l5 rec N n s) hs (by omega) hK16 hy hmx' hmx2 hL5 N 0 (by omega) (by omega) (by omega) (fun i hi=>by omega)
 have hcl:∀y,slices_Clone_159_g (tab (s.size+1) y)=some (tab (s.size+1) y):=fun y=>clone_p (by rw [tab_len];omega)
 have key:∀(m k:Nat),k≤K→K<k+m→match_often_l1 rec N n s m (k:Int) (tab (s.size+1) (iter (sp s.data.toList c) k x))=some (tab (s.size+1) (upto (sp s.data.toList c) (more s.data.toList.length K n.max) (iter (sp s.data.toList c) K x))):=by
  intro m
  induction m with
  | zero=>intro k h1 h2;omega
  | succ m ih=>
    intro k h1 h2
    rw [match_often_l1]
    have hsup:Sup (s.size+1) (iter (sp s.data.toList c) k x):=(Keeps.iter hKe k) x hx
    simp only [cm_lss,cond_dec,hat,Option.bind_some,hr _ hsup,hK,hcl]
    by_cases c1:k<K
    · obtain ⟨b,hb,hb2⟩:=equals_p (M:=s.size+1) (N:=N) (by omega) (by omega) (hKe _ hsup) hsup
      rw [if_pos (by omega),hb,inc1 (by omega)]
      simp only [Option.bind_some]
      cases b with
      | true=>rw [_root_.cond_true,go2 _ hsup,iter_fix (hb2.1 rfl) K (by omega)]
      | false=>
        rw [_root_.cond_false]
        have e:sp s.data.toList c (iter (sp s.data.toList c) k x)=iter (sp s.data.toList c) (k+1) x:=(Mx.iter_succ _ k x).symm
        rw [e]
        exact ih (k+1) (by omega) (by omega)
    · obtain rfl:k=K:=by omega
      rw [if_neg (by omega),go5 _ hsup]
 unfold match_often_g
 rw [hcl,Option.bind_some]
 exact key N 0 (by omega) (by omega)
theorem sp_eq (l:List UInt8) (n:Node) (x:Pos):sp l n x=if n.kind=1 then Mx.one n.set l x else if n.kind=2 then Mx.spCat l n.kids x else if n.kind=3 then Mx.spAlt l n.kids x else Mx.spRep l n.kids n.min n.max x:=by
 cases n
 first | (rw [sp];done) | (rw [sp];rfl)
theorem one_p {n:Node} (hs:s.size≤10000) (x:Pos):∀(m k:Nat),k≤s.size→s.size<k+m→
 match_moved_l1 n s (tab (s.size+1) x) m k (tab (s.size+1) (fun j=>if j≤k then Mx.one n.set s.data.toList x j else false))=some (tab (s.size+1) (Mx.one n.set s.data.toList x)):=by
 intro m
 induction m with
 | zero=>intro k h1 h2;omega
 | succ m ih=>
   intro k h1 h2
   rw [match_moved_l1,cm_lss,cond_dec,sl_eq]
   by_cases c:k<s.size
   · have hi:=inc1 (show k≤100000000 by omega)
     have hch:charset_Has_g n.set (sa s (k:Int))=some (n.set.has (Qu.bt s.data.toList k)):=by
      have:=Qu.bt_lt s.data.toList k
      unfold charset_Has_g
      rw [sa_bt,if_pos (by omega),Int.toNat_natCast]
     have hbt:Mx.one n.set s.data.toList x (k+1)=(x k&&n.set.has (Qu.bt s.data.toList k)):=by
      show (x k&&_)=_
      have:s.data.toList[k]?=some (s.data.toList[k]'(by rw [size_list];exact c)):=List.getElem?_eq_getElem _
      unfold Qu.bt
      rw [this]
     have step:∀b,b=Mx.one n.set s.data.toList x (k+1)→match_moved_l1 n s (tab (s.size+1) x) m ((k+1:Nat):Int) (tab (s.size+1) (fun j=>if j=k+1 then b else if j≤k then Mx.one n.set s.data.toList x j else false))=some (tab (s.size+1) (Mx.one n.set s.data.toList x)):=fun b hb=>by
      rw [←ih (k+1) (by omega) (by omega)]
      congr 1
      refine tab_ext fun j hj=>?_
      by_cases g:j=k+1
      · subst g;rw [if_pos rfl,if_pos (Nat.le_refl _),hb]
      · rw [if_neg g]
        by_cases g2:j≤k
        · rw [if_pos g2,if_pos (by omega)]
        · rw [if_neg g2,if_neg (by omega)]
     rw [if_pos (by omega),tab_at (by omega)]
     simp only [Option.bind_some,hi,tab_at (show k+1<s.size+1 by omega),tab_put,hch,sin_in c,_root_.cond_true]
     cases hx:x k with
     | true=>
       simp only [_root_.cond_true]
       exact step _ (by rw [hbt,hx];rfl)
     | false=>
       simp only [_root_.cond_false]
       exact step _ (by rw [hbt,hx];rfl)
   · obtain rfl:k=s.size:=by omega
     rw [if_neg (by omega)]
     congr 1
     exact tab_ext fun j hj=>by rw [if_pos (by omega)]
theorem mcat_p {n:Node} {rec:Node→ByteArray→List Bool→Option (List Bool)} (hl:n.kids.length≤9223372036854775807)
 (hr:∀c∈n.kids,∀x,Sup (s.size+1) x→rec c s (tab (s.size+1) x)=some (tab (s.size+1) (sp s.data.toList c x))):∀(m k:Nat) (x:Pos),Sup (s.size+1) x→k≤n.kids.length→n.kids.length<k+m→
 match_moved_l2 rec n s m k (tab (s.size+1) x)=some (tab (s.size+1) (Mx.spCat s.data.toList (n.kids.drop k) x)):=by
 intro m
 induction m with
 | zero=>intro k x hx h1 h2;omega
 | succ m ih=>
   intro k x hx h1 h2
   rw [match_moved_l2,cm_lss,cond_dec,ll_eq]
   by_cases c:k<n.kids.length
   · have hKe:=Mx.keeps_sp s.data.toList n.kids[k]
     rw [size_list] at hKe
     rw [if_pos (by omega),at_get c,incL (by omega),Option.bind_some,hr _ (List.getElem_mem c) x hx,Option.bind_some,ih (k+1) _ (hKe x hx) (by omega) (by omega),List.drop_eq_getElem_cons c,Mx.spCat]
   · rw [if_neg (by omega),List.drop_of_length_le (by omega),Mx.spCat]
theorem malt_p {n:Node} {N:Nat} {rec:Node→ByteArray→List Bool→Option (List Bool)} (hs:s.size≤10000) (hN:s.size+1<N) (hl:n.kids.length≤9223372036854775807) {x:Pos}
 (hr:∀c∈n.kids,rec c s (tab (s.size+1) x)=some (tab (s.size+1) (sp s.data.toList c x))):∀(m k:Nat) (y:Pos),k≤n.kids.length→n.kids.length<k+m→
 match_moved_l3 rec N n s (tab (s.size+1) x) m k (tab (s.size+1) y)=some (tab (s.size+1) (orP y (Mx.spAlt s.data.toList (n.kids.drop k) x))):=by
 intro m
 induction m with
 | zero=>intro k y h1 h2;omega
 | succ m ih=>
   intro k y h1 h2
   rw [match_moved_l3,cm_lss,cond_dec,ll_eq]
   by_cases c:k<n.kids.length
   · rw [if_pos (by omega),at_get c,Option.bind_some,hr _ (List.getElem_mem c),Option.bind_some]
     have key:=moved5_p (a0:=y) (a:=y) (b:=sp s.data.toList n.kids[k] x) (k3:=match_moved_l3 rec N n s (tab (s.size+1) x) m) (v:=(k:Int)) (M:=s.size+1) (by omega) N 0 false (by omega) (by omega)
     rw [jn_zero,incL (by omega),ih (k+1) _ (by omega) (by omega)] at key
     rw [List.drop_eq_getElem_cons c,Mx.spAlt,←Mx.or_assoc]
     exact key
   · rw [if_neg (by omega),List.drop_of_length_le (by omega),Mx.spAlt,Mx.or_none]
theorem moved_p (hs:s.size≤10000):∀(m:Nat) (n:Node),n.size≤m→Lens n→Rx.right n=true→∀N,m+20000≤N→MOk s N n:=by
 intro m
 induction m with
 | zero=>intro n h;have:=n.size_pos;omega
 | succ m ih=>
   intro n h hm hri N hN x hx
   obtain ⟨N,rfl⟩:∃M,N=M+1:=⟨N-1,by omega⟩
   have hk:=n.kids_le
   have hlen:=Lens_len hm
   rw [Rx.right_eq,Bool.and_eq_true] at hri
   obtain ⟨ht,hrs⟩:=hri
   have hrs:=(Rx.rights_iff _ _).1 hrs
   have hrec:∀c∈n.kids,∀x,Sup (s.size+1) x→match_moved_g N c s (tab (s.size+1) x)=some (tab (s.size+1) (sp s.data.toList c x)):=fun c hc=>ih c (by have:=kid_size hc;omega) (Lens_kid hm hc) (hrs c hc).1 N (by omega)
   rw [match_moved_g]
   dsimp only
   rw [ll_eq,tab_len,tab_zro (by omega),Option.bind_some,sp_eq]
   simp only [cm_eql,cond_dec,bind_self]
   by_cases k1:n.kind=1
   · rw [if_pos k1,if_pos k1]
     have key:=one_p (n:=n) hs x N 0 (by omega) (by omega)
     rw [←key]
     congr 1
     refine tab_ext fun j hj=>?_
     cases j with
     | zero=>rfl
     | succ j=>rw [if_neg (by omega)];rfl
   by_cases k2:n.kind=2
   · rw [if_neg k1,if_pos k2,if_neg k1,if_pos k2]
     have hcp:cpy cB (tab (s.size+1) zr) (tab (s.size+1) x)=some (tab (s.size+1) x):=by
      have hne:∀y,tab (s.size+1) y≠[]:=fun y e=>by have:=tab_len (s.size+1) y;rw [e] at this;cases this
      unfold cpy
      rw [if_pos ⟨hne _,hne _⟩,tab_len,tab_len,List.take_of_length_le (by rw [tab_len];omega),List.drop_of_length_le (by rw [tab_len];omega),List.append_nil]
     rw [hcp,Option.bind_some]
     exact mcat_p (by omega) hrec N 0 x hx (by omega) (by omega)
   by_cases k3:n.kind=3
   · rw [if_neg k1,if_neg k2,if_pos k3,if_neg k1,if_neg k2,if_pos k3]
     have key:=malt_p (n:=n) (N:=N) (rec:=match_moved_g N) hs (by omega) (by omega) (x:=x) (fun c hc=>hrec c hc x hx) N 0 zr (by omega) (by omega)
     rw [Mx.none_or] at key
     exact key
   have k4:n.kind=4:=by
    unfold Rx.topB at ht
    simp only [Bool.and_eq_true,Bool.or_eq_true,beq_iff_eq] at ht
    have:=ht.1.1.1
    omega
   rw [if_neg k1,if_neg k2,if_neg k3,if_pos k4,if_neg k1,if_neg k2,if_neg k3]
   have h4:n.kids.length=1∧Rx.timesB n.min n.max=true:=by
    unfold Rx.topB at ht
    simp [k4] at ht
    exact ht.2
   obtain ⟨c,hc⟩:=List.length_eq_one_iff.1 h4.1
   have ht2:=h4.2
   unfold Rx.timesB at ht2
   split at ht2
   · cases ht2
   · rename_i g
     simp at g ht2
     exact often_p hs (by omega) hc (by omega) (by omega) (by omega) (hrec c (by rw [hc];simp)) hx
end
end Pl
end Go.Proofs.YtbpihhelojjedaaDoor
