/- Texts that the proof leans on. -/
import Derived.Test.YtpplemjjeefpdaaGreatDoorK238
set_option linter.unusedVariables false
set_option linter.unusedSimpArgs false
set_option maxRecDepth 100000
set_option maxHeartbeats 4000000
namespace Go.Proofs.YtpplemjjeefpdaaGreatDoor
open Go
open Sh Gn
namespace Pl
open Mx (Pos orP zr single iter upto more Sup Adds Keeps sp)
theorem iter_add (f:Pos→Pos) (j:Nat):∀(M:Nat) (x:Pos),iter f j (iter f M x)=iter f (M+j) x
 | 0,x=>by rw [Nat.zero_add];rfl
 | M+1,x=>by
   rw [show M+1+j=(M+j)+1 by omega]
   exact iter_add f j M (f x)
def outK (f:Pos→Pos) (x:Pos) (M k:Nat):Pos:=if k≤M then zr else upto f (k-1-M) (iter f M x)
theorem outK_low {f:Pos→Pos} {x:Pos} {M k:Nat} (h:k<M):outK f x M (k+1)=outK f x M k:=by unfold outK;rw [if_pos (by omega),if_pos (by omega)]
theorem outK_step {f:Pos→Pos} (hf:Adds f) {x:Pos} {M k:Nat} (h:M≤k):outK f x M (k+1)=orP (outK f x M k) (iter f k x):=by
 unfold outK
 rw [if_neg (by omega),show k+1-1-M=k-M by omega]
 by_cases h1:k=M
 · subst h1;rw [if_pos (Nat.le_refl _),Nat.sub_self,Mx.none_or];rfl
 · rw [if_neg (by omega)]
   obtain ⟨j,rfl⟩:∃j,k=M+j+1:=⟨k-M-1,by omega⟩
   rw [show M+j+1-M=j+1 by omega,show M+j+1-1-M=j by omega,Mx.upto_succ hf,iter_add,Nat.add_assoc]
theorem outK_end (f:Pos→Pos) (x:Pos) (M T:Nat) (h:M≤T):outK f x M (T+1)=upto f (T-M) (iter f M x):=by
 unfold outK
 rw [if_neg (by omega),show T+1-1-M=T-M by omega]
def fromP (f:Pos→Pos) (x:Pos) (k:Nat):Pos:=fun j=>(List.range k).any fun i=>x i&&f (single i) j
theorem fromP_succ (f:Pos→Pos) (x:Pos) (k j:Nat):fromP f x (k+1) j=(fromP f x k j||(x k&&f (single k) j)):=by unfold fromP;rw [List.range_succ,List.any_append];simp
section
variable {s:ByteArray} {M:Nat}
def EOk (s:ByteArray) (rec:Node→ByteArray→Int→Option (List Bool)) (n:Node):Prop:=∀i:Nat,i≤s.size→rec n s (i:Int)=some (tab (s.size+1) (sp s.data.toList n (single i)))
theorem from2_p {a b:Pos} (hM:M≤100000):∀(m k:Nat),k≤M→M<k+m→r15_from_l2 (tab M b) m k (tab M (jn a b k))=some (tab M (orP a b)):=by
 intro m
 induction m with
 | zero=>intro k h1 h2;omega
 | succ m ih=>
   intro k h1 h2
   rw [r15_from_l2,cm_lss,cond_dec,ll_eq,tab_len]
   by_cases c:k<M
   · rw [if_pos (by omega),inc1 (by omega),join_put c]
     exact ih (k+1) (by omega) (by omega)
   · obtain rfl:k=M:=by omega
     rw [if_neg (by omega),jn_all]
theorem ends3_p {a b:Pos} {k2:Int→List Bool→Option (List Bool)} {v:Int} (hM:M≤100000):∀(m k:Nat),k≤M→M<k+m→r15_ends_l3 k2 v (tab M b) m k (tab M (jn a b k))=k2 (ar .add .i64 v 1) (tab M (orP a b)):=by
 intro m
 induction m with
 | zero=>intro k h1 h2;omega
 | succ m ih=>
   intro k h1 h2
   rw [r15_ends_l3,cm_lss,cond_dec,ll_eq,tab_len]
   by_cases c:k<M
   · rw [if_pos (by omega),inc1 (by omega),join_put c]
     exact ih (k+1) (by omega) (by omega)
   · obtain rfl:k=M:=by omega
     rw [if_neg (by omega),jn_all]
theorem ends5_p {a b:Pos} (hM:M≤100000):∀(m k:Nat),k≤M→M<k+m→r15_ends_l5 (tab M b) m k (tab M (jn a b k))=some (tab M (orP a b)):=by
 intro m
 induction m with
 | zero=>intro k h1 h2;omega
 | succ m ih=>
   intro k h1 h2
   rw [r15_ends_l5,cm_lss,cond_dec,ll_eq,tab_len]
   by_cases c:k<M
   · rw [if_pos (by omega),inc1 (by omega),join_put c]
     exact ih (k+1) (by omega) (by omega)
   · obtain rfl:k=M:=by omega
     rw [if_neg (by omega),jn_all]
theorem froms_p {rec:Node→ByteArray→Int→Option (List Bool)} {n:Node} {N:Nat} {x:Pos} (hs:s.size≤10000) (hN:s.size+1<N) (hr:EOk s rec n):∀(m k:Nat),k≤s.size+1→s.size+1<k+m→
 r15_from_l1 rec N n s (tab (s.size+1) x) m k (tab (s.size+1) (fromP (sp s.data.toList n) x k))=some (tab (s.size+1) (fromP (sp s.data.toList n) x (s.size+1))):=by
 intro m
 induction m with
 | zero=>intro k h1 h2;omega
 | succ m ih=>
   intro k h1 h2
   rw [r15_from_l1,cm_lss,cond_dec,ll_eq,tab_len]
   by_cases c:k<s.size+1
   · rw [if_pos (by omega),inc1 (by omega),tab_at c,Option.bind_some,hr k (by omega),Option.bind_some]
     have key:=from2_p (a:=fromP (sp s.data.toList n) x k) (b:=sp s.data.toList n (single k)) (M:=s.size+1) (by omega) N 0 (by omega) (by omega)
     rw [jn_zero] at key
     rw [show ((0:Nat):Int)=0 from rfl] at key
     rw [key]
     have e:fromP (sp s.data.toList n) x (k+1)=if x k=true then orP (fromP (sp s.data.toList n) x k) (sp s.data.toList n (single k)) else fromP (sp s.data.toList n) x k:=by
      funext j
      rw [fromP_succ]
      cases x k with
      | true=>simp [orP]
      | false=>simp
     have step:=ih (k+1) (by omega) (by omega)
     rw [e] at step
     cases hx:x k with
     | true=>rw [hx] at step;exact step
     | false=>rw [hx] at step;exact step
   · obtain rfl:k=s.size+1:=by omega
     rw [if_neg (by omega)]
theorem from_p {rec:Node→ByteArray→Int→Option (List Bool)} {n:Node} {N:Nat} {x:Pos} (hs:s.size≤10000) (hN:s.size+1<N) (hr:EOk s rec n) (hx:Sup (s.size+1) x):r15_from_g rec N n s (tab (s.size+1) x)=some (tab (s.size+1) (sp s.data.toList n x)):=by
 unfold r15_from_g
 rw [ll_eq,tab_len,tab_zro (by omega),Option.bind_some]
 have key:=froms_p (x:=x) hs hN hr N 0 (by omega) (by omega)
 have e0:fromP (sp s.data.toList n) x 0=zr:=by funext j;rfl
 have e1:fromP (sp s.data.toList n) x (s.size+1)=sp s.data.toList n x:=by
  funext j
  exact (Mx.sp_any (Mx.adds_sp s.data.toList n) hx j).symm
 rw [e0,e1] at key
 exact key
theorem rcat_p {n:Node} {N:Nat} {rec:Node→ByteArray→Int→Option (List Bool)} (hs:s.size≤10000) (hN:s.size+1<N) (hl:n.kids.length≤10000) (hr:∀c∈n.kids,EOk s rec c):∀(m k:Nat) (x:Pos),Sup (s.size+1) x→k≤n.kids.length→n.kids.length<k+m→
 r15_ends_l1 rec N n s m k (tab (s.size+1) x)=some (tab (s.size+1) (Mx.spCat s.data.toList (n.kids.drop k) x)):=by
 intro m
 induction m with
 | zero=>intro k x hx h1 h2;omega
 | succ m ih=>
   intro k x hx h1 h2
   rw [r15_ends_l1,cm_lss,cond_dec,ll_eq]
   by_cases c:k<n.kids.length
   · have hKe:=Mx.keeps_sp s.data.toList n.kids[k]
     rw [size_list] at hKe
     rw [if_pos (by omega),at_get c,inc1 (by omega),Option.bind_some,from_p hs hN (hr _ (List.getElem_mem c)) hx,Option.bind_some,ih (k+1) _ (hKe x hx) (by omega) (by omega),List.drop_eq_getElem_cons c,Mx.spCat]
   · rw [if_neg (by omega),List.drop_of_length_le (by omega),Mx.spCat]
theorem ralt_p {n:Node} {N i:Nat} {rec:Node→ByteArray→Int→Option (List Bool)} (hs:s.size≤10000) (hN:s.size+1<N) (hi:i≤s.size) (hl:n.kids.length≤10000) (hr:∀c∈n.kids,EOk s rec c):∀(m k:Nat) (y:Pos),k≤n.kids.length→n.kids.length<k+m→
 r15_ends_l2 rec N n s i m k (tab (s.size+1) y)=some (tab (s.size+1) (orP y (Mx.spAlt s.data.toList (n.kids.drop k) (single i)))):=by
 intro m
 induction m with
 | zero=>intro k y h1 h2;omega
 | succ m ih=>
   intro k y h1 h2
   rw [r15_ends_l2,cm_lss,cond_dec,ll_eq]
   by_cases c:k<n.kids.length
   · rw [if_pos (by omega),at_get c,Option.bind_some,hr _ (List.getElem_mem c) i hi,Option.bind_some]
     have key:=ends3_p (a:=y) (b:=sp s.data.toList n.kids[k] (single i)) (k2:=r15_ends_l2 rec N n s i m) (v:=(k:Int)) (M:=s.size+1) (by omega) N 0 (by omega) (by omega)
     rw [jn_zero,inc1 (by omega),ih (k+1) _ (by omega) (by omega)] at key
     rw [List.drop_eq_getElem_cons c,Mx.spAlt,←Mx.or_assoc]
     exact key
   · rw [if_neg (by omega),List.drop_of_length_le (by omega),Mx.spAlt,Mx.or_none]
theorem rrep_p {n c:Node} {N K T:Nat} {rec:Node→ByteArray→Int→Option (List Bool)} (hs:s.size≤10000) (hN:s.size+1<N) (hc:n.kids=[c]) (hK:n.min=(K:Int)) (hT:T≤20000) (hr:EOk s rec c) {x:Pos} (hx:Sup (s.size+1) x):∀(m k:Nat),k≤T+1→T+1<k+m→
 r15_ends_l4 rec N n s (T:Int) m k (tab (s.size+1) (outK (sp s.data.toList c) x K k)) (tab (s.size+1) (iter (sp s.data.toList c) k x))=some (tab (s.size+1) (outK (sp s.data.toList c) x K (T+1))):=by
 have hA:=Mx.adds_sp s.data.toList c
 have hKe:=Mx.keeps_sp s.data.toList c
 rw [size_list] at hKe
 intro m
 induction m with
 | zero=>intro k h1 h2;omega
 | succ m ih=>
   intro k h1 h2
   have hat:at_ n.kids (0:Int)=some c:=by rw [hc];rfl
   rw [r15_ends_l4,cm_leq,cond_dec]
   by_cases c1:k≤T
   · have e:sp s.data.toList c (iter (sp s.data.toList c) k x)=iter (sp s.data.toList c) (k+1) x:=(Mx.iter_succ _ k x).symm
     have hf:=from_p hs hN hr ((Keeps.iter hKe k) x hx)
     rw [e] at hf
     rw [if_pos (by omega),hat,inc1 (by omega),cm_geq,cond_dec,hK]
     simp only [Option.bind_some,hf]
     by_cases c2:K≤k
     · rw [if_pos (by omega)]
       have key:=ends5_p (a:=outK (sp s.data.toList c) x K k) (b:=iter (sp s.data.toList c) k x) (M:=s.size+1) (by omega) N 0 (by omega) (by omega)
       rw [jn_zero,←outK_step hA c2] at key
       rw [show ((0:Nat):Int)=0 from rfl] at key
       rw [key,Option.bind_some]
       exact ih (k+1) (by omega) (by omega)
     · rw [if_neg (by omega),Option.bind_some,←outK_low (by omega)]
       exact ih (k+1) (by omega) (by omega)
   · obtain rfl:k=T+1:=by omega
     rw [if_neg (by omega)]
theorem one_single (S:CSet) (l:List UInt8) (i j:Nat):Mx.one S l (single i) j=if j=i+1 then (match l[i]? with | some c=>S.has c.toNat | _=>false) else false:=by
 cases j with
 | zero=>simp [Mx.one]
 | succ j=>
   simp only [Mx.one,single]
   by_cases h:j=i
   · subst h
     simp only [beq_self_eq_true,Bool.true_and,if_true]
     cases l[j]?<;>rfl
   · simp [h]
theorem ends_p (hs:s.size≤10000):∀(m:Nat) (n:Node),n.size≤m→m≤1000→Rx.right n=true→∀N,m+20000≤N→EOk s (r15_ends_g N) n:=by
 intro m
 induction m with
 | zero=>intro n h;have:=n.size_pos;omega
 | succ m ih=>
   intro n h hm hri N hN i hi
   obtain ⟨N,rfl⟩:∃M,N=M+1:=⟨N-1,by omega⟩
   have hk:=n.kids_le
   rw [Rx.right_eq,Bool.and_eq_true] at hri
   obtain ⟨ht,hrs⟩:=hri
   have hrs:=(Rx.rights_iff _ _).1 hrs
   have hrec:∀c∈n.kids,EOk s (r15_ends_g N) c:=fun c hc=>ih c (by have:=kid_size hc;omega) (by omega) (hrs c hc).1 N (by omega)
   have hx:Sup (s.size+1) (single i):=Mx.sup_single (by omega)
   have e1:ar .add .i64 (sl s) 1=((s.size+1:Nat):Int):=by rw [sl_eq];exact inc1 (by omega)
   rw [r15_ends_g]
   dsimp only
   rw [e1,tab_zro (by omega),sp_eq]
   have es:tab (s.size+1) (fun j=>if j=i then true else zr j)=tab (s.size+1) (single i):=tab_ext fun j hj=>by
    by_cases g:j=i
    · simp [g,single]
    · simp [g,single,zr]
   simp only [Option.bind_some,tab_at (show i<s.size+1 by omega),tab_put,es,cm_eql,cm_lss,cond_dec,bind_self,sl_eq]
   by_cases k1:n.kind=1
   · rw [if_pos k1,if_pos k1]
     by_cases c:i<s.size
     · have hch:r12_Has_g n.set (cv .i64 (sa s (i:Int)))=some (n.set.has (Qu.bt s.data.toList i)):=by
        have:=Qu.bt_lt s.data.toList i
        unfold r12_Has_g
        rw [sa_bt,cv_i64 (by omega) (by omega),if_pos (by omega),Int.toNat_natCast]
       have hc:(i:Int)<(s.size:Int):=by omega
       simp only [hc,if_true,sin_in c,_root_.cond_true,hch,Option.bind_some,inc1 (show i≤100000000 by omega),tab_at (show i+1<s.size+1 by omega),tab_put]
       have hbt:(match s.data.toList[i]? with | some c=>n.set.has c.toNat | _=>false)=n.set.has (Qu.bt s.data.toList i):=by
        have:s.data.toList[i]?=some (s.data.toList[i]'(by rw [size_list];exact c)):=List.getElem?_eq_getElem _
        unfold Qu.bt
        rw [this]
       cases hb:n.set.has (Qu.bt s.data.toList i) with
       | true=>
         simp only [_root_.cond_true,Option.bind_some]
         congr 1
         refine tab_ext fun j hj=>?_
         rw [one_single,hbt,hb]
         rfl
       | false=>
         simp only [_root_.cond_false,Option.bind_some]
         congr 1
         refine tab_ext fun j hj=>?_
         rw [one_single,hbt,hb]
         simp [zr]
     · have hc:¬(i:Int)<(s.size:Int):=by omega
       simp only [hc,if_false]
       congr 1
       refine tab_ext fun j hj=>?_
       rw [one_single,if_neg (by omega)];rfl
   by_cases k2:n.kind=2
   · rw [if_neg k1,if_pos k2,if_neg k1,if_pos k2]
     exact rcat_p (n:=n) hs (by omega) (by omega) hrec N 0 _ hx (by omega) (by omega)
   by_cases k3:n.kind=3
   · rw [if_neg k1,if_neg k2,if_pos k3,if_neg k1,if_neg k2,if_pos k3]
     have key:=ralt_p (n:=n) (N:=N) (rec:=r15_ends_g N) hs (by omega) hi (by omega) hrec N 0 zr (by omega) (by omega)
     rw [Mx.none_or] at key
     exact key
   have k4:n.kind=4:=by
    unfold Rx.topB at ht
    simp only [Bool.and_eq_true,Bool.or_eq_true,beq_iff_eq] at ht
    have:=ht.1.1.1
    omega
   rw [if_neg k1,if_neg k2,if_neg k3,if_neg k1,if_neg k2,if_neg k3]
   have h4:n.kids.length=1∧Rx.timesB n.min n.max=true:=by
    unfold Rx.topB at ht
    simp [k4] at ht
    exact ht.2
   obtain ⟨c,hc⟩:=List.length_eq_one_iff.1 h4.1
   have ht2:=h4.2
   unfold Rx.timesB at ht2
   split at ht2
   · cases ht2
   rename_i g
   simp at g ht2
   obtain ⟨K,hK⟩:∃K:Nat,n.min=(K:Int):=⟨n.min.toNat,by omega⟩
   have hrc:=hrec c (by rw [hc];simp)
   have e0:outK (sp s.data.toList c) (single i) K 0=zr:=by unfold outK;rw [if_pos (by omega)]
   have er:Mx.spRep s.data.toList n.kids n.min n.max (single i)=upto (sp s.data.toList c) (more s.data.toList.length K n.max) (iter (sp s.data.toList c) K (single i)):=by
    rw [hc,hK];rfl
   have hlen:s.data.toList.length=s.size:=size_list s
   rw [er]
   by_cases c1:n.max=-1
   · have ea:ar .add .i64 n.min (s.size:Int)=((K+s.size:Nat):Int):=by rw [hK,ar_add (by omega) (by omega)];omega
     rw [if_pos c1,Option.bind_some,ea]
     have key:=rrep_p (n:=n) (c:=c) (N:=N) (K:=K) (T:=K+s.size) hs (by omega) hc hK (by omega) hrc hx N 0 (by omega) (by omega)
     rw [e0,outK_end _ _ _ _ (by omega)] at key
     unfold more
     rw [if_pos c1,hlen,show s.size=K+s.size-K by omega]
     have e2:K+s.size-K=s.size:=by omega
     rw [e2] at key ⊢
     exact key
   · obtain ⟨T,hT⟩:∃T:Nat,n.max=(T:Int):=⟨n.max.toNat,by omega⟩
     rw [if_neg c1,Option.bind_some,hT]
     have key:=rrep_p (n:=n) (c:=c) (N:=N) (K:=K) (T:=T) hs (by omega) hc hK (by omega) hrc hx N 0 (by omega) (by omega)
     rw [e0,outK_end _ _ _ _ (by omega)] at key
     unfold more
     rw [if_neg (by omega),show ((T:Int)-(K:Int)).toNat=T-K by omega]
     exact key
theorem rmatch_p {n:Node} {N:Nat} (hs:s.size≤10000) (hz:n.size≤1000) (hN:30000≤N):r15_Match_g N n s=some (Mt.hits n s.data.toList):=by
 unfold r15_Match_g Mt.hits
 rw [rright13_p n.size n (Nat.le_refl _) hz N (by omega),Option.bind_some,cond_not]
 cases hr:Rx.right n with
 | false=>rfl
 | true=>
   have key:=ends_p hs n.size n (Nat.le_refl _) hz hr N (by omega) 0 (by omega)
   rw [show ((0:Nat):Int)=0 from rfl] at key
   rw [_root_.cond_true,key,Option.bind_some,sl_eq,tab_at (by omega),size_list]
   rfl
theorem list_p {x:Pos} (hM:M≤100000):∀(m k:Nat) (l:List Int),k≤M→M<k+m→l.length≤k→match_Ends_l1 (tab M x) m k l=some (l++(((List.range M).drop k).filter x).map fun i:Nat=>(i:Int)):=by
 intro m
 induction m with
 | zero=>intro k l h1 h2;omega
 | succ m ih=>
   intro k l h1 h2 h3
   rw [match_Ends_l1,cm_lss,cond_dec,ll_eq,tab_len]
   by_cases c:k<M
   · rw [if_pos (by omega),inc1 (by omega),tab_at c]
     have ed:(List.range M).drop k=k::(List.range M).drop (k+1):=by
      rw [List.drop_eq_getElem_cons (by simpa using c)];simp
     rw [ed,List.filter_cons]
     simp only [Option.bind_some]
     cases hx:x k with
     | true=>
       have ea:app (cI .i64) l [(k:Int)]=some (l++[(k:Int)]):=by unfold app;rw [if_pos (by simp;omega)]
       rw [_root_.cond_true,ea]
       simp only [Option.bind_some]
       rw [ih (k+1) _ (by omega) (by omega) (by simp;omega)]
       simp
     | false=>
       rw [_root_.cond_false,Option.bind_some,ih (k+1) _ (by omega) (by omega) (by omega)]
       simp
   · rw [if_neg (by omega),List.drop_of_length_le (by simp;omega)]
     simp
theorem index_has {l:List Int} {x:Int} (hl:l.length≤100000):∀(m k:Nat),k≤l.length→l.length<k+m→∃r,slices_Index_152_l1 l x m k=some r∧(0≤r↔x∈l.drop k):=by
 intro m
 induction m with
 | zero=>intro k h1 h2;omega
 | succ m ih=>
   intro k h1 h2
   rw [slices_Index_152_l1,cm_lss,cond_dec,ll_eq]
   by_cases c:k<l.length
   · rw [if_pos (by omega),inc1 (by omega),at_get c,Option.bind_some,cm_eql,cond_dec]
     by_cases g:x=l[k]
     · rw [if_pos g]
       exact ⟨_,rfl,by rw [List.drop_eq_getElem_cons c];simp [←g]⟩
     · rw [if_neg g]
       obtain ⟨r,h3,h4⟩:=ih (k+1) (by omega) (by omega)
       refine ⟨r,h3,h4.trans ?_⟩
       have e:l.drop k=l[k]::l.drop (k+1):=List.drop_eq_getElem_cons c
       rw [e,List.mem_cons]
       exact ⟨.inr,fun h=>h.elim (fun h=>absurd h g) id⟩
   · rw [if_neg (by omega),List.drop_of_length_le (by omega)]
     exact ⟨-1,rfl,by simp⟩
theorem mmatch_p {n:Node} {N:Nat} (hs:s.size≤10000) (hz:n.size≤1000) (hN:30000≤N):match_Match_g N n s=some (Mt.hits n s.data.toList):=by
 unfold match_Match_g match_Ends_g Mt.hits
 rw [xright_p n.size n (Nat.le_refl _) hz N (by omega),Option.bind_some,cond_not]
 simp only [cm_lss,cm_gtr,cond_dec,ite_or,sl_eq]
 cases hr:Rx.right n with
 | false=>
   simp only [_root_.cond_false,Option.bind_some,_root_.cond_true]
   obtain ⟨r,h1,h2⟩:=index_has (l:=[]) (x:=(s.size:Int)) (by simp) N 0 (by simp) (by simp;omega)
   unfold slices_Contains_150_g slices_Index_152_g
   rw [show ((0:Nat):Int)=0 from rfl] at h1
   rw [h1,Option.bind_some,Option.bind_some,cm_geq]
   simp at h2
   simp;omega
 | true=>
   have hx:Sup (s.size+1) (single 0):=Mx.sup_single (by omega)
   have key:=moved_p hs n.size n (Nat.le_refl _) hz hr N (by omega) (single 0) hx
   have e1:ar .add .i64 (s.size:Int) 1=((s.size+1:Nat):Int):=inc1 (by omega)
   have es:tab (s.size+1) (fun j=>if j=0 then true else zr j)=tab (s.size+1) (single 0):=tab_ext fun j hj=>by
    by_cases g:j=0
    · simp [g,single]
    · simp [g,single,zr]
   have h0:decide ((0:Int)<0∨(s.size:Int)<0)=false:=decide_eq_false (by omega)
   have t0:=fun x=>tab_at (M:=s.size+1) (k:=0) (x:=x) (by omega)
   have p0:=fun (b:Bool) (X:List Bool→Option (List Int))=>tab_put (M:=s.size+1) (k:=0) (x:=zr) (b:=b) (X:=X)
   rw [show ((0:Nat):Int)=0 from rfl] at t0 p0
   simp only [_root_.cond_true,h0,Option.bind_some,_root_.cond_false,e1,tab_zro (show s.size+1≤1000000000 by omega),t0,p0,es,key]
   have hl:=list_p (M:=s.size+1) (x:=sp s.data.toList n (single 0)) (by omega) N 0 [] (by omega) (by omega) (by simp)
   rw [show ((0:Nat):Int)=0 from rfl,List.drop_zero,List.nil_append] at hl
   rw [hl,Option.bind_some]
   have hlen:(((List.range (s.size+1)).filter (sp s.data.toList n (single 0))).map fun i:Nat=>(i:Int)).length≤s.size+1:=by
    rw [List.length_map]
    have:=List.length_filter_le (sp s.data.toList n (single 0)) (List.range (s.size+1))
    simpa using this
   generalize hL:(((List.range (s.size+1)).filter (sp s.data.toList n (single 0))).map fun i:Nat=>(i:Int))=L at *
   obtain ⟨r,h1,h2⟩:=index_has (l:=L) (x:=(s.size:Int)) (by omega) N 0 (by omega) (by omega)
   unfold slices_Contains_150_g slices_Index_152_g
   rw [show ((0:Nat):Int)=0 from rfl] at h1
   rw [h1,Option.bind_some,Option.bind_some,cm_geq,Bool.true_and,size_list]
   congr 1
   rw [Bool.eq_iff_iff,decide_eq_true_eq,h2,List.drop_zero,←hL]
   simp only [List.mem_map,List.mem_filter,List.mem_range]
   constructor
   · rintro ⟨a,⟨_,h3⟩,h4⟩
     have:a=s.size:=by omega
     rw [←this];exact h3
   · intro h3
     exact ⟨s.size,⟨by omega,h3⟩,rfl⟩
end
end Pl
end Go.Proofs.YtpplemjjeefpdaaGreatDoor
namespace Go.Proofs.YtpplemjjeefpdaaGreatDoor
open Go
open Sh Gn
namespace Pl
theorem mtest_p {N:Nat} (hN:30000≤N) (g:GMatcher) (v:ByteArray) (hv:g.Op≤2∨v.size≤10000):matcher_Test_g N g v=some (Mt.test (toM g) v):=by
 unfold matcher_Test_g Mt.test Mt.right toM
 rw [label_p (by omega),lab_eq]
 simp only [Option.bind_some,cond_not,cm_lss,cm_gtr,cm_eql,cm_neq,cond_dec,ite_or,ite_and,sl_eq,bind_self]
 cases Nm.labelB g.Name.data.toList with
 | false=>rfl
 | true=>
   simp only [_root_.cond_true,Bool.true_eq_false,if_false]
   by_cases c1:g.Op<1∨4<g.Op
   · simp [c1]
   · simp only [c1,if_false]
     by_cases c2:g.Op≤2
     · have c2':g.Op=1∨g.Op=2:=by omega
       simp only [c2,c2',if_true]
       by_cases c3:1024<g.Value.size
       · have c3':(1024:Int)<(g.Value.size:Int):=by omega
         simp [c3,c3']
       · have c3':¬(1024:Int)<(g.Value.size:Int):=by omega
         simp only [c3,c3',if_false,ne_eq,not_true_eq_false,if_true]
         unfold matcher_same_ask_g
         rw [sc_eql]
         simp only [Option.bind_some]
         have e:(v=g.Value)=(v.data.toList=g.Value.data.toList):=propext ba_eq
         simp only [e]
         rcases c2' with h | h
         · have:¬(g.Op=2∨g.Op=4):=by omega
           rw [decide_eq_false this,if_pos h]
           cases decide (v.data.toList=g.Value.data.toList)<;>rfl
         · have:g.Op=2∨g.Op=4:=by omega
           rw [decide_eq_true this,if_neg (by omega),if_pos h]
           cases decide (v.data.toList=g.Value.data.toList)<;>rfl
     · have c2':¬(g.Op=1∨g.Op=2):=by omega
       simp only [c2,c2',if_false]
       unfold regex_Parse_g
       simp only [Option.bind_some]
       by_cases c3:(Rx.parse g.Value.data.toList).2.1=0
       · simp only [c3,if_true,ne_eq,not_true_eq_false,if_false]
         unfold matcher_like_ask_g
         rw [mmatch_p (by omega) (parse_size _) hN]
         simp only [Option.bind_some]
         have h34:g.Op=3∨g.Op=4:=by omega
         have n1:¬ g.Op=1:=by omega
         have n2:¬ g.Op=2:=by omega
         rcases h34 with h | h
         · have:¬(g.Op=2∨g.Op=4):=by omega
           rw [decide_eq_false this,if_neg n1,if_neg n2,if_pos h]
           cases Mt.hits (Rx.parse g.Value.data.toList).1 v.data.toList<;>rfl
         · have:g.Op=2∨g.Op=4:=by omega
           rw [decide_eq_true this,if_neg n1,if_neg n2,if_neg (by omega)]
           cases Mt.hits (Rx.parse g.Value.data.toList).1 v.data.toList<;>rfl
       · simp [c3]
def toL (l:List GLabel):List Mt.L:=l.map fun x=>⟨x.Name,x.Value⟩
theorem mget_from (l:List GLabel) (n:ByteArray) (hl:l.length≤10000):∀(m k:Nat),k≤l.length→l.length<k+m→labels_Get_l2 l n m k=some (Mt.get (toL (l.drop k)) n):=by
 intro m
 induction m with
 | zero=>intro k h1 h2;omega
 | succ m ih=>
   intro k h1 h2
   rw [labels_Get_l2]
   simp only [cm_lss,cond_dec,ll_eq,sc_eql]
   by_cases c:k<l.length
   · have k0:¬(k:Int)<0:=by omega
     rw [if_pos (by omega),at_get c,inc1 (by omega),Option.bind_some,ih (k+1) (by omega) (by omega),List.drop_eq_getElem_cons c]
     unfold toL
     rw [List.map_cons,Mt.get]
     have e:(l[k].Name=n)=(l[k].Name.data.toList=n.data.toList):=propext ba_eq
     simp only [e,k0,if_false,Option.bind_some]
     split<;>rfl
   · rw [if_neg (by omega),List.drop_of_length_le (by omega),if_pos (by decide)];rfl
theorem mget_p {N:Nat} (hN:20000≤N) (l:List GLabel) (n:ByteArray) (hl:l.length≤10000):labels_Get_g N l n=some (Mt.get (toL l) n):=mget_from l n hl N 0 (by omega) (by omega)
end Pl
end Go.Proofs.YtpplemjjeefpdaaGreatDoor
namespace Go.Proofs.YtpplemjjeefpdaaGreatDoor
open Go
open Sh Gn
namespace Pl
def toMs (l:List GMatcher):List Mt.M:=l.map toM
theorem sright_from {N:Nat} (hN:1000≤N) (l:List GMatcher) (hl:l.length≤100000):∀(m k:Nat),k≤l.length→l.length<k+m→selector_Right_l1 N l m k=some ⟨(Sl.firstBad (toMs (l.drop k)) k).1,((Sl.firstBad (toMs (l.drop k)) k).2:Int)⟩:=by
 intro m
 induction m with
 | zero=>intro k h1 h2;omega
 | succ m ih=>
   intro k h1 h2
   rw [selector_Right_l1]
   simp only [cm_lss,cm_neq,cond_not,cond_dec,ll_eq]
   by_cases c:k<l.length
   · rw [if_pos (by omega),at_get c,inc1 (by omega),Option.bind_some,mright_p hN,Option.bind_some,List.drop_eq_getElem_cons c]
     unfold toMs
     rw [List.map_cons,Sl.firstBad]
     by_cases g:Mt.right (toM l[k])=0
     · rw [if_pos g,if_neg (by simp [g])]
       exact ih (k+1) (by omega) (by omega)
     · rw [if_neg g,if_pos g]
   · rw [if_neg (by omega),List.drop_of_length_le (by omega)]
     rfl
theorem sright_p {N:Nat} (hN:1000≤N) (l:List GMatcher):selector_Right_g N l=some ⟨(Sl.right (toMs l)).1,((Sl.right (toMs l)).2:Int)⟩:=by
 unfold selector_Right_g Sl.right
 have e:(toMs l).length=l.length:=by unfold toMs;rw [List.length_map]
 rw [cm_gtr,cond_dec,ll_eq,e]
 by_cases c:64<l.length
 · rw [if_pos (by omega),if_pos c];rfl
 · rw [if_neg (by omega),if_neg c]
   exact sright_from hN l (by omega) N 0 (by omega) (by omega)
theorem get_val2 (l:List GLabel) (n:ByteArray):Mt.get (toL l) n=ByteArray.empty∨∃x∈l,x.Name=n∧Mt.get (toL l) n=x.Value:=by
 induction l with
 | nil=>exact .inl rfl
 | cons a r ih=>
   unfold toL at ih ⊢
   rw [List.map_cons,Mt.get]
   by_cases h:a.Name.data.toList=n.data.toList
   · rw [if_pos h];exact .inr ⟨a,by simp,ba_eq.2 h,rfl⟩
   · rw [if_neg h]
     rcases ih with e | ⟨x,hx,hn,e⟩
     · exact .inl e
     · exact .inr ⟨x,by simp [hx],hn,e⟩
theorem mild_get {p:List GLabel} {x:GMatcher} (h:Mild p x):x.Op≤2∨(Mt.get (toL p) x.Name).size≤10000:=by
 rcases h.2.2 with h | h
 · exact .inl h
 · refine .inr ?_
   rcases get_val2 p x.Name with e | ⟨y,hy,hn,e⟩
   · rw [e];decide
   · have:=h y hy hn
     rw [e];omega
theorem mholds_p {N:Nat} (hN:30000≤N) {p:List GLabel} (hp:p.length≤10000) {x:GMatcher} (h:Mild p x):matcher_Holds_g N x p=some (Mt.holds (toM x) (toL p)):=by
 unfold matcher_Holds_g Mt.holds
 rw [mget_p (by omega) p _ hp,Option.bind_some,mtest_p hN x _ (mild_get h)];rfl
theorem sholds_from {N:Nat} (hN:30000≤N) {p:List GLabel} (hp:p.length≤10000) (l:List GMatcher) (hl:l.length≤10000) (h:∀x∈l,Mild p x):∀(m k:Nat),k≤l.length→l.length<k+m→selector_Holds_l3 N l p m k=some (Sl.holds (toMs (l.drop k)) (toL p)):=by
 intro m
 induction m with
 | zero=>intro k h1 h2;omega
 | succ m ih=>
   intro k h1 h2
   rw [selector_Holds_l3]
   simp only [cm_lss,cm_geq,cond_dec,ll_eq]
   by_cases c:k<l.length
   · rw [if_pos (by omega),at_get c,inc1 (by omega),Option.bind_some,mholds_p hN hp (h _ (List.getElem_mem c)),Option.bind_some,ih (k+1) (by omega) (by omega),List.drop_eq_getElem_cons c]
     unfold toMs Sl.holds
     rw [List.map_cons,List.all_cons,decide_eq_true (show (0:Int)≤k by omega)]
     cases Mt.holds (toM l[k]) (toL p)<;>rfl
   · rw [if_neg (by omega),List.drop_of_length_le (by omega)]
     rfl
theorem sholds_p {N:Nat} (hN:30000≤N) {p:List GLabel} (hp:p.length≤10000) (l:List GMatcher) (hl:l.length≤10000) (h:∀x∈l,Mild p x):selector_Holds_g N l p=some (Sl.holds (toMs l) (toL p)):=sholds_from hN hp l hl h N 0 (by omega) (by omega)
end Pl
end Go.Proofs.YtpplemjjeefpdaaGreatDoor
namespace Go.Proofs.YtpplemjjeefpdaaGreatDoor
open Go
open Sh Gn
namespace Pl
theorem ofL_ct (a b:List UInt8):ct (Mt.ofL a) (Mt.ofL b)=Mt.ofL (a++b):=by
 apply ByteArray.ext
 show (Mt.ofL a++Mt.ofL b).data=_
 rw [ByteArray.data_append]
 simp [Mt.ofL]
theorem ofL_size (a:List UInt8):(Mt.ofL a).size=a.length:=by rw [←size_list,Mt.ofL_list]
theorem ofL_ctB {a b:List UInt8} (h:a.length+b.length≤1000000000):ctB (Mt.ofL a) (Mt.ofL b)=true:=by
 unfold ctB;rw [ofL_size,ofL_size];exact decide_eq_true h
theorem rhex_p:∀c:Fin 256,r02_Hex_g 800000 ⟨#[UInt8.ofNat c.val]⟩=some ⟨#[Qu.hexd (c.val / 16),Qu.hexd (c.val % 16)]⟩:=by decide+kernel
def hexS:ByteArray:=ByteArray.mk #[48,49,50,51,52,53,54,55,56,57,97,98,99,100,101,102]
theorem qhex_p:∀c:Fin 256,sinB hexS (ar .shr .u8 (c.val:Int) 4)=true∧sa hexS (ar .shr .u8 (c.val:Int) 4)=((Qu.hexd (c.val / 16)).toNat:Int)∧sinB hexS (ar .and .u8 (c.val:Int) 15)=true∧sa hexS (ar .and .u8 (c.val:Int) 15)=((Qu.hexd (c.val % 16)).toNat:Int):=by decide+kernel
def bis (l:List UInt8):List Int:=l.map fun b=>(b.toNat:Int)
theorem bis_app {l m:List UInt8} (h:l.length+m.length≤1000000000):app (cI .u8) (bis l) (bis m)=some (bis (l++m)):=by
 unfold app bis
 rw [List.length_map,List.length_map,if_pos h,List.map_append]
section
variable {s:ByteArray} {i:Nat}
theorem qunit_p (hi:i<s.size):quote_Unit_g s i=some (Qu.unit s.data.toList i:Int):=by
 unfold quote_Unit_g
 rw [dec_cp hi,ssin_end (by omega)]
 simp only [cm_lss,cm_geq,cond_dec,sl_eq,ite_or,Option.bind_some,_root_.cond_true]
 rw [if_neg (by omega)]
theorem runit_p {N:Nat} (hN:20≤N) (hs:s.size≤400000) (hi:i<s.size):r10_Unit_g N s i=some (Qu.unit s.data.toList i:Int):=by
 unfold r10_Unit_g
 rw [rrune_p hN hs hi]
 simp only [cm_lss,cm_geq,cm_eql,cond_dec,sl_eq,ite_or,Option.bind_some]
 rw [if_neg (by omega)]
 unfold Qu.unit
 by_cases c:Qu.rune s.data.toList i=0
 · rw [if_pos (by omega),if_pos c];rfl
 · rw [if_neg (by omega),if_neg c]
theorem decode_p (hi:i<s.size):Utf8.decode s i=(Qu.cp s.data.toList i,Qu.unit s.data.toList i):=by
 rw [Lib.decode_at,get_bt,get_bt,get_bt,get_bt,←Qu.cp_unit,size_list]
theorem ss_of (h:i+(Qu.unit s.data.toList i)≤s.size):ss s (i:Int) ((i+Qu.unit s.data.toList i:Nat):Int)=Mt.ofL ((s.data.toList.drop i).take (Qu.unit s.data.toList i)):=by
 apply ByteArray.ext
 apply Array.ext'
 rw [ss_list (by omega) (by omega),Nat.add_sub_cancel_left,Mt.ofL_list]
theorem ss_one (h:i<s.size):ss s (i:Int) ((i+1:Nat):Int)=Mt.ofL [UInt8.ofNat (Qu.bt s.data.toList i)]:=by
 apply ByteArray.ext
 apply Array.ext'
 rw [ss_list (by omega) (by omega),Nat.add_sub_cancel_left,Mt.ofL_list,Qu.take_byte (by rw [size_list];exact h)]
theorem enc_len (l:List UInt8) (i:Nat):(Qu.enc l i).length≤4:=by
 have h:Qu.unit l i≤4:=by
  unfold Qu.unit Qu.rune Qu.runeN
  (repeat' split)<;>omega
 unfold Qu.enc
 (repeat' split)
 · simp
 · rw [List.length_take];omega
 · simp
theorem rtext_from (hs:s.size≤10000):∀(m i:Nat) (out:List UInt8),i≤s.size→s.size<i+m→out.length≤4*i+1→r10_Text_l1 800000 s m (Mt.ofL out) i=some (Mt.ofL (out++(Qu.rest s.data.toList i++[34]))):=by
 intro m
 induction m with
 | zero=>intro i out h1 h2;omega
 | succ m ih=>
   intro i out h1 h2 h3
   unfold r10_Text_l1
   simp only [cm_lss,cond_dec,sl_eq]
   by_cases c:i<s.size
   case neg=>
    rw [if_neg (by omega),Qu.rest_end (by rw [size_list];omega),List.nil_append]
    show cond (ctB (Mt.ofL out) (Mt.ofL [34])) (some (ct (Mt.ofL out) (Mt.ofL [34]))) none=_
    rw [ofL_ctB (by simp;omega),ofL_ct];rfl
   rw [if_pos (by omega),Qu.rest_in (by rw [size_list];exact c),runit_p (by omega) (by omega) c]
   have hb:=Qu.bt_lt s.data.toList i
   have hu:=Qu.unit_le (l:=s.data.toList) (i:=i) (by rw [size_list];exact c)
   have hu1:=Qu.unit_pos s.data.toList i
   have he:=enc_len s.data.toList i
   rw [size_list] at hu
   have ea:ar .add .i64 (i:Int) (Qu.unit s.data.toList i:Int)=((i+Qu.unit s.data.toList i:Nat):Int):=by rw [ar_add (by omega) (by omega)];omega
   have next:=ih (i+Qu.unit s.data.toList i) (out++Qu.enc s.data.toList i) hu (by omega) (by rw [List.length_append];omega)
   rw [List.append_assoc,←List.append_assoc (Qu.enc _ _)] at next
   have e1:=inc1 (show i≤100000000 by omega)
   have hsi:=rsafe_p (s:=s) (i:=i) (N:=800000) (by omega) (by omega) c
   simp only [sin_in c,_root_.cond_true,sa_bt,Option.bind_some,cm_eql,cond_dec,ite_or,hsi,e1,ea]
   rw [←next]
   by_cases d1:Qu.bt s.data.toList i=34∨Qu.bt s.data.toList i=92
   · have d1':(Qu.bt s.data.toList i:Int)=34∨(Qu.bt s.data.toList i:Int)=92:=by omega
     have e:Qu.enc s.data.toList i=[92,UInt8.ofNat (Qu.bt s.data.toList i)]:=by unfold Qu.enc;rw [if_pos d1]
     rw [if_pos d1',e,ss_one c,show (ByteArray.mk #[92])=Mt.ofL [92] from rfl,ofL_ctB (by simp;omega),ssin_nat (by omega) (by omega),ofL_ct,ofL_ctB (by simp;omega),ofL_ct]
     simp
   have d1':¬((Qu.bt s.data.toList i:Int)=34∨(Qu.bt s.data.toList i:Int)=92):=by omega
   rw [if_neg d1']
   cases g:Qu.safe s.data.toList i with
   | true=>
     have e:Qu.enc s.data.toList i=(s.data.toList.drop i).take (Qu.unit s.data.toList i):=by unfold Qu.enc;rw [if_neg d1,if_pos g]
     simp only [_root_.cond_true]
     rw [e,ss_of hu,ssin_nat (by omega) hu,ofL_ctB (by rw [←e];omega),ofL_ct]
     simp
   | false=>
     have e:Qu.enc s.data.toList i=[92,120,Qu.hexd (Qu.bt s.data.toList i / 16),Qu.hexd (Qu.bt s.data.toList i % 16)]:=by unfold Qu.enc;rw [if_neg d1,if_neg (by rw [g];simp)]
     have hh:r02_Hex_g 800000 (Mt.ofL [UInt8.ofNat (Qu.bt s.data.toList i)])=some (Mt.ofL [Qu.hexd (Qu.bt s.data.toList i / 16),Qu.hexd (Qu.bt s.data.toList i % 16)]):=rhex_p ⟨_,hb⟩
     simp only [_root_.cond_false]
     rw [e,ss_one c,show (ByteArray.mk #[92,120])=Mt.ofL [92,120] from rfl,ofL_ctB (by simp;omega),ssin_nat (j:=i+1) (by omega) (by omega),hh,ofL_ct]
     simp only [Option.bind_some,_root_.cond_false,_root_.cond_true]
     rw [ofL_ctB (by simp;omega),ofL_ct]
     simp
theorem rtext_p (hs:s.size≤10000):r10_Text_g 800000 s=some (Mt.ofL (Qu.text s.data.toList)):=rtext_from hs 800000 0 [34] (by omega) (by omega) (by simp)
theorem qtext_from (hs:s.size≤10000):∀(m i:Nat) (out:List UInt8),i≤s.size→s.size<i+m→out.length≤4*i+1→quote_Text_l2 s m (bis out) i=some (Mt.ofL (out++(Qu.rest s.data.toList i++[34]))):=by
 intro m
 induction m with
 | zero=>intro i out h1 h2;omega
 | succ m ih=>
   intro i out h1 h2 h3
   unfold quote_Text_l2 nx
   rw [Int.toNat_natCast]
   by_cases c:i<s.size
   case neg=>
    rw [if_neg c,Qu.rest_end (by rw [size_list];omega),List.nil_append]
    show ((app (cI .u8) (bis out) (bis [34])).bind fun l=>(strB l).bind fun s=>some s)=_
    rw [bis_app (by simp;omega),Option.bind_some]
    show ((strB (bis (out++[34]))).bind fun s=>some s)=_
    rw [show strB (bis (out++[34]))=_ from str_map _];rfl
   rw [if_pos c,decode_p c,Qu.rest_in (by rw [size_list];exact c),qunit_p c]
   have hb:=Qu.bt_lt s.data.toList i
   have hu:=Qu.unit_le (l:=s.data.toList) (i:=i) (by rw [size_list];exact c)
   have hu1:=Qu.unit_pos s.data.toList i
   have he:=enc_len s.data.toList i
   rw [size_list] at hu
   have ea:ar .add .i64 (i:Int) (Qu.unit s.data.toList i:Int)=((i+Qu.unit s.data.toList i:Nat):Int):=by rw [ar_add (by omega) (by omega)];omega
   have next:=ih (i+Qu.unit s.data.toList i) (out++Qu.enc s.data.toList i) hu (by omega) (by rw [List.length_append];omega)
   rw [List.append_assoc,←List.append_assoc (Qu.enc _ _)] at next
   have en:(i:Int)+(Qu.unit s.data.toList i:Int)=((i+Qu.unit s.data.toList i:Nat):Int):=by omega
   have k34:=Qu.cp_small s.data.toList i 34 (by decide)
   have k92:=Qu.cp_small s.data.toList i 92 (by decide)
   simp only [Option.bind_some,cm_eql,cm_leq,cond_dec,ite_or,plain_p,ea,en,sin_in c,sa_bt]
   rw [←next]
   by_cases d1:Qu.bt s.data.toList i=34∨Qu.bt s.data.toList i=92
   · have d2:Qu.cp s.data.toList i=Qu.bt s.data.toList i:=by
      rcases d1 with d | d
      · rw [d];exact k34.2 d
      · rw [d];exact k92.2 d
     have d1':(Qu.cp s.data.toList i:Int)=34∨(Qu.cp s.data.toList i:Int)=92:=by omega
     have e:Qu.enc s.data.toList i=[92,UInt8.ofNat (Qu.bt s.data.toList i)]:=by unfold Qu.enc;rw [if_pos d1]
     have w1:cv .u32 (Qu.cp s.data.toList i:Int)=(Qu.bt s.data.toList i:Int):=by
      show IntKind.u32.wrap _=_
      rw [IntKind.wrap_u32];omega
     have w2:cv .u8 (Qu.cp s.data.toList i:Int)=((UInt8.ofNat (Qu.bt s.data.toList i)).toNat:Int):=by
      show IntKind.u8.wrap _=_
      rw [IntKind.wrap_u8,UInt8.toNat_ofNat'];omega
     rw [if_pos d1',e,w1,w2]
     have a1:app (cI .u8) (bis out) [92]=some (bis (out++[92])):=bis_app (m:=[92]) (by simp;omega)
     have a2:app (cI .u8) (bis (out++[92])) [((UInt8.ofNat (Qu.bt s.data.toList i)).toNat:Int)]=some (bis ((out++[92])++[UInt8.ofNat (Qu.bt s.data.toList i)])):=bis_app (m:=[UInt8.ofNat (Qu.bt s.data.toList i)]) (by simp;omega)
     rw [a1,Option.bind_some,a2,if_pos (by omega)]
     simp
   have d1':¬((Qu.cp s.data.toList i:Int)=34∨(Qu.cp s.data.toList i:Int)=92):=by
    intro h
    rcases h with h | h
    · exact d1 (.inl (k34.1 (by omega)))
    · exact d1 (.inr (k92.1 (by omega)))
   rw [if_neg d1']
   cases g:Qu.safe s.data.toList i with
   | true=>
     have e:Qu.enc s.data.toList i=(s.data.toList.drop i).take (Qu.unit s.data.toList i):=by unfold Qu.enc;rw [if_neg d1,if_pos g]
     have eb:Sh.bytes (Mt.ofL ((s.data.toList.drop i).take (Qu.unit s.data.toList i)))=bis ((s.data.toList.drop i).take (Qu.unit s.data.toList i)):=by unfold Sh.bytes bis;rw [Mt.ofL_list]
     rw [e,ss_of hu,ssin_nat (by omega) hu,eb,bis_app (by rw [←e];omega)]
     simp
   | false=>
     have e:Qu.enc s.data.toList i=[92,120,Qu.hexd (Qu.bt s.data.toList i / 16),Qu.hexd (Qu.bt s.data.toList i % 16)]:=by unfold Qu.enc;rw [if_neg d1,if_neg (by rw [g];simp)]
     obtain ⟨q1,q2,q3,q4⟩:=qhex_p ⟨_,hb⟩
     unfold hexS at q1 q2 q3 q4
     dsimp only at q1 q2 q3 q4
     have a1:app (cI .u8) (bis out) (Sh.bytes (ByteArray.mk #[92,120]))=some (bis (out++[92,120])):=bis_app (m:=[92,120]) (by simp;omega)
     have a2:app (cI .u8) (bis (out++[92,120])) [((Qu.hexd (Qu.bt s.data.toList i / 16)).toNat:Int)]=some (bis ((out++[92,120])++[Qu.hexd (Qu.bt s.data.toList i / 16)])):=bis_app (m:=[_]) (by simp;omega)
     have a3:app (cI .u8) (bis ((out++[92,120])++[Qu.hexd (Qu.bt s.data.toList i / 16)])) [((Qu.hexd (Qu.bt s.data.toList i % 16)).toNat:Int)]=some (bis (((out++[92,120])++[Qu.hexd (Qu.bt s.data.toList i / 16)])++[Qu.hexd (Qu.bt s.data.toList i % 16)])):=bis_app (m:=[_]) (by simp;omega)
     rw [q1,q2,q3,q4,a1,Option.bind_some,a2,Option.bind_some,a3,e]
     simp [ge0B]
theorem qtext_p (hs:s.size≤10000):quote_Text_g 800000 s=some (Mt.ofL (Qu.text s.data.toList)):=by
 unfold quote_Text_g
 have a1:app (cI .u8) [] [34]=some (bis [34]):=bis_app (l:=[]) (m:=[34]) (by simp)
 rw [a1]
 exact qtext_from hs 800000 0 [34] (by omega) (by omega) (by simp)
end
theorem rest_len (l:List UInt8):∀(n i:Nat),l.length≤i+n→(Qu.rest l i).length≤4*n:=by
 intro n
 induction n with
 | zero=>intro i h;rw [Qu.rest_end (by omega)];simp
 | succ n ih=>
   intro i h
   by_cases c:i<l.length
   · rw [Qu.rest_in c,List.length_append]
     have:=Qu.unit_pos l i
     have:=enc_len l i
     have:=ih (i+Qu.unit l i) (by omega)
     omega
   · rw [Qu.rest_end (by omega)];simp
theorem text_len (l:List UInt8):(Qu.text l).length≤4*l.length+2:=by
 rw [Qu.text_eq]
 have:=rest_len l l.length 0 (by omega)
 simp;omega
theorem mtext_p (g:GMatcher) (hv:g.Value.size≤1200) (hn:g.Name.size≤100):matcher_Text_g 800000 g=some (Mt.ofL (Mt.text (toM g)))∧r22_Text_g 800000 g=some (Mt.ofL (Mt.text (toM g)))∧(Mt.text (toM g)).length≤6000:=by
 have hz:=(sgn_size g.Op).2
 have h1:=text_len g.Value.data.toList
 rw [size_list] at h1
 have h2:=size_list g.Name
 have e1:ct g.Name (Mt.ofL (Mt.sgn g.Op))=Mt.ofL (g.Name.data.toList++Mt.sgn g.Op):=by
  have:=ofL_ct g.Name.data.toList (Mt.sgn g.Op)
  rwa [Mt.ofL_self] at this
 have e2:ctB g.Name (Mt.ofL (Mt.sgn g.Op))=true:=by
  have:=ofL_ctB (a:=g.Name.data.toList) (b:=Mt.sgn g.Op) (by omega)
  rwa [Mt.ofL_self] at this
 have e3:(Mt.text (toM g))=g.Name.data.toList++Mt.sgn g.Op++Qu.text g.Value.data.toList:=rfl
 refine ⟨?_,?_,by rw [e3,List.length_append,List.length_append];omega⟩
 · unfold matcher_Text_g
   rw [msign_p,Option.bind_some,e2,e1,_root_.cond_true,qtext_p (by omega),Option.bind_some,ofL_ctB (by rw [List.length_append];omega),ofL_ct,e3];rfl
 · unfold r22_Text_g
   rw [rsgn_p,Option.bind_some,e2,e1,_root_.cond_true,rtext_p (by omega),Option.bind_some,ofL_ctB (by rw [List.length_append];omega),ofL_ct,e3];rfl
end Pl
end Go.Proofs.YtpplemjjeefpdaaGreatDoor
