/- Texts that the proof leans on. -/
import Derived.Test.YtpplemjjeefpdaaGreatDoorK227
set_option linter.unusedVariables false
set_option linter.unusedSimpArgs false
set_option maxRecDepth 100000
set_option maxHeartbeats 4000000
namespace Go.Proofs.YtpplemjjeefpdaaGreatDoor
open Go Go.RowKit
open Ab Sh
namespace Soo
open Gn
section
variable {κ:Type}
def go2 (cA:κ→List Ab.T) (key:GMatcher→κ) (cmp:κ→κ→Option Int) (k1:Int→List κ→Option (List κ)) (p0:List GMatcher) (v1:Int) (v2:List κ):Nat→Int→Int→Option (List κ)
 | 0,_,_=>none
 | m + 1,v3,v4=>
   cond (cm .lss v4 (ll (rw _ cMatcher p0)))
    (cond (cm .gtr (ll (rw _ cA v2)) 0)
     ((at_ p0 v4).bind fun r5=>(at_ v2 (ar .sub .i64 (ll (rw _ cA v2)) 1)).bind fun r7=>(cmp (key r5) r7).bind fun a8=>
       cond (cm .leq a8 0) (go2 cA key cmp k1 p0 v1 v2 m v3 (ar .add .i64 v4 1))
        (cond (cm .lss v3 0) (go2 cA key cmp k1 p0 v1 v2 m v4 (ar .add .i64 v4 1))
         ((at_ p0 v4).bind fun r9=>(at_ p0 v3).bind fun r10=>(cmp (key r9) (key r10)).bind fun a11=>(cond (cm .lss a11 0) (some v4) (some v3):Option Int).bind fun j=>go2 cA key cmp k1 p0 v1 v2 m j (ar .add .i64 v4 1))))
     (cond (cm .lss v3 0) (go2 cA key cmp k1 p0 v1 v2 m v4 (ar .add .i64 v4 1))
      ((at_ p0 v4).bind fun r9=>(at_ p0 v3).bind fun r10=>(cmp (key r9) (key r10)).bind fun a11=>(cond (cm .lss a11 0) (some v4) (some v3):Option Int).bind fun j=>go2 cA key cmp k1 p0 v1 v2 m j (ar .add .i64 v4 1))))
    ((cond (cm .geq v3 0) ((at_ p0 v3).bind fun r15=>(app cA v2 [key r15]).bind fun l16=>some l16) (some v2):Option (List κ)).bind fun j5=>k1 (ar .add .i64 v1 1) j5)
theorem order_eq (N:Nat) (k1:Int→List GMatcher→Option (List GMatcher)) (p0:List GMatcher) (v1:Int) (v2:List GMatcher):∀(m:Nat) (v3 v4:Int),r23_Order_l2 N k1 p0 v1 v2 m v3 v4=go2 cMatcher id (r22_Compare_g N) k1 p0 v1 v2 m v3 v4:=by
 intro m
 induction m with
 | zero=>intro v3 v4;rfl
 | succ m ih=>
   intro v3 v4
   rw [r23_Order_l2,go2]
   simp only [ih,id]
   generalize cm .gtr (ll (rw _ cMatcher v2)) 0=b1
   generalize cm .lss v3 0=b2
   generalize at_ v2 (ar .sub .i64 (ll (rw _ cMatcher v2)) 1)=o
   cases b1<;>cases b2<;>cases o<;>simp
theorem names_eq (N:Nat) (k1:Int→List ByteArray→Option (List ByteArray)) (p0:List GMatcher) (v1:Int) (v2:List ByteArray):∀(m:Nat) (v3 v4:Int),r23_Names_l2 N k1 p0 v1 v2 m v3 v4=go2 cS GMatcher.Name (r02_Compare_g N) k1 p0 v1 v2 m v3 v4:=by
 intro m
 induction m with
 | zero=>intro v3 v4;rfl
 | succ m ih=>
   intro v3 v4
   rw [r23_Names_l2,go2]
   simp only [ih,id]
   generalize cm .gtr (ll (rw _ cS v2)) 0=b1
   generalize cm .lss v3 0=b2
   generalize at_ v2 (ar .sub .i64 (ll (rw _ cS v2)) 1)=o
   cases b1<;>cases b2<;>cases o<;>simp
def go1 (cA:κ→List Ab.T) (key:GMatcher→κ) (cmp:κ→κ→Option Int) (N:Nat) (p0:List GMatcher):Nat→Int→List κ→Option (List κ)
 | 0,_,_=>none
 | m+1,v1,v2=>
   cond (cm .lss v1 (ll (rw _ cMatcher p0)))
    (go2 cA key cmp (go1 cA key cmp N p0 m) p0 v1 v2 N (-1) 0)
    (some v2)
end
theorem order1_eq (N:Nat) (p0:List GMatcher):∀(m:Nat) (v1:Int) (v2:List GMatcher),r23_Order_l1 N p0 m v1 v2=go1 cMatcher id (r22_Compare_g N) N p0 m v1 v2:=by
 intro m
 induction m with
 | zero=>intro v1 v2;rfl
 | succ m ih=>
   intro v1 v2
   rw [r23_Order_l1,go1,order_eq]
   rw [show r23_Order_l1 N p0 m=go1 cMatcher id (r22_Compare_g N) N p0 m from funext fun a=>funext fun b=>ih a b]
theorem names1_eq (N:Nat) (p0:List GMatcher):∀(m:Nat) (v1:Int) (v2:List ByteArray),r23_Names_l1 N p0 m v1 v2=go1 cS GMatcher.Name (r02_Compare_g N) N p0 m v1 v2:=by
 intro m
 induction m with
 | zero=>intro v1 v2;rfl
 | succ m ih=>
   intro v1 v2
   rw [r23_Names_l1,go1,names_eq]
   rw [show r23_Names_l1 N p0 m=go1 cS GMatcher.Name (r02_Compare_g N) N p0 m from funext fun a=>funext fun b=>ih a b]
section
variable {κ:Type} {cA:κ→List Ab.T} {key:GMatcher→κ} {cmp:κ→κ→Option Int} {cf:κ→κ→Int} {p0:List GMatcher}
 (hcmp:∀x∈p0,∀y∈p0,cmp (key x) (key y)=some (cf (key x) (key y)))
 (irr:∀a,¬ cf a a<0) (tr:∀a b d,cf a b<0→cf b d<0→cf a d<0) (tri:∀a b,cf a b<0∨a=b∨cf b a<0) (hle:∀a b,cf a b≤0↔¬ cf b a<0)
 (hlen:p0.length≤1000000)
def qual (cf:κ→κ→Int) (key:GMatcher→κ) (v2:List κ) (x:GMatcher):Prop:=∀y,v2.getLast?=some y→cf y (key x)<0
def bi:Option Nat→Int
 | none=>-1
 | some b=>b
def inv (cf:κ→κ→Int) (key:GMatcher→κ) (p0:List GMatcher) (v2:List κ) (i:Nat):Option Nat→Prop
 | none=>∀(j:Nat) (h:j<p0.length),j<i→¬ qual cf key v2 p0[j]
 | some b=>∃hb:b<p0.length,b<i∧qual cf key v2 p0[b]∧∀(j:Nat) (h:j<p0.length),j<i→qual cf key v2 p0[j]→¬ cf (key p0[j]) (key p0[b])<0
def outK (k1:Int→List κ→Option (List κ)) (key:GMatcher→κ) (p0:List GMatcher) (v1:Int) (v2:List κ):Option Nat→Option (List κ)
 | none=>k1 (ar .add .i64 v1 1) v2
 | some b=>match p0[b]? with
   | some x=>k1 (ar .add .i64 v1 1) (v2++[key x])
   | none=>none
theorem outK_some (k1:Int→List κ→Option (List κ)) (v1:Int) (v2:List κ) {b:Nat} (h:b<p0.length):outK k1 key p0 v1 v2 (some b)=k1 (ar .add .i64 v1 1) (v2++[key p0[b]]):=by
 show (match p0[b]? with
  | some x=>k1 (ar .add .i64 v1 1) (v2++[key x])
  | none=>none)=_
 rw [List.getElem?_eq_getElem h]
include hcmp irr tr hle hlen in
theorem go2_ok (k1:Int→List κ→Option (List κ)) (v1:Int) (v2:List κ) (hv:∀y∈v2,∃z∈p0,key z=y) (hvl:v2.length≤1000000):∀(m i:Nat) (best:Option Nat),i≤p0.length→inv cf key p0 v2 i best→p0.length-i<m→
 ∃fin,inv cf key p0 v2 p0.length fin∧go2 cA key cmp k1 p0 v1 v2 m (bi best) i=outK k1 key p0 v1 v2 fin:=by
 intro m
 induction m with
 | zero=>intro i best _ _ h;omega
 | succ m ih=>
   intro i best hi hb hm
   rw [go2,ll_eq,cm_lss]
   by_cases hlt:i<p0.length
   · rw [decide_eq_true (by omega),_root_.cond_true,ll_eq,cm_gtr,at_nat p0 i,List.getElem?_eq_getElem hlt]
     have e1:((i:Int)+1)=((i+1:Nat):Int):=by omega
     -- the second part:it is greater than the last one
     have sec:qual cf key v2 p0[i]→∃fin,inv cf key p0 v2 p0.length fin∧(cond (cm .lss (bi best) 0) (go2 cA key cmp k1 p0 v1 v2 m i (ar .add .i64 i 1))
      ((some p0[i]).bind fun r9=>(at_ p0 (bi best)).bind fun r10=>(cmp (key r9) (key r10)).bind fun a11=>(cond (cm .lss a11 0) (some (i:Int)) (some (bi best)):Option Int).bind fun j=>go2 cA key cmp k1 p0 v1 v2 m j (ar .add .i64 i 1)))=outK k1 key p0 v1 v2 fin:=by
      intro hq
      rw [ar_add (by omega) (by omega),e1,cm_lss]
      cases best with
      | none=>
        rw [show decide (bi none<0)=true from rfl,_root_.cond_true]
        refine ih (i+1) (some i) (by omega) ⟨hlt,by omega,hq,fun j h hj hqj=>?_⟩ (by omega)
        by_cases hji:j=i
        · subst hji;exact irr _
        · exact absurd hqj (hb j h (by omega))
      | some b=>
        obtain ⟨hbl,hbi,hbq,hbm⟩:=hb
        rw [show decide (bi (some b)<0)=false from decide_eq_false (show ¬((b:Nat):Int)<0 by omega),_root_.cond_false,Option.bind_some]
        rw [show bi (some b)=((b:Nat):Int) from rfl,at_nat,List.getElem?_eq_getElem hbl,Option.bind_some,hcmp _ (List.getElem_mem _) _ (List.getElem_mem _),Option.bind_some,cm_lss]
        by_cases hc:cf (key p0[i]) (key p0[b])<0
        · rw [decide_eq_true hc,_root_.cond_true,Option.bind_some]
          refine ih (i+1) (some i) (by omega) ⟨hlt,by omega,hq,fun j h hj hqj hjl=>?_⟩ (by omega)
          by_cases hji:j=i
          · subst hji;exact irr _ hjl
          · exact hbm j h (by omega) hqj (tr _ _ _ hjl hc)
        · rw [decide_eq_false hc,_root_.cond_false,Option.bind_some]
          refine ih (i+1) (some b) (by omega) ⟨hbl,by omega,hbq,fun j h hj hqj=>?_⟩ (by omega)
          by_cases hji:j=i
          · subst hji;exact hc
          · exact hbm j h (by omega) hqj
     cases hv2:v2.getLast? with
     | none=>
       obtain rfl:v2=[]:=by simpa using hv2
       rw [show decide ((([]:List κ).length:Int)>0)=false from rfl,_root_.cond_false]
       exact sec (fun y hy=>by cases hy)
     | some y=>
       have hne:v2≠[]:=fun e=>by rw [e] at hv2;cases hv2
       have hpos:0<v2.length:=List.length_pos_iff.2 hne
       rw [decide_eq_true (by omega),_root_.cond_true,Option.bind_some,ar_sub (by omega) (by omega),show ((v2.length:Int)-1)=((v2.length-1:Nat):Int) by omega,at_nat,←List.getLast?_eq_getElem?,hv2,Option.bind_some]
       obtain ⟨z,hz,hzy⟩:=hv y (List.mem_of_getLast? hv2)
       have hcz:=hcmp p0[i] (List.getElem_mem _) z hz
       rw [hzy] at hcz
       rw [hcz,Option.bind_some,cm_leq]
       by_cases hq:cf (key p0[i]) y≤0
       · rw [decide_eq_true hq,_root_.cond_true,ar_add (by omega) (by omega),e1]
         have hnq:¬ qual cf key v2 p0[i]:=fun h=>(hle _ _).1 hq (h y hv2)
         refine ih (i+1) best (by omega) ?_ (by omega)
         cases best with
         | none=>
           intro j h hj
           by_cases hji:j=i
           · subst hji;exact hnq
           · exact hb j h (by omega)
         | some b=>
           obtain ⟨hbl,hbi,hbq,hbm⟩:=hb
           refine ⟨hbl,by omega,hbq,fun j h hj hqj=>?_⟩
           by_cases hji:j=i
           · subst hji;exact absurd hqj hnq
           · exact hbm j h (by omega) hqj
       · rw [decide_eq_false hq,_root_.cond_false]
         refine sec fun y' hy'=>?_
         rw [hv2] at hy'
         cases hy'
         exact Classical.byContradiction fun h=>hq ((hle _ _).2 h)
   · have he:i=p0.length:=by omega
     rw [decide_eq_false (by omega),_root_.cond_false]
     subst he
     refine ⟨best,hb,?_⟩
     cases best with
     | none=>rw [cm_geq,show decide (bi none≥0)=false from rfl];rfl
     | some b=>
       obtain ⟨hbl,_⟩:=hb
       rw [cm_geq,show decide (0≤bi (some b))=true from decide_eq_true (show (0:Int)≤((b:Nat):Int) by omega),_root_.cond_true,show bi (some b)=((b:Nat):Int) from rfl,at_nat,List.getElem?_eq_getElem hbl,Option.bind_some]
       unfold app
       rw [if_pos (by simp;omega)]
       rw [outK_some _ _ _ hbl]
       rfl
open Classical in
noncomputable def left (cf:κ→κ→Int) (key:GMatcher→κ) (p0:List GMatcher) (v2:List κ):Nat:=p0.countP fun x=>decide (qual cf key v2 x)
theorem countP_lt {α:Type} {p q:α→Bool}:∀{l:List α},(∀x∈l,q x=true→p x=true)→∀{b:Nat} (hb:b<l.length),p l[b]=true→q l[b]=false→l.countP q<l.countP p
 | [],_,b,hb,_,_=>by simp at hb
 | a::l,h,0,hb,h1,h2=>by
   have hm:=List.countP_mono_left (p:=q) (q:=p) (l:=l) fun x hx=>h x (List.mem_cons_of_mem _ hx)
   simp only [List.getElem_cons_zero] at h1 h2
   rw [List.countP_cons,List.countP_cons,h1,h2]
   simp;omega
 | a::l,h,b+1,hb,h1,h2=>by
   have ih:=countP_lt (l:=l) (p:=p) (q:=q) (fun x hx=>h x (List.mem_cons_of_mem _ hx)) (b:=b) (by simpa using hb) (by simpa using h1) (by simpa using h2)
   rw [List.countP_cons,List.countP_cons]
   have ha:=h a (List.mem_cons_self ..)
   by_cases g:q a=true
   · rw [g,ha g];simp;omega
   · rw [if_neg g];split<;>omega
open Classical in
include hcmp irr tr tri hle hlen in
theorem go1_ok {N:Nat} (hN:p0.length<N):∀(m i:Nat) (v2:List κ),i≤p0.length→v2.length≤i→(∀y∈v2,∃z∈p0,key z=y)→v2.Pairwise (fun a b=>cf a b<0)→(∀z∈p0,qual cf key v2 z∨key z∈v2)→left cf key p0 v2≤p0.length-i→p0.length-i<m→
 ∃r,go1 cA key cmp N p0 m i v2=some r∧r.Pairwise (fun a b=>cf a b<0)∧(∀y,y∈r↔∃z∈p0,key z=y)∧r.length≤p0.length:=by
 intro m
 induction m with
 | zero=>intro i v2 _ _ _ _ _ _ h;omega
 | succ m ih=>
   intro i v2 hi hl hv hp hcl hleft hm
   rw [go1,ll_eq,cm_lss]
   by_cases hlt:i<p0.length
   · rw [decide_eq_true (by omega),_root_.cond_true]
     obtain ⟨fin,hf,he⟩:=go2_ok (cA:=cA) hcmp irr tr hle hlen (go1 cA key cmp N p0 m) (i:Int) v2 hv (by omega) N 0 none (by omega) (fun j h hj=>by omega) (by omega)
     rw [show (-1:Int)=bi none from rfl,show (0:Int)=((0:Nat):Int) from rfl,he]
     cases fin with
     | none=>
       unfold outK
       dsimp only
       rw [ar_add (by omega) (by omega),show ((i:Int)+1)=((i+1:Nat):Int) by omega]
       refine ih (i+1) v2 (by omega) (by omega) hv hp hcl ?_ (by omega)
       have:left cf key p0 v2=0:=by
        unfold left
        rw [List.countP_eq_zero]
        intro x hx hq
        obtain ⟨j,hj,rfl⟩:=List.mem_iff_getElem.1 hx
        exact hf j hj hj (by simpa using hq)
       omega
     | some b=>
       obtain ⟨hbl,_,hbq,hbm⟩:=hf
       rw [outK_some _ _ _ hbl]
       rw [ar_add (by omega) (by omega),show ((i:Int)+1)=((i+1:Nat):Int) by omega]
       have hq':∀z,qual cf key (v2++[key p0[b]]) z↔cf (key p0[b]) (key z)<0:=fun z=>by
        unfold qual
        rw [List.getLast?_append]
        simp
       -- all that there were are less
       have hall:∀y∈v2,cf y (key p0[b])<0:=fun y hy=>by
        cases hv2:v2.getLast? with
        | none=>
          have:v2=[]:=by simpa using hv2
          rw [this] at hy;cases hy
        | some w=>
          have hw:=hbq w hv2
          obtain ⟨v',rfl⟩:=List.getLast?_eq_some_iff.1 hv2
          rcases List.mem_append.1 hy with h | h
          · exact tr _ _ _ ((List.pairwise_append.1 hp).2.2 y h w (by simp)) hw
          · rw [List.mem_singleton] at h;subst h;exact hw
       refine ih (i+1) _ (by omega) (by simp;omega) (fun y hy=>?_) ?_ (fun z hz=>?_) ?_ (by omega)
       · rcases List.mem_append.1 hy with h | h
         · exact hv y h
         · rw [List.mem_singleton] at h;exact ⟨_,List.getElem_mem hbl,h.symm⟩
       · refine List.pairwise_append.2 ⟨hp,List.pairwise_singleton _ _,fun x hx y hy=>?_⟩
         rw [List.mem_singleton] at hy
         subst hy
         exact hall x hx
       · rcases hcl z hz with h | h
         · obtain ⟨j,hj,rfl⟩:=List.mem_iff_getElem.1 hz
           have hn:=hbm j hj hj h
           rcases tri (key p0[j]) (key p0[b]) with g | g | g
           · exact absurd g hn
           · exact .inr (List.mem_append.2 (.inr (by simp [g])))
           · exact .inl ((hq' _).2 g)
         · exact .inr (List.mem_append.2 (.inl h))
       · have:left cf key p0 (v2++[key p0[b]])<left cf key p0 v2:=by
          unfold left
          refine countP_lt (fun x hx h=>?_) hbl (by simpa using hbq) ?_
          · rw [decide_eq_true_eq] at h ⊢
            rw [hq'] at h
            exact fun y hy=>tr _ _ _ (hbq y hy) h
          · rw [decide_eq_false_iff_not,hq']
            exact irr _
         omega
   · have he:i=p0.length:=by omega
     rw [decide_eq_false (by omega),_root_.cond_false]
     refine ⟨v2,rfl,hp,fun y=>⟨hv y,fun ⟨z,hz,hzy⟩=>?_⟩,by omega⟩
     have h0:left cf key p0 v2=0:=by omega
     unfold left at h0
     rw [List.countP_eq_zero] at h0
     rcases hcl z hz with h | h
     · exact absurd (by simpa using h) (h0 z hz)
     · exact hzy▸h
end
end Soo
end Go.Proofs.YtpplemjjeefpdaaGreatDoor
namespace Go.Proofs.YtpplemjjeefpdaaGreatDoor
open Go
open Sh Gn
namespace Pl
theorem bind_if {α β:Type} {p:Prop} [Decidable p] {a b:Option α} {f:α→Option β}:(if p then a else b).bind f=if p then a.bind f else b.bind f:=by split<;>rfl
theorem bind_self {α:Type} {o:Option α}:(o.bind fun x=>some x)=o:=by cases o<;>rfl
theorem size_list (s:ByteArray):s.data.toList.length=s.size:=by simp
section
variable {s:ByteArray} {i:Nat}
theorem pk_of (h:i<s.size):Rx.pk s.data.toList i=((s.data.getD i 0).toNat:Int):=by
 have h':i<s.data.size:=h
 unfold Rx.pk
 rw [Array.getElem?_toList,Array.getElem?_eq_getElem h',Array.getD_eq_getD_getElem?,Array.getElem?_eq_getElem h']
 rfl
theorem pk_out (h:¬ i<s.size):Rx.pk s.data.toList i=-1:=by
 have h':s.data.size≤i:=Nat.le_of_not_lt h
 unfold Rx.pk
 rw [Array.getElem?_toList,Array.getElem?_eq_none h']
theorem pk_range (h:i<s.size):0≤Rx.pk s.data.toList i∧Rx.pk s.data.toList i<256:=by
 rw [pk_of h];have:=(s.data.getD i 0).toNat_lt;omega
theorem sin_in (h:i<s.size):sinB s (i:Int)=true:=by simp [sinB,h]
theorem sa_pk (h:i<s.size):sa s (i:Int)=Rx.pk s.data.toList i:=by rw [pk_of h];rfl
theorem inc (h:i≤100000000) (k:Nat) (hk:k≤1000):ar .add .i64 (i:Int) (k:Int)=((i+k:Nat):Int):=by rw [ar_add (by omega) (by omega)];omega
theorem inc1 (h:i≤100000000):ar .add .i64 (i:Int) 1=((i+1:Nat):Int):=inc h 1 (by omega)
theorem inc2 (h:i≤100000000):ar .add .i64 (i:Int) 2=((i+2:Nat):Int):=inc h 2 (by omega)
theorem inc4 (h:i≤100000000):ar .add .i64 (i:Int) 4=((i+4:Nat):Int):=inc h 4 (by omega)
end
def okN (n:Node) (p:Nat):Gr13_P:=⟨n,CSet.empty,false,(p:Int),⟨0,0⟩⟩
def okS (S:CSet) (m:Bool) (p:Nat):Gr13_P:=⟨Rx.zero,S,m,(p:Int),⟨0,0⟩⟩
def RN (r:Res Node) (o:Option Gr13_P):Prop:=match r with
 | .ok n p=>o=some (okN n p)
 | .bad e p=>e≠0∧∃x,o=some x∧x.F=⟨e,(p:Int)⟩
 | .out=>False
def RS (r:Res (CSet × Bool)) (o:Option Gr13_P):Prop:=match r with
 | .ok (S,m) p=>o=some (okS S m p)
 | .bad e p=>e≠0∧∃x,o=some x∧x.F=⟨e,(p:Int)⟩
 | .out=>False
section
variable {s:ByteArray} {i:Nat}
theorem other_p {α:Type}:∃e p,(Rx.other s.data.toList i:Res α)=.bad e p∧e≠0∧∃x,r13_other_g s i=some x∧x.F=⟨e,(p:Int)⟩:=by
 unfold r13_other_g r13_bad_g Rx.other
 simp only [cm_geq,cond_dec,sl_eq,Option.bind_some]
 by_cases h:i<s.size
 · have:=pk_range h
   rw [if_neg (by omega),if_neg (by omega)]
   exact ⟨_,_,rfl,by decide,_,rfl,rfl⟩
 · rw [pk_out h,if_pos (by decide),if_pos (by omega),size_list]
   exact ⟨_,_,rfl,by decide,_,rfl,rfl⟩
theorem is_p {b:Int} (hb:0≤b):r13_is_g s i b=some (decide (Rx.pk s.data.toList i=b)):=by
 unfold r13_is_g
 simp only [cm_lss,cm_eql,cond_dec,sl_eq,bind_self]
 by_cases h:i<s.size
 · rw [if_pos (by omega),sin_in h,sa_pk h];rfl
 · rw [if_neg (by omega),pk_out h,decide_eq_false (by omega)]
theorem among_from (b:Int) (l:ByteArray) (hl:l.size≤100000):∀(m i:Nat),l.size<m+i→i≤l.size→r13_among_l1 b l m i=some ((l.data.toList.drop i).any fun x=>decide ((x.toNat:Int)=b)):=by
 intro m
 induction m with
 | zero=>intro i h h2;omega
 | succ m ih=>
   intro i h hi
   rw [r13_among_l1]
   simp only [cm_lss,cm_eql,cond_dec,sl_eq]
   by_cases h1:i<l.size
   · rw [if_pos (by omega),sin_in h1,sa_pk h1]
     have h1':i<l.data.toList.length:=by rw [size_list];exact h1
     rw [List.drop_eq_getElem_cons h1',List.any_cons]
     have e:Rx.pk l.data.toList i=((l.data.toList[i].toNat:Nat):Int):=by unfold Rx.pk;rw [List.getElem?_eq_getElem h1']
     rw [e]
     simp only [_root_.cond_true]
     by_cases h2:((l.data.toList[i].toNat:Nat):Int)=b
     · rw [if_pos h2,decide_eq_true h2];rfl
     · rw [if_neg h2,inc1 (by omega),ih _ (by omega) (by omega),decide_eq_false h2];rfl
   · rw [if_neg (by omega),List.drop_eq_nil_of_le (by rw [size_list];omega)];rfl
theorem among_p (b:Int) (l:ByteArray) {N:Nat} (hl:l.size≤100000) (hN:l.size<N):r13_among_g N b l=some (l.data.toList.any fun x=>decide ((x.toNat:Int)=b)):=by
 unfold r13_among_g
 exact among_from b l hl N 0 (by omega) (by omega)
theorem hex_p {b:Int} (h0:0≤b) (h1:b<256):r13_hex_g b=some (Rx.hexv b):=by
 unfold r13_hex_g Rx.hexv
 rw [cv_i64 (by omega) (by omega),ar_sub (by omega) (by omega),ar_sub (by omega) (by omega)]
 simp only [cm_geq,cm_leq,cond_dec,bind_if,Option.bind_some,cond_false,_root_.cond_true]
 repeat' split
 all_goals first | rfl | (exfalso;omega)
theorem between_p {a b:Int} (h:0≤a∧a<256) (h':0≤b∧b<256):r12_Between_g a b=some (CSet.between a.toNat b.toNat):=by
 unfold r12_Between_g;rw [if_pos ⟨h.1,h.2,h'.1,h'.2⟩]
theorem digits_p:r13_Digits_g=some Rx.digits:=by
 unfold r13_Digits_g;rw [between_p (a:=48) (b:=57) (by decide) (by decide)];rfl
theorem words_put:(((CSet.between 48 57).or (CSet.between 65 90)).or (CSet.between 97 122)).put 95=Rx.words:=CSet.ext_has fun x hx=>by
 unfold Rx.words
 rw [CSet.has_put _ _ _ (by decide) hx,CSet.has_or,CSet.has_or,CSet.has_or,CSet.has_or,CSet.has_or,CSet.has_between 95 95 x (by decide) hx]
 have:(decide (95≤x)&&decide (x≤95))=decide (x=95):=by rw [Bool.eq_iff_iff];simp;omega
 rw [this]
 simp only [Bool.or_assoc]
theorem words_p:r13_Words_g=some Rx.words:=by
 unfold r13_Words_g r12_Or_g r12_With_g
 rw [between_p (a:=48) (b:=57) (by decide) (by decide),between_p (a:=65) (b:=90) (by decide) (by decide),between_p (a:=97) (b:=122) (by decide) (by decide)]
 simp only [Option.bind_some]
 rw [if_pos (by decide)]
 exact congrArg some words_put
end
section
variable {s:ByteArray} {i:Nat}
theorem bad_p {e p:Int}:r13_bad_g e p=some ⟨Rx.zero,CSet.empty,false,0,⟨e,p⟩⟩:=rfl
theorem plain_any (b:Int):((ByteArray.mk #[92,46,91,93,40,41,123,125,124,42,43,63,45,94]).data.toList.any fun x=>decide ((x.toNat:Int)=b))=Rx.plainB b:=by
 unfold Rx.plainB
 rw [Bool.eq_iff_iff]
 simp
 omega
theorem esc_p {N:Nat} (hN:20≤N) (hs:s.size≤1000000) (hi:i≤1000000):RS (Rx.esc s.data.toList i) (r13_escape_g N s i):=by
 unfold r13_escape_g Rx.esc
 simp only [inc1 (show i≤100000000 by omega),inc2 (show i≤100000000 by omega),cm_geq,cm_eql,cond_dec,sl_eq,bad_p,Option.bind_some,digits_p,words_p,size_list,bind_self]
 by_cases h1:i+1<s.size
 case neg=>
  have g:(s.size:Int)≤((i+1:Nat):Int):=by omega
  simp only [pk_out h1,if_true,g]
  exact ⟨by decide,_,rfl,rfl⟩
 have r1:=pk_range h1
 have g1:¬(s.size:Int)≤((i+1:Nat):Int):=by omega
 have n1:¬ Rx.pk s.data.toList (i+1)=-1:=by omega
 simp only [g1,sin_in h1,sa_pk h1,n1,if_false,_root_.cond_true]
 by_cases c1:Rx.pk s.data.toList (i+1)=100
 · simp only [c1,if_true];rfl
 by_cases c2:Rx.pk s.data.toList (i+1)=119
 · simp only [c2,if_true,c1,if_false];rfl
 simp only [c1,c2,if_false]
 by_cases c3:Rx.pk s.data.toList (i+1)=120
 · simp only [c3,if_true]
   obtain ⟨N,rfl⟩:∃k,N=k+3:=⟨N-3,by omega⟩
   rw [r13_escape_l1]
   simp only [cm_lss,cm_geq,cond_dec,sl_eq,bad_p,Option.bind_some,inc4 (show i≤100000000 by omega)]
   have k1:((i+2:Nat):Int)<((i+4:Nat):Int):=by omega
   by_cases h2:i+2<s.size
   case neg=>
    have g:(s.size:Int)≤((i+2:Nat):Int):=by omega
    simp only [pk_out h2,k1,g,if_true]
    exact ⟨by decide,_,rfl,rfl⟩
   have r2:=pk_range h2
   have g2:¬(s.size:Int)≤((i+2:Nat):Int):=by omega
   have n2:¬ Rx.pk s.data.toList (i+2)=-1:=by omega
   have v2:=Rd.hexv_le (Rx.pk s.data.toList (i+2))
   simp only [k1,g2,n2,sin_in h2,sa_pk h2,hex_p r2.1 r2.2,if_true,if_false,_root_.cond_true,Option.bind_some]
   by_cases c4:Rx.hexv (Rx.pk s.data.toList (i+2))<0
   · simp only [c4,if_true];exact ⟨by decide,_,rfl,rfl⟩
   simp only [c4,if_false]
   rw [ar_mul (x:=16) (y:=0) (by decide) (by decide),ar_add (by omega) (by omega),inc1 (show i+2≤100000000 by omega),r13_escape_l1]
   simp only [cm_lss,cm_geq,cond_dec,sl_eq,bad_p,Option.bind_some,inc4 (show i≤100000000 by omega)]
   have k2:((i+2+1:Nat):Int)<((i+4:Nat):Int):=by omega
   by_cases h3:i+3<s.size
   case neg=>
    have g:(s.size:Int)≤((i+2+1:Nat):Int):=by omega
    simp only [pk_out h3,k2,g,if_true]
    exact ⟨by decide,_,rfl,rfl⟩
   have r3:=pk_range h3
   have g3:¬(s.size:Int)≤((i+2+1:Nat):Int):=by omega
   have n3:¬ Rx.pk s.data.toList (i+3)=-1:=by omega
   have v3:=Rd.hexv_le (Rx.pk s.data.toList (i+3))
   simp only [k2,g3,n3,sin_in (show i+2+1<s.size from h3),sa_pk (show i+2+1<s.size from h3),hex_p r3.1 r3.2,if_true,if_false,_root_.cond_true,Option.bind_some]
   by_cases c5:Rx.hexv (Rx.pk s.data.toList (i+3))<0
   · simp only [c5,if_true];exact ⟨by decide,_,rfl,rfl⟩
   simp only [c5,if_false]
   rw [ar_mul (by omega) (by omega),ar_add (by omega) (by omega),inc1 (show i+2+1≤100000000 by omega),r13_escape_l1]
   have k3:¬((i+2+1+1:Nat):Int)<((i+4:Nat):Int):=by omega
   simp only [cm_lss,cm_geq,cond_dec,sl_eq,bad_p,inc4 (show i≤100000000 by omega),k3,if_false]
   rw [between_p (by omega) (by omega)]
   show some _=some _
   unfold okS Rx.one
   rw [show 16*(16*0+Rx.hexv (Rx.pk s.data.toList (i+2)))+Rx.hexv (Rx.pk s.data.toList (i+3))=16*Rx.hexv (Rx.pk s.data.toList (i+2))+Rx.hexv (Rx.pk s.data.toList (i+3)) by omega]
   rfl
 simp only [c3,if_false]
 rw [among_p _ _ (by decide) (by show 14<N;omega),plain_any,cv_i64 (by omega) (by omega),between_p r1 r1]
 simp only [Option.bind_some]
 cases hp:Rx.plainB (Rx.pk s.data.toList (i+1)) with
 | true=>rfl
 | false=>exact ⟨by decide,_,rfl,rfl⟩
theorem sign_any (b:Int) (h:0≤b):((ByteArray.mk #[91,93,45,94]).data.toList.any fun x=>decide ((x.toNat:Int)=b))=decide (b=-1∨b=91∨b=93∨b=45∨b=94):=by
 rw [Bool.eq_iff_iff]
 simp
 omega
theorem sign_p {N:Nat} (hN:20≤N) (hs:s.size≤1000000) (hi:i≤1000000):RS (Rx.sign s.data.toList i) (r13_sign_g N s i):=by
 unfold r13_sign_g Rx.sign
 simp only [inc1 (show i≤100000000 by omega),cm_geq,cm_eql,cond_dec,sl_eq,bind_self,bind_if,Option.bind_some,_root_.cond_true]
 obtain ⟨e,p,q1,q2,x,q3,q4⟩:=other_p (s:=s) (i:=i) (α:=CSet × Bool)
 by_cases h1:i<s.size
 case neg=>
  have g:(s.size:Int)≤(i:Int):=by omega
  have n:¬(-1:Int)=92:=by decide
  simp only [pk_out h1,g,n,if_true,if_false,true_or,q1,q3]
  exact ⟨q2,x,rfl,q4⟩
 have r1:=pk_range h1
 have g:¬(s.size:Int)≤(i:Int):=by omega
 simp only [g,sin_in h1,sa_pk h1,if_false,_root_.cond_true]
 rw [among_p _ _ (by decide) (by show 4<N;omega),sign_any _ r1.1,cv_i64 (by omega) (by omega),between_p r1 r1]
 simp only [Option.bind_some,cond_dec]
 by_cases c1:Rx.pk s.data.toList i=92
 · have n:¬(Rx.pk s.data.toList i=-1∨Rx.pk s.data.toList i=91∨Rx.pk s.data.toList i=93∨Rx.pk s.data.toList i=45∨Rx.pk s.data.toList i=94):=by omega
   rw [if_pos c1,if_neg n,if_pos c1];exact esc_p hN hs hi
 rw [if_neg c1]
 by_cases c2:Rx.pk s.data.toList i=-1∨Rx.pk s.data.toList i=91∨Rx.pk s.data.toList i=93∨Rx.pk s.data.toList i=45∨Rx.pk s.data.toList i=94
 · rw [if_pos c2,if_pos c2,q1,q3];exact ⟨q2,x,rfl,q4⟩
 · rw [if_neg c2,if_neg c2,if_neg c1];rfl
end
end Pl
end Go.Proofs.YtpplemjjeefpdaaGreatDoor
namespace Go.Proofs.YtpplemjjeefpdaaGreatDoor
open Go
open Sh Gn
namespace Pl
def RI (r:Res CSet) (o:Option Gr13_P):Prop:=match r with
 | .ok S p=>∃x,o=some x∧x.F.E=0∧x.Set=S∧x.At=(p:Int)
 | .bad e p=>e≠0∧∃x,o=some x∧x.F=⟨e,(p:Int)⟩
 | .out=>False
def RU (r:Res Nat) (o:Option (Int × Gr13_P)):Prop:=match r with
 | .ok n p=>∃x,o=some ((n:Int),x)∧x.F.E=0∧x.At=(p:Int)
 | .bad e p=>e≠0∧∃k x,o=some (k,x)∧x.F=⟨e,(p:Int)⟩
 | .out=>False
section
variable {s:ByteArray} {i:Nat}
theorem item_p {N:Nat} (hN:20≤N) (hs:s.size≤100000) (hi:i≤s.size):RI (Rx.item s.data.toList i) (r13_item_g N s i):=by
 have h1:=sign_p (s:=s) (i:=i) hN (by omega) (by omega)
 have F:=fine_sign s.data.toList i
 unfold r13_item_g
 cases hr:Rx.sign s.data.toList i with
 | out=>rw [hr] at F;exact F.elim
 | bad e p=>
   rw [Rd.item_bad1 hr]
   rw [hr] at h1
   obtain ⟨hz,x,hx,hf⟩:=h1
   have he:¬ x.F.E=0:=by rw [hf];exact hz
   simp only [hx,Option.bind_some,cm_neq,cond_not,cond_dec,he,if_false,_root_.cond_true]
   exact ⟨hz,x,rfl,hf⟩
 | ok a p=>
   obtain ⟨S,m⟩:=a
   rw [hr] at h1
   have h1:r13_sign_g N s i=some (okS S m p):=h1
   have hp:=Rd.fine_le F hr
   rw [size_list] at hp
   simp only [h1,okS,Option.bind_some,cm_neq,cond_not,cond_dec,if_true]
   cases m with
   | true=>
     rw [Rd.item_1 hr (.inl rfl)]
     exact ⟨_,rfl,rfl,rfl,rfl⟩
   | false =>
     rw [is_p (by decide)]
     simp only [_root_.cond_false,Option.bind_some,cond_not,cond_dec]
     by_cases c1:Rx.pk s.data.toList p=45
     case neg=>
      rw [Rd.item_1 hr (.inr c1),if_neg c1]
      exact ⟨_,rfl,rfl,rfl,rfl⟩
     have hn:¬((S,false).2=true∨Rx.pk s.data.toList p≠45):=fun e=>e.elim (fun e=>by cases e) (fun e=>e c1)
     rw [if_pos c1,inc1 (show p≤100000000 by omega)]
     have h2:=sign_p (s:=s) (i:=p+1) hN (by omega) (by omega)
     have F2:=fine_sign s.data.toList (p+1)
     have f1:=Rd.sign_first hr rfl
     have f1:0≤S.first∧S.first≤255:=f1
     cases hr2:Rx.sign s.data.toList (p+1) with
     | out=>rw [hr2] at F2;exact F2.elim
     | bad e q=>
       rw [Rd.item_bad2 hr hn hr2]
       rw [hr2] at h2
       obtain ⟨hz,x,hx,hf⟩:=h2
       have he:¬ x.F.E=0:=by rw [hf];exact hz
       simp only [hx,Option.bind_some,cm_neq,cond_not,cond_dec,he,if_false]
       exact ⟨hz,x,rfl,hf⟩
     | ok c q=>
       obtain ⟨T,k⟩:=c
       rw [hr2] at h2
       have h2:r13_sign_g N s ((p+1:Nat):Int)=some (okS T k q):=h2
       simp only [h2,okS,Option.bind_some,cm_neq,cm_lss,cond_not,cond_dec,if_true,r12_First_g,bad_p]
       cases k with
       | true=>
         rw [Rd.item_2 hr hn hr2 (.inl rfl)]
         exact ⟨by decide,_,rfl,rfl⟩
       | false=>
         have f2:=Rd.sign_first hr2 rfl
         have f2:0≤T.first∧T.first≤255:=f2
         simp only [_root_.cond_false,Option.bind_some,cond_dec]
         by_cases c2:T.first<S.first
         · rw [Rd.item_2 hr hn hr2 (.inr c2),if_pos c2]
           exact ⟨by decide,_,rfl,rfl⟩
         · have hb:¬((T,false).2=true∨(T,false).1.first<(S,false).1.first):=fun e=>e.elim (fun e=>by cases e) c2
           rw [Rd.item_3 hr hn hr2 hb,if_neg c2,between_p (by omega) (by omega)]
           exact ⟨_,rfl,rfl,rfl,rfl⟩
theorem or_empty (S:CSet):CSet.empty.or S=S:=by cases S;simp [CSet.or,CSet.empty]
theorem class_from {N:Nat} (hN:20≤N) (hs:s.size≤100000) (not:Bool):∀(m f j:Nat) (S:CSet) (v4:Int) (v5:CSet) (v6:List Node) (v7 v8:Int) (v9:CSet) (v10:Bool) (v11 v12 v13:Int),j≤s.size→s.size<j+f→s.size<j+m→
 match (if Rx.pk s.data.toList j=93 then .ok S j else Rx.items s.data.toList f S j) with
 | .ok T p=>r13_class_l1 N s not m j v4 v5 v6 v7 v8 v9 v10 v11 v12 v13 S=some (okN (.mk 1 (if not=true then T.not else T) [] 0 0) (p+1))
 | .bad e p=>e≠0∧∃x,r13_class_l1 N s not m j v4 v5 v6 v7 v8 v9 v10 v11 v12 v13 S=some x∧x.F=⟨e,(p:Int)⟩
 | .out=>False:=by
 intro m
 induction m with
 | zero=>intro f j S v4 v5 v6 v7 v8 v9 v10 v11 v12 v13 h1 h2 h3;omega
 | succ m ih=>
   intro f j S v4 v5 v6 v7 v8 v9 v10 v11 v12 v13 h1 h2 h3
   rw [r13_class_l1,is_p (by decide)]
   simp only [Option.bind_some,cond_not,cond_dec]
   by_cases c1:Rx.pk s.data.toList j=93
   · simp only [c1,if_true,inc1 (show j≤100000000 by omega),r12_Not_g]
     cases not<;>rfl
   simp only [c1,if_false]
   obtain ⟨f,rfl⟩:∃k,f=k+1:=⟨f-1,by omega⟩
   have h:=item_p (s:=s) (i:=j) hN hs h1
   have F:=fine_item s.data.toList j
   cases hr:Rx.item s.data.toList j with
   | out=>rw [hr] at F;exact F.elim
   | bad e p=>
     rw [Rd.items_bad hr]
     rw [hr] at h
     obtain ⟨hz,x,hx,hf⟩:=h
     have he:¬ x.F.E=0:=by rw [hf];exact hz
     simp only [hx,Option.bind_some,cm_neq,cond_not,cond_dec,he,if_false]
     exact ⟨hz,x,rfl,hf⟩
   | ok T p=>
     rw [Rd.items_ok hr]
     rw [hr] at h
     obtain ⟨x,hx,he,hS,ha⟩:=h
     have hp:=Rd.fine_le F hr
     rw [size_list] at hp
     simp only [hx,Option.bind_some,cm_neq,cond_not,cond_dec,he,if_true,r12_Or_g,ha,hS]
     exact ih f p (S.or T) _ _ _ _ _ _ _ _ _ _ (by omega) (by omega) (by omega)
theorem class_p {N:Nat} (hN:s.size+20≤N) (hs:s.size≤100000) (hi:i≤s.size):
 match Rx.cls s.data.toList i with
 | .ok S p=>r13_class_g N s i=some (okN (.mk 1 S [] 0 0) p)
 | .bad e p=>e≠0∧∃x,r13_class_g N s i=some x∧x.F=⟨e,(p:Int)⟩
 | .out=>False:=by
 unfold r13_class_g Rx.cls
 rw [is_p (by decide),inc1 (show i≤100000000 by omega)]
 simp only [Option.bind_some,cond_dec,bind_if]
 obtain ⟨b,hb⟩:∃b,b=decide (Rx.pk s.data.toList i=94):=⟨_,rfl⟩
 obtain ⟨j,hj⟩:∃j,j=if Rx.pk s.data.toList i=94 then i+1 else i:=⟨_,rfl⟩
 have hjl:j≤s.size:=by
  rw [hj];split
  · rename_i c
    rcases Nat.lt_or_ge i s.size with g | g
    · omega
    · rw [pk_out (by omega)] at c;cases c
  · exact hi
 have key:match Rx.items s.data.toList (s.data.toList.length+1) CSet.empty j with
  | .ok T p=>(r13_item_g N s j).bind (fun a2=>cond (cm .neq a2.F.E 0) (some a2) (r13_class_l1 N s b N a2.At a2.N.kind a2.N.set a2.N.kids a2.N.min a2.N.max a2.Set a2.Many a2.At a2.F.E a2.F.At a2.Set))=some (okN (.mk 1 (if b=true then T.not else T) [] 0 0) (p+1))
  | .bad e p=>e≠0∧∃x,(r13_item_g N s j).bind (fun a2=>cond (cm .neq a2.F.E 0) (some a2) (r13_class_l1 N s b N a2.At a2.N.kind a2.N.set a2.N.kids a2.N.min a2.N.max a2.Set a2.Many a2.At a2.F.E a2.F.At a2.Set))=some x∧x.F=⟨e,(p:Int)⟩
  | .out=>False:=by
  have h:=item_p (s:=s) (i:=j) (show 20≤N by omega) hs hjl
  have F:=fine_item s.data.toList j
  rw [size_list]
  cases hr:Rx.item s.data.toList j with
  | out=>rw [hr] at F;exact F.elim
  | bad e p=>
    rw [Rd.items_bad hr]
    rw [hr] at h
    obtain ⟨hz,x,hx,hf⟩:=h
    have he:¬ x.F.E=0:=by rw [hf];exact hz
    simp only [hx,Option.bind_some,cm_neq,cond_not,cond_dec,he,if_false]
    exact ⟨hz,x,rfl,hf⟩
  | ok T p=>
    rw [Rd.items_ok hr,or_empty]
    rw [hr] at h
    obtain ⟨x,hx,he,hS,ha⟩:=h
    have hp:=Rd.fine_le F hr
    rw [size_list] at hp
    simp only [hx,Option.bind_some,cm_neq,cond_not,cond_dec,he,if_true,ha,hS]
    exact class_from (show 20≤N by omega) hs b N s.size p T _ _ _ _ _ _ _ _ _ _ (by omega) (by omega) (by omega)
 rw [←hj]
 have e1:(if Rx.pk s.data.toList i=94 then (r13_item_g N s ((i+1:Nat):Int)).bind (fun a2=>cond (cm .neq a2.F.E 0) (some a2) (r13_class_l1 N s (decide (Rx.pk s.data.toList i=94)) N a2.At a2.N.kind a2.N.set a2.N.kids a2.N.min a2.N.max a2.Set a2.Many a2.At a2.F.E a2.F.At a2.Set)) else (r13_item_g N s (i:Int)).bind (fun a2=>cond (cm .neq a2.F.E 0) (some a2) (r13_class_l1 N s (decide (Rx.pk s.data.toList i=94)) N a2.At a2.N.kind a2.N.set a2.N.kids a2.N.min a2.N.max a2.Set a2.Many a2.At a2.F.E a2.F.At a2.Set)))=(r13_item_g N s j).bind (fun a2=>cond (cm .neq a2.F.E 0) (some a2) (r13_class_l1 N s b N a2.At a2.N.kind a2.N.set a2.N.kids a2.N.min a2.N.max a2.Set a2.Many a2.At a2.F.E a2.F.At a2.Set)):=by
  rw [hj,hb];split<;>rfl
 rw [e1]
 cases hit:Rx.items s.data.toList (s.data.toList.length+1) CSet.empty j with
 | ok T p=>
   rw [hit] at key
   have eb:(if b=true then T.not else T)=if Rx.pk s.data.toList i=94 then T.not else T:=by rw [hb];simp
   dsimp only at key
   rw [eb] at key
   exact key
 | bad e p=>rw [hit] at key;exact key
 | out=>rw [hit] at key;exact key
theorem digits_from:∀(m k:Nat) (n:Nat) (v:Int),i≤k→k≤s.size→s.size<k+m→n≤1000→0≤v→v≤100000→(n<1000∧v=n∨n=1000∧1000≤v)→s.size≤100000→
 RU (if (Rx.digs s.data.toList (s.data.toList.length-k) n k).2=i then Rx.other s.data.toList i
  else if Rx.pk s.data.toList i=48∧(Rx.digs s.data.toList (s.data.toList.length-k) n k).2>i+1 then .bad 2 i
  else if (Rx.digs s.data.toList (s.data.toList.length-k) n k).1>16 then .bad 3 i
  else .ok (Rx.digs s.data.toList (s.data.toList.length-k) n k).1 (Rx.digs s.data.toList (s.data.toList.length-k) n k).2) (r13_number_l1 s i m k v):=by
 intro m
 induction m with
 | zero=>intro k n v h1 h2 h3;omega
 | succ m ih=>
   intro k n v h1 h2 h3 h4 h5 h5' h6 hs
   rw [r13_number_l1]
   simp only [cm_lss,cm_geq,cm_leq,cm_eql,cm_gtr,cond_dec,sl_eq,bind_if,Option.bind_some,bad_p]
   by_cases hd:k<s.size∧48≤Rx.pk s.data.toList k∧Rx.pk s.data.toList k≤57
   · obtain ⟨hk,d1,d2⟩:=hd
     have r:=pk_range hk
     have hk':k<s.data.toList.length:=by rw [size_list];exact hk
     have e:Rx.digitB (Rx.pk s.data.toList k)=true:=by unfold Rx.digitB;simp [d1,d2]
     have st:=Rd.digs_step (n:=n) hk'
     rw [if_pos e] at st
     rw [st]
     have g1:(k:Int)<(s.size:Int):=by omega
     simp only [g1,sin_in hk,sa_pk hk,if_true,_root_.cond_true,d1,d2,Option.bind_some,decide_true,inc1 (show k≤100000000 by omega)]
     have step:∀n' v',n'=Nat.min (10*n+(Rx.pk s.data.toList k-48).toNat) 1000→n'≤1000→0≤v'→v'≤100000→(n'<1000∧v'=(n':Int)∨n'=1000∧1000≤v')→RU (if (Rx.digs s.data.toList (s.data.toList.length-(k+1)) (Nat.min (10*n+(Rx.pk s.data.toList k-48).toNat) 1000) (k+1)).2=i then Rx.other s.data.toList i
      else if Rx.pk s.data.toList i=48∧(Rx.digs s.data.toList (s.data.toList.length-(k+1)) (Nat.min (10*n+(Rx.pk s.data.toList k-48).toNat) 1000) (k+1)).2>i+1 then .bad 2 i
      else if (Rx.digs s.data.toList (s.data.toList.length-(k+1)) (Nat.min (10*n+(Rx.pk s.data.toList k-48).toNat) 1000) (k+1)).1>16 then .bad 3 i
      else .ok (Rx.digs s.data.toList (s.data.toList.length-(k+1)) (Nat.min (10*n+(Rx.pk s.data.toList k-48).toNat) 1000) (k+1)).1 (Rx.digs s.data.toList (s.data.toList.length-(k+1)) (Nat.min (10*n+(Rx.pk s.data.toList k-48).toNat) 1000) (k+1)).2) (r13_number_l1 s i m ((k+1:Nat):Int) v'):=fun n' v' e1 e2 e3 e3' e4=>by
      rw [←e1]
      exact ih (k+1) n' v' (by omega) (by omega) (by omega) e2 e3 e3' e4 hs
     by_cases c:v<1000
     · simp only [c,if_true]
       rw [cv_i64 (by omega) (by omega),ar_mul (by omega) (by omega),ar_add (by omega) (by omega),ar_sub (by omega) (by omega)]
       have hn:n<1000∧v=n:=by omega
       refine step (Nat.min (10*n+(Rx.pk s.data.toList k-48).toNat) 1000) _ rfl (Nat.min_le_right _ _) (by omega) (by omega) ?_
       have e:Nat.min (10*n+(Rx.pk s.data.toList k-48).toNat) 1000=if 10*n+(Rx.pk s.data.toList k-48).toNat≤1000 then 10*n+(Rx.pk s.data.toList k-48).toNat else 1000:=rfl
       rw [e]
       split<;>omega
     · simp only [c,if_false]
       have hn:n=1000∧1000≤v:=by omega
       refine step (Nat.min (10*n+(Rx.pk s.data.toList k-48).toNat) 1000) _ rfl (Nat.min_le_right _ _) (by omega) h5' ?_
       have e:Nat.min (10*n+(Rx.pk s.data.toList k-48).toNat) 1000=if 10*n+(Rx.pk s.data.toList k-48).toNat≤1000 then 10*n+(Rx.pk s.data.toList k-48).toNat else 1000:=rfl
       rw [e]
       split<;>omega
   · have hn:¬(48≤Rx.pk s.data.toList k∧Rx.pk s.data.toList k≤57):=fun ⟨a,b⟩=>by
      by_cases hk:k<s.size
      · exact hd ⟨hk,a,b⟩
      · rw [pk_out hk] at a;omega
     rw [Rd.digs_end (by rw [size_list];exact h2) hn]
     have ej:∀{β:Type} (F:Bool→Option β),(if (k:Int)<(s.size:Int) then (cond (sinB s k) (if 48≤sa s k then (cond (sinB s k) (some (decide (sa s k≤57))) none) else some false) none).bind F else F false)=F false:=fun F=>by
      by_cases hk:k<s.size
      · have g1:(k:Int)<(s.size:Int):=by omega
        simp only [g1,sin_in hk,sa_pk hk,if_true,_root_.cond_true]
        by_cases d1:48≤Rx.pk s.data.toList k
        · have d2:¬ Rx.pk s.data.toList k≤57:=fun d2=>hn ⟨d1,d2⟩
          simp only [d1,d2,if_true,Option.bind_some,decide_false]
        · simp only [d1,if_false,Option.bind_some]
      · have g1:¬(k:Int)<(s.size:Int):=by omega
        simp only [g1,if_false]
     rw [ej]
     simp only [_root_.cond_false]
     by_cases c1:k=i
     · subst c1
       obtain ⟨e,p,q1,q2,x,q3,q4⟩:=other_p (s:=s) (i:=k) (α:=Nat)
       simp only [if_true,q1,q3,Option.bind_some]
       exact ⟨q2,0,x,rfl,q4⟩
     have c1':¬(k:Int)=(i:Int):=by omega
     have hi:i<s.size:=by omega
     simp only [c1,c1',if_false,sin_in hi,sa_pk hi,_root_.cond_true,inc1 (show i≤100000000 by omega)]
     have gk:(((i+1:Nat):Int)<(k:Int))=(k>i+1):=by apply propext;omega
     by_cases c2:Rx.pk s.data.toList i=48
     · simp only [c2,true_and,if_true,Option.bind_some,cond_dec,gk]
       by_cases c3:k>i+1
       · simp only [c3,if_true]
         exact ⟨by decide,0,_,rfl,rfl⟩
       · simp only [c3,if_false]
         by_cases c4:n>16
         · have c4':(16:Int)<v:=by omega
           simp only [c4,c4',if_true];exact ⟨by decide,0,_,rfl,rfl⟩
         · have c4':¬(16:Int)<v:=by omega
           simp only [c4,c4',if_false]
           have:v=n:=by omega
           subst this
           exact ⟨_,rfl,rfl,rfl⟩
     · simp only [c2,false_and,if_false,Option.bind_some,_root_.cond_false]
       by_cases c4:n>16
       · have c4':(16:Int)<v:=by omega
         simp only [c4,c4',if_true];exact ⟨by decide,0,_,rfl,rfl⟩
       · have c4':¬(16:Int)<v:=by omega
         simp only [c4,c4',if_false]
         have:v=n:=by omega
         subst this
         exact ⟨_,rfl,rfl,rfl⟩
theorem number_p {N:Nat} (hN:s.size+20≤N) (hs:s.size≤100000) (hi:i≤s.size):RU (Rx.number s.data.toList i) (r13_number_g N s i):=by
 unfold r13_number_g Rx.number
 exact digits_from N i 0 0 (Nat.le_refl _) hi (by omega) (by omega) (by omega) (by omega) (.inl ⟨by omega,rfl⟩) hs
end
end Pl
end Go.Proofs.YtpplemjjeefpdaaGreatDoor
