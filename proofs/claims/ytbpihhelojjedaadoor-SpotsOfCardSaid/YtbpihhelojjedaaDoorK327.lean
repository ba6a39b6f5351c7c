/- Texts that the proof leans on. -/
import Derived.Test.YtbpihhelojjedaaDoorK326
set_option linter.unusedVariables false
set_option linter.unusedSimpArgs false
set_option maxRecDepth 100000
set_option maxHeartbeats 4000000
namespace Go.Proofs.YtbpihhelojjedaaDoor
open Go Go.RowKit
namespace Ab
section
variable {P:Program} {A:Run} {L:TypeId→Option Lt} {all:List Oper} {n:Nat}
abbrev Stp:=Nat→St→(St→Prop)→Prop
def Goes (S:Stp) (i:Nat) (s s':St):Prop:=∀k:St→Prop,k s'→S i s k
structure StpOk (S:Stp) (all:List Oper) (n:Nat):Prop where
 val:∀i s k,S i s k→∃s',k s'∧Goes S i s s'
 comm:∀l i j oi oj s s1 s2,HeadInv .any all.toArray n l→i∈Region.ready .any all.toArray l→j∈Region.ready .any all.toArray l→i<n→j<n→i≠j→all[i]?=some oi→all[j]?=some oj→oi.apart all.toArray oj=true→Goes S i s s1→Goes S j s1 s2→∃s3,Goes S j s s3∧Goes S i s3 s2
def AnyW (S:Stp) (all:List Oper) (n:Nat) (Lq:Array Bool→St→Prop):Nat→Array Bool→St→Prop
 | 0,l,s=>Lq l s
 | f+1,l,s=>Region.ready .any all.toArray l≠[]∧∀i∈Region.ready .any all.toArray l,i<n∧S i s fun s'=>AnyW S all n Lq f (l.setIfInBounds i true) s'
def runW (S:Stp) (K:St→Prop):Nat→Nat→St→Prop
 | _,0,s=>K s
 | k,m+1,s=>S k s fun s'=>runW S K (k+1) m s'
theorem AnyW.first {S:Stp} (hS:StpOk S all n) {Lq:Array Bool→St→Prop} {i:Nat} {oi:Oper} (hi:all[i]?=some oi) (hin:i<n)
 (hwait:∀l:Array Bool,HeadInv .any all.toArray n l→l.getD i true=false→∀j∈Region.ready .any all.toArray l,j<n) (hL:∀l s,Lq l s→∀j∈Region.ready .any all.toArray l,n≤j):
 ∀ (f:Nat) (l:Array Bool) (s s1:St),HeadInv .any all.toArray n l→
   (∀j oj,all[j]?=some oj→j≠i→l.getD j true=false→(∀e∈oj.after,Region.binds .any e=true→e.on≠i)→oi.apart all.toArray oj=true)→i∈Region.ready .any all.toArray l→
   Goes S i s s1→AnyW S all n Lq f (l.setIfInBounds i true) s1→AnyW S all n Lq (f+1) l s:=by
 intro f
 induction f with
 | zero=>
   intro l s s1 inv free hr hy H
   have un:=(mem_ready.1 hr).1
   refine ⟨fun e=>by simp [e] at hr,fun j hj=>?_⟩
   have jn:=hwait l inv un j hj
   refine ⟨jn,?_⟩
   by_cases e:j=i
   · subst e;exact hy _ H
   · exact absurd (hL _ _ H j (ready_mono hj e)) (by omega)
 | succ f ih=>
   intro l s s1 inv free hr hy H
   have un:=(mem_ready.1 hr).1
   refine ⟨fun e=>by simp [e] at hr,fun j hj=>?_⟩
   have jn:=hwait l inv un j hj
   refine ⟨jn,?_⟩
   by_cases e:j=i
   · subst e;exact hy _ H
   · obtain ⟨unj,oj,hoj,done⟩:=mem_ready.1 hj
     rw [List.getElem?_toArray] at hoj
     have no:∀e∈oj.after,Region.binds .any e=true→e.on≠i:=fun e he hb h=>by
      have h1:=done e he hb
      rw [h,getD_both un] at h1
      cases h1
     have hap:=free j oj hoj e unj no
     obtain ⟨s2,h3,h4⟩:=hS.val _ _ _ (H.2 j (ready_mono hj e)).2
     obtain ⟨s3,g1,g2⟩:=hS.comm l i j oi oj s s1 s2 inv hr hj hin jn (Ne.symm e) hi hoj hap hy h4
     refine g1 _ ?_
     refine ih _ _ s2 (inv.set hj jn) (fun k ok hk hki hun hno=>?_) (ready_mono hr (Ne.symm e)) g2 ?_
     · refine free k ok hk hki ?_ hno
       by_cases ejk:j=k
       · subst ejk;exact unj
       · rw [getD_set_ne true ejk] at hun;exact hun
     · rw [Array.setIfInBounds_comm _ _ (Ne.symm e)] at h3
       exact h3
theorem AnyW.head {S:Stp} (hS:StpOk S all n) {K:St→Prop} {g:Nat} (hns:Region.noSelect all.toArray=true) (hs:Region.sinkB .any all.toArray n=true) (hc:Region.chainB .any all.toArray n=true) (hn:n<all.length):
 ∀ (m k:Nat) (l:Array Bool) (s:St),k+m=n→HeadInv .any all.toArray n l→Region.lexHead .any all.toArray g m k l=true→
   runW S K k m s→AnyW S all n (fun l s=>Region.seqB .any all.toArray g n l=true∧K s) m l s:=by
 have hn':n<all.toArray.size:=by simpa using hn
 intro m
 induction m with
 | zero=>
   intro k l s hk _ hB h
   obtain rfl:k=n:=by simpa using hk
   exact ⟨by simpa [Region.lexHead] using hB,h⟩
 | succ m ih=>
   intro k l s hk inv hB h
   have hkl:k<all.length:=by omega
   have h0:all[k]?=some all[k]:=List.getElem?_eq_getElem hkl
   simp only [Region.lexHead,Bool.and_eq_true] at hB
   obtain ⟨⟨hr,hf⟩,hB'⟩:=hB
   have hr':k∈Region.ready .any all.toArray l:=by simpa using hr
   obtain ⟨s1,hK,hy⟩:=hS.val _ _ _ h
   refine AnyW.first hS h0 (by omega) (fun l inv un j hj=>?_) (fun l s hL=>seqB_ready hL.1) m l s s1 inv (fun j oj hj=>Region.free_spec (by rw [List.getElem?_toArray];exact h0) hf j oj (by rw [List.getElem?_toArray];exact hj)) hr' hy ?_
   · exact Nat.lt_of_not_le fun h=>tail_waits hs hc hn' inv _ k rfl (by omega) un j h hj
   · exact ih (k+1) _ _ (by omega) (inv.set hr' (by omega)) hB' hK
def depB (all:List Oper):Nat→Nat→Nat→Bool
 | 0,_,_=>false
 | f+1,i,j=>match all[j]? with
   | some o=>o.after.any fun e=>Region.binds .any e&&(e.on==i||depB all f i e.on)
   | none=>false
theorem dep_listed {l:Array Bool} (inv:HeadInv .any all.toArray n l):∀(f i j:Nat),l.getD j false=true→depB all f i j=true→l.getD i false=true:=by
 intro f
 induction f with
 | zero=>intro i j _ h;cases h
 | succ f ih=>
   intro i j hj h
   simp only [depB] at h
   split at h
   case h_2=>cases h
   rename_i o ho
   obtain ⟨e,he,h⟩:=Array.any_eq_true'.1 h
   simp only [Bool.and_eq_true,Bool.or_eq_true,beq_iff_eq] at h
   have h1:=inv.closed j o (by rw [List.getElem?_toArray];exact ho) hj e he h.1
   rcases h.2 with h2 | h2
   · rw [←h2];exact h1
   · exact ih i e.on h1 h2
theorem dep_ready {l:Array Bool} (inv:HeadInv .any all.toArray n l) {f i j:Nat} (hj:j∈Region.ready .any all.toArray l) (h:depB all f i j=true):i∉Region.ready .any all.toArray l:=by
 intro hi
 have un:=(mem_ready.1 hi).1
 obtain ⟨-,o,ho,done⟩:=mem_ready.1 hj
 rw [List.getElem?_toArray] at ho
 cases f with
 | zero=>cases h
 | succ f=>
   simp only [depB,ho] at h
   obtain ⟨e,he,h⟩:=Array.any_eq_true'.1 h
   simp only [Bool.and_eq_true,Bool.or_eq_true,beq_iff_eq] at h
   have h1:=done e he h.1
   have h2:l.getD i false=true:=by
    rcases h.2 with h2 | h2
    · rw [←h2];exact h1
    · exact dep_listed inv f i e.on h1 h2
   rw [getD_both un] at h2
   cases h2
end
def okV:V→Bool
 | .t _=>true
 | .ptr _ _=>true
 | .agg cs=>cs.all fun c=>match c with | .t _=>true | _=>false
 | _=>false
structure Fx where
 κ:V→V
 φ:List (Option Row)→List (Option Row)
 v:V
 cond:List V→List (Option Row)→Prop
 ok:∀u,okV (κ u)=true→κ u=u
 junk:κ .junk=.junk
 len:∀h,(φ h).length=h.length
def Fx.st (F:Fx) (s:St) (d:Option Tmp):St:=(⟨s.tmps.map F.κ,F.φ s.heap,s.base⟩:St).put d F.v
def maskEq:List (Option Row)→List (Option Row)→Prop
 | [],_=>True
 | none::l,_::m=>maskEq l m
 | some r::l,x::m=>x=some r∧maskEq l m
 | _::_,[]=>False
theorem maskEq_get:∀{l m:List (Option Row)} {id:Nat} {r:Row},maskEq l m→l[id]?=some (some r)→m[id]?=some (some r)
 | [],_,_,_,_,h=>by simp at h
 | none::l,x::m,0,_,_,h=>by simp at h
 | none::l,x::m,id+1,r,hm,h=>by simpa using maskEq_get (l:=l) (m:=m) hm (by simpa using h)
 | some y::l,x::m,0,r,hm,h=>by simp at h;subst h;simpa using hm.1
 | some y::l,x::m,id+1,r,hm,h=>by simpa using maskEq_get (l:=l) (m:=m) hm.2 (by simpa using h)
 | none::_,[],_,_,hm,_=>hm.elim
 | some _::_,[],_,_,hm,_=>hm.elim
def allP {α:Type} (p:α→Prop):List α→Prop
 | []=>True
 | x::l=>p x∧allP p l
theorem allP_mem {α:Type} {p:α→Prop}:∀{l:List α},allP p l→∀x∈l,p x
 | [],_,x,h=>by cases h
 | y::l,h,x,hx=>by
   rcases List.mem_cons.1 hx with rfl | hx
   · exact h.1
   · exact allP_mem h.2 x hx
theorem allP_of {α:Type} {p:α→Prop}:∀{l:List α},(∀x∈l,p x)→allP p l
 | [],_=>trivial
 | y::l,h=>⟨h y List.mem_cons_self,allP_of fun x hx=>h x (List.mem_cons_of_mem _ hx)⟩
def fxAt:List (Nat × Fx)→Nat→Option Fx
 | [],_=>none
 | (j,F)::l,i=>match Nat.beq j i with
   | true=>some F
   | false=>fxAt l i
theorem fxAt_mem:∀{l:List (Nat × Fx)} {i:Nat} {F:Fx},fxAt l i=some F→(i,F)∈l
 | [],_,_,h=>by cases h
 | (j,G)::l,i,F,h=>by
   simp only [fxAt] at h
   split at h
   · rename_i hb;simp at hb;cases h;subst hb;exact List.mem_cons_self
   · exact List.mem_cons_of_mem _ (fxAt_mem h)
def stpW (E:Env) (L:TypeId→Option Lt) (all:List Oper) (base:Nat) (fx:List (Nat × Fx)) (com:List Nat) (hpB:List (Option Row)):Stp:=fun i s k=>
 match all[i]? with
 | none=>False
 | some o=>match fxAt fx i with
   | some F=>o.guard=none∧F.cond (o.op.operands.toList.map s.ev) s.heap∧maskEq hpB (F.φ s.heap)∧k (F.st s o.dst)
   | none=>match com.contains i with
     | true=>o.guard=none∧allP (fun x=>okV (s.ev x)=true∧allP (fun F=>F.2.κ (s.ev x)=s.ev x) fx) o.op.operands.toList∧evC E L o s.ev hpB (base+all.length) fun v r=>r=none∧okV v=true∧allP (fun F=>F.2.κ v=v) fx∧k (s.put o.dst v)
     | false=>opV E L all base i s fun v r=>k (s.add (dstOf all i) v (base+i) r)
def chkW (all:List Oper) (n:Nat) (fx:List (Nat × Fx)) (com:List Nat):Bool:=
 (List.range n).all fun i=>(List.range n).all fun j=>i==j|| !(fx.map (·.1)).contains j||(com.contains i&& !(fx.map (·.1)).contains i)||depB all n i j||depB all n j i
section
variable {P:Program} {A:Run} {L:TypeId→Option Lt} {all:List Oper} {n base:Nat} {fx:List (Nat × Fx)} {com:List Nat} {hpB:List (Option Row)}
theorem fxAt_none:∀{l:List (Nat × Fx)} {i:Nat},(l.map (·.1)).contains i=false→fxAt l i=none
 | [],_,_=>rfl
 | (j,F)::l,i,h=>by
   simp only [List.map_cons,List.contains_cons,Bool.or_eq_false_iff] at h
   have hb:Nat.beq j i=false:=by
    cases hb:Nat.beq j i with
    | false=>rfl
    | true=>simp at hb;subst hb;simp at h
   simp only [fxAt,hb]
   exact fxAt_none h.2
theorem chk_get (h:chkW all n fx com=true) {i j:Nat} (hi:i<n) (hj:j<n) (hij:i≠j) {F:Fx} (hF:fxAt fx j=some F):(com.contains i=true∧fxAt fx i=none)∨depB all n i j=true∨depB all n j i=true:=by
 have hc:(fx.map (·.1)).contains j=true:=by
  cases hc:(fx.map (·.1)).contains j with
  | true=>rfl
  | false=>rw [fxAt_none hc] at hF;cases hF
 have h1:=List.all_eq_true.1 (List.all_eq_true.1 h i (List.mem_range.2 hi)) j (List.mem_range.2 hj)
 simp only [Bool.or_eq_true,beq_iff_eq,hc,Bool.not_true,Bool.false_eq_true,or_false,Bool.and_eq_true,Bool.not_eq_true'] at h1
 rcases h1 with ((h1 | h1) | h1) | h1
 · exact absurd h1 hij
 · exact .inl ⟨h1.1,fxAt_none h1.2⟩
 · exact .inr (.inl h1)
 · exact .inr (.inr h1)
theorem goes_fx {i:Nat} {o:Oper} {F:Fx} {s s':St} (ho:all[i]?=some o) (hF:fxAt fx i=some F):Goes (stpW (dom P A) L all base fx com hpB) i s s'↔o.guard=none∧F.cond (o.op.operands.toList.map s.ev) s.heap∧maskEq hpB (F.φ s.heap)∧F.st s o.dst=s':=by
 constructor
 · intro h
   have:=h (·=s') rfl
   simpa only [stpW,ho,hF] using this
 · rintro ⟨h1,h2,h3,rfl⟩ k hk
   simp only [stpW,ho,hF]
   exact ⟨h1,h2,h3,hk⟩
def Evs (E:Env) (L:TypeId→Option Lt) (o:Oper) (ρ:Operand→V) (hp:List (Option Row)) (aid:Nat) (v:V) (r:Option Row):Prop:=∀k2:V→Option Row→Prop,k2 v r→evC E L o ρ hp aid k2
theorem goes_com {i:Nat} {o:Oper} {s s':St} (ho:all[i]?=some o) (hF:fxAt fx i=none) (hc:com.contains i=true):Goes (stpW (dom P A) L all base fx com hpB) i s s'↔o.guard=none∧allP (fun x=>okV (s.ev x)=true∧allP (fun F=>F.2.κ (s.ev x)=s.ev x) fx) o.op.operands.toList∧∃v,Evs (dom P A) L o s.ev hpB (base+all.length) v none∧okV v=true∧allP (fun F=>F.2.κ v=v) fx∧s.put o.dst v=s':=by
 constructor
 · intro h
   have:=h (·=s') rfl
   simp only [stpW,ho,hF,hc] at this
   obtain ⟨h1,h2,h3⟩:=this
   obtain ⟨v,r,⟨rfl,h4,h5,h6⟩,h7⟩:=evC_val ⟨P,A,rfl⟩ h3
   exact ⟨h1,h2,v,h7,h4,h5,h6⟩
 · rintro ⟨h1,h2,v,h3,h4,h5,rfl⟩ k hk
   simp only [stpW,ho,hF,hc]
   exact ⟨h1,h2,h3 _ ⟨rfl,h4,h5,hk⟩⟩
theorem goes_flt {i:Nat} {o:Oper} {s s':St} (ho:all[i]?=some o) (hF:fxAt fx i=none) (hc:com.contains i=false):Goes (stpW (dom P A) L all base fx com hpB) i s s'↔∃v r,(∀k2:V→Option Row→Prop,k2 v r→opV (dom P A) L all base i s k2)∧s.add (dstOf all i) v (base+i) r=s':=by
 constructor
 · intro h
   have:=h (·=s') rfl
   simp only [stpW,ho,hF,hc] at this
   obtain ⟨v,r,h1,h2⟩:=opV_val this
   exact ⟨v,r,h2,h1⟩
 · rintro ⟨v,r,h1,rfl⟩ k hk
   simp only [stpW,ho,hF,hc]
   exact h1 _ hk
theorem ev_put {s:St} {d:Option Tmp} {v:V} {x:Operand} (h:∀t,x=.tmp t→d≠some t):(s.put d v).ev x=s.ev x:=by
 cases x with
 | tmp t=>
   have:=h t rfl
   show (s.put d v).tmps.getD t .junk=s.tmps.getD t .junk
   have h2:=add_look (s:=s) (d:=d) (v:=v) (aid:=0) (r:=none) (t:=t) this
   simpa [St.add,St.lay] using h2
 | const c=>rfl
 | global g=>rfl
 | func f=>rfl
theorem looks_of {o:Oper} {x:Operand} {t:Tmp} (hx:x∈o.op.operands.toList) (e:x=.tmp t):t∈o.looksAt all.toArray:=by
 subst e
 unfold Oper.looksAt
 exact List.mem_append.2 (.inl (List.mem_filterMap.2 ⟨.tmp t,by simpa using hx,rfl⟩))
theorem ev_map {s:St} {κ:V→V} (hk:κ .junk=.junk) (t:Tmp):(s.tmps.map κ).getD t .junk=κ (s.tmps.getD t .junk):=by
 rw [List.getD_eq_getElem?_getD,List.getD_eq_getElem?_getD,List.getElem?_map]
 cases s.tmps[t]? with
 | none=>simp [hk]
 | some v=>rfl
theorem put_put {s:St} {d d':Option Tmp} {v v':V} (h:∀t,d=some t→d'≠some t):(s.put d v).put d' v'=(s.put d' v').put d v:=by
 cases d<;>cases d'<;>try rfl
 rename_i a b
 simp only [St.put]
 rw [List.set_comm _ _ (fun e=>h a rfl (by rw [e]))]
theorem fx_put {F:Fx} {s:St} {d d':Option Tmp} {v:V} (hv:F.κ v=v) (h:∀t,d=some t→d'≠some t):F.st (s.put d v) d'=(F.st s d').put d v:=by
 unfold Fx.st
 have e:(⟨(s.put d v).tmps.map F.κ,F.φ (s.put d v).heap,(s.put d v).base⟩:St)=(⟨s.tmps.map F.κ,F.φ s.heap,s.base⟩:St).put d v:=by
  cases d with
  | none=>rfl
  | some d=>simp only [St.put,List.map_set,hv]
 rw [e,put_put h]
theorem fx_ev {F:Fx} {s:St} {d:Option Tmp} {x:Operand} (h:∀t,x=.tmp t→d≠some t) (hx:F.κ (s.ev x)=s.ev x):(F.st s d).ev x=s.ev x:=by
 unfold Fx.st
 rw [ev_put h]
 cases x with
 | tmp t=>exact (ev_map F.junk t).trans hx
 | const c=>rfl
 | global g=>rfl
 | func f=>rfl
theorem fx_ev' {F:Fx} {s:St} {d:Option Tmp} {x:Operand} (h:∀t,x=.tmp t→d≠some t) (hx:okV ((F.st s d).ev x)=true):(F.st s d).ev x=s.ev x:=by
 unfold Fx.st at hx ⊢
 rw [ev_put h] at hx ⊢
 cases x with
 | tmp t=>
   have e:(⟨s.tmps.map F.κ,F.φ s.heap,s.base⟩:St).ev (.tmp t)=F.κ (s.ev (.tmp t)):=ev_map F.junk t
   rw [e] at hx ⊢
   exact F.ok _ hx
 | const c=>rfl
 | global g=>rfl
 | func f=>rfl
theorem evs_congr {o:Oper} {ρ ρ':Operand→V} {hp:List (Option Row)} {aid:Nat} {v:V} {r:Option Row} (h:Evs (dom P A) L o ρ hp aid v r) (e:∀x∈o.op.operands,ρ x=ρ' x):Evs (dom P A) L o ρ' hp aid v r:=fun k hk=>by
 rw [←evC_congr e];exact h k hk
theorem ev_looks {o:Oper} {s s':St} (h:∀t,t∈o.looksAt all.toArray→s'.tmps.getD t .junk=s.tmps.getD t .junk):∀x∈o.op.operands.toList,s'.ev x=s.ev x:=fun x hx=>by
 cases x with
 | tmp t=>exact h t (looks_of hx rfl)
 | const c=>rfl
 | global g=>rfl
 | func f=>rfl
theorem flt_pack {i:Nat} {o:Oper} {s s1:St} (ho:all[i]?=some o) (hF:fxAt fx i=none) (h:Goes (stpW (dom P A) L all base fx com hpB) i s s1):∃v r,s1=s.add o.dst v (base+i) r∧∀s':St,(∀t,t∈o.looksAt all.toArray→s'.tmps.getD t .junk=s.tmps.getD t .junk)→s'.heap.take base=s.heap.take base→Goes (stpW (dom P A) L all base fx com hpB) i s' (s'.add o.dst v (base+i) r):=by
 have d0:dstOf all i=o.dst:=by unfold dstOf gslot;rw [ho]
 cases hc:com.contains i with
 | true=>
   obtain ⟨k1,k2,v,k3,k4,k5,rfl⟩:=(goes_com ho hF hc).1 h
   refine ⟨v,none,rfl,fun s' hl _=>(goes_com ho hF hc).2 ⟨k1,allP_of fun x hx=>?_,v,evs_congr k3 (fun x hx=>(ev_looks hl x (by simpa using hx)).symm),k4,k5,rfl⟩⟩
   rw [ev_looks hl x hx]
   exact allP_mem k2 x hx
 | false=>
   obtain ⟨v,r,k1,rfl⟩:=(goes_flt ho hF hc).1 h
   refine ⟨v,r,by rw [d0],fun s' hl hh=>(goes_flt ho hF hc).2 ⟨v,r,fun k2 hk=>?_,by rw [d0]⟩⟩
   rw [←opV_congr ho hl hh]
   exact k1 k2 hk
theorem stpW_ok (hk:chkW all n fx com=true):StpOk (stpW (dom P A) L all base fx com hpB) all n:=by
 constructor
 · intro i s k h
   cases ho:all[i]? with
   | none=>simp only [stpW,ho] at h
   | some o=>
     cases hF:fxAt fx i with
     | some F=>
       simp only [stpW,ho,hF] at h
       exact ⟨_,h.2.2.2,(goes_fx ho hF).2 ⟨h.1,h.2.1,h.2.2.1,rfl⟩⟩
     | none=>
       cases hc:com.contains i with
       | true=>
         simp only [stpW,ho,hF,hc] at h
         obtain ⟨h1,h2,h3⟩:=h
         obtain ⟨v,r,⟨rfl,h4,h5,h6⟩,h7⟩:=evC_val ⟨P,A,rfl⟩ h3
         exact ⟨_,h6,(goes_com ho hF hc).2 ⟨h1,h2,v,h7,h4,h5,rfl⟩⟩
       | false=>
         simp only [stpW,ho,hF,hc] at h
         obtain ⟨v,r,h1,h2⟩:=opV_val h
         exact ⟨_,h1,(goes_flt ho hF hc).2 ⟨v,r,h2,rfl⟩⟩
 · intro l i j oi oj s s1 s2 inv hri hrj hin hjn hij hi hj hap h1 h2
   obtain ⟨a1,a2,a3⟩:=Oper.apart_spec hap
   have di:dstOf all i=oi.dst:=by unfold dstOf gslot;rw [hi]
   have dj:dstOf all j=oj.dst:=by unfold dstOf gslot;rw [hj]
   have xi:∀x∈oi.op.operands.toList,∀t,x=.tmp t→oj.dst≠some t:=fun x hx t e hd=>a3 t hd (looks_of hx e)
   have xj:∀x∈oj.op.operands.toList,∀t,x=.tmp t→oi.dst≠some t:=fun x hx t e hd=>a1 t hd (looks_of hx e)
   have both:∀F,fxAt fx j=some F→com.contains i=true∧fxAt fx i=none:=fun F hF=>by
    rcases chk_get hk hin hjn hij hF with h | h | h
    · exact h
    · exact absurd hri (dep_ready inv hrj h)
    · exact absurd hrj (dep_ready inv hri h)
   have both':∀F,fxAt fx i=some F→com.contains j=true∧fxAt fx j=none:=fun F hF=>by
    rcases chk_get hk hjn hin (Ne.symm hij) hF with h | h | h
    · exact h
    · exact absurd hrj (dep_ready inv hri h)
    · exact absurd hri (dep_ready inv hrj h)
   cases hFi:fxAt fx i with
   | some F=>
     obtain ⟨cj,hFj⟩:=both' F hFi
     obtain ⟨g1,g2,g3,rfl⟩:=(goes_fx hi hFi).1 h1
     obtain ⟨k1,k2,v,k3,k4,k5,rfl⟩:=(goes_com hj hFj cj).1 h2
     have ev:∀x∈oj.op.operands.toList,(F.st s oi.dst).ev x=s.ev x:=fun x hx=>fx_ev' (xj x hx) (allP_mem k2 x hx).1
     have hv:F.κ v=v:=allP_mem k5 _ (fxAt_mem hFi)
     refine ⟨s.put oj.dst v,(goes_com hj hFj cj).2 ⟨k1,allP_of fun x hx=>?_,v,evs_congr k3 (fun x hx=>ev x (by simpa using hx)),k4,k5,rfl⟩,(goes_fx hi hFi).2 ⟨g1,?_,?_,?_⟩⟩
     · have:=allP_mem k2 x hx
       rw [ev x hx] at this
       exact this
     · rw [put_heap,List.map_congr_left (g:=s.ev) fun x hx=>ev_put (xi x hx)]
       exact g2
     · rw [put_heap];exact g3
     · exact fx_put hv fun t e e'=>a2 t e' e
   | none=>
     cases hFj:fxAt fx j with
     | some F=>
       obtain ⟨ci,-⟩:=both F hFj
       obtain ⟨k1,k2,v,k3,k4,k5,rfl⟩:=(goes_com hi hFi ci).1 h1
       obtain ⟨g1,g2,g3,rfl⟩:=(goes_fx hj hFj).1 h2
       have hv:F.κ v=v:=allP_mem k5 _ (fxAt_mem hFj)
       have ev:∀x∈oi.op.operands.toList,(F.st s oj.dst).ev x=s.ev x:=fun x hx=>fx_ev (xi x hx) (allP_mem (allP_mem k2 x hx).2 _ (fxAt_mem hFj))
       rw [put_heap] at g2 g3
       rw [List.map_congr_left (g:=s.ev) fun x hx=>ev_put (xj x hx)] at g2
       refine ⟨F.st s oj.dst,(goes_fx hj hFj).2 ⟨g1,g2,g3,rfl⟩,(goes_com hi hFi ci).2 ⟨k1,allP_of fun x hx=>?_,v,evs_congr k3 (fun x hx=>(ev x (by simpa using hx)).symm),k4,k5,?_⟩⟩
       · have:=allP_mem k2 x hx
         rw [ev x hx]
         exact this
       · exact (fx_put hv fun t e e'=>a2 t e e').symm
     | none=>
       obtain ⟨v,r,rfl,f1⟩:=flt_pack hi hFi h1
       obtain ⟨v',r',rfl,f2⟩:=flt_pack hj hFj h2
       refine ⟨s.add oj.dst v' (base+j) r',f2 s (fun t ht=>(add_look fun hd=>a1 t hd ht).symm) add_heap.symm,?_⟩
       rw [add_comm' (fun t hd hd'=>a2 t hd hd') hij]
       exact f1 _ (fun t ht=>add_look fun hd=>a3 t hd ht) add_heap
theorem maskEq_of:∀{l m m':List (Option Row)},maskEq l m→(∀i,i<l.length→m'[i]?=m[i]?)→maskEq l m'
 | [],_,_,_,_=>trivial
 | none::l,x::m,m',h,e=>by
   cases m' with
   | nil=>have:=e 0 (by simp);simp at this
   | cons y m'=>exact maskEq_of (l:=l) (m:=m) (m':=m') h fun i hi=>by simpa using e (i+1) (by simpa using hi)
 | some r::l,x::m,m',h,e=>by
   cases m' with
   | nil=>have:=e 0 (by simp);simp at this
   | cons y m'=>
     have e0:=e 0 (by simp)
     simp at e0
     exact ⟨e0.trans h.1,maskEq_of (l:=l) (m:=m) (m':=m') h.2 fun i hi=>by simpa using e (i+1) (by simpa using hi)⟩
 | none::_,[],_,h,_=>h.elim
 | some _::_,[],_,h,_=>h.elim
theorem maskEq_app {l m m':List (Option Row)} (h:maskEq l m):maskEq l (m++m'):=by
 refine maskEq_of h fun i hi=>?_
 have hl:∀{l m:List (Option Row)},maskEq l m→l.length≤m.length:=fun {l m} h=>by
  induction l generalizing m with
  | nil=>simp
  | cons x l ih=>
    cases m with
    | nil=>cases x<;>exact h.elim
    | cons y m=>cases x with
      | none=>simpa using ih (m:=m) h
      | some r=>simpa using ih (m:=m) h.2
 rw [List.getElem?_append_left (Nat.lt_of_lt_of_le hi (hl h))]
theorem maskEq_add {s:St} {d:Option Tmp} {v:V} {i:Nat} {r:Option Row} (hlen:hpB.length≤base) (h:maskEq hpB s.heap):maskEq hpB (s.add d v (base+i) r).heap:=by
 refine maskEq_of h fun j hj=>?_
 unfold St.add
 cases r with
 | none=>simp only [St.lay,put_heap]
 | some r=>simp only [St.lay,put_heap];rw [List.getElem?_set_ne (by omega)]
def RelW (A:Run) (all:List Oper) (base:Nat) (fx:List (Nat × Fx)) (hpB:List (Option Row)) (l:Array Bool) (cx:Cx) (s:St) (a:Act) (w:World):Prop:=
 Rel A cx s a w∧s.heap.length=base+all.length∧maskEq hpB s.heap∧((∀i F,fxAt fx i=some F→l.getD i true=false)→∀i,i<all.length→l.getD i true=false→cx.at_ (base+i)=none)
def chkF (all:List Oper) (n:Nat) (fx:List (Nat × Fx)) (com:List Nat):Bool:=
 (List.range n).all fun i=>com.contains i||(fx.map (·.1)).contains i||(fx.map (·.1)).all fun j=>depB all n i j
theorem set_other {l:Array Bool} {i j:Nat} (h:(l.setIfInBounds i true).getD j true=false) (hi:i<l.size):j≠i∧l.getD j true=false:=by
 by_cases e:i=j
 · subst e
   have h1:(l.setIfInBounds i true)[i]?=some true:=Array.getElem?_setIfInBounds_self_of_lt hi
   rw [Array.getD_eq_getD_getElem?,h1] at h
   cases h
 · rw [getD_set_ne true e] at h;exact ⟨Ne.symm e,h⟩
theorem put_st (s:St) (d:Option Tmp) (v:V):(⟨(s.put d v).tmps,s.heap,s.base⟩:St)=s.put d v:=by cases d<;>rfl
theorem stpW_wp (hL:LayOk P L) (hk2:chkF all n fx com=true) (hsd:∀i o F,all[i]?=some o→fxAt fx i=some F→∀(s:St) (k:St→Prop),F.cond (o.op.operands.toList.map s.ev) s.heap→k (F.st s o.dst)→pop (dom P A) L o s k) (hlen:hpB.length≤base)
 {l:Array Bool} {i:Nat} {s:St} {k:St→Prop} {cx:Cx} {a:Act} {w:World} {next:Act→World→Prop} {Q:Exit→Act→World→Prop} (inv:HeadInv .any all.toArray n l) (hi:i∈Region.ready .any all.toArray l) (hin:i<n) (R:RelW A all base fx hpB l cx s a w) (h:stpW (dom P A) L all base fx com hpB i s k)
 (hn:∀s' cx' a' w',k s'→RelW A all base fx hpB (l.setIfInBounds i true) cx' s' a' w'→next a' w') (hp:∀ch a w,PanAt A a ch w→Q (.panic ch) a w):wpOp P all.toArray Q i next a w:=by
 obtain ⟨hun,oi,hoi,-⟩:=mem_ready.1 hi
 rw [List.getElem?_toArray] at hoi
 have hil:i<all.length:=(List.getElem?_eq_some_iff.1 hoi).1
 have hls:i<l.size:=by rw [inv.size];simpa using hil
 unfold wpOp
 rw [List.getElem?_toArray,hoi]
 simp only
 obtain ⟨R,hlh,hm,hat⟩:=R
 cases hF:fxAt fx i with
 | some F=>
   simp only [stpW,hoi,hF] at h
   obtain ⟨hg,hc,hm2,hk⟩:=h
   have hop:guarded (dom P A) all oi s (fun _=>True) (fun _=>False):=by unfold guarded;rw [hg];trivial
   rcases guarded_wp R.tm hop with ⟨hw,-⟩ | ⟨-,hc⟩
   case inr=>exact hc.elim
   rw [if_pos hw]
   refine .inl (pop_wp hL R (hsd i oi F hoi hF s (fun s'=>k s'∧s'=F.st s oi.dst) hc ⟨hk,rfl⟩) _ _ (fun s' cx' a' w' hks R'=>?_) fun ch w' h=>hp ch a w' h)
   obtain ⟨hks,rfl⟩:=hks
   have hh:(F.st s oi.dst).heap=F.φ s.heap:=by unfold Fx.st;rw [put_heap]
   refine hn _ cx' a' w' hks ⟨R',by rw [hh,F.len];exact hlh,by rw [hh];exact hm2,fun hne=>?_⟩
   exact absurd rfl (set_other (hne i F hF) hls).1
 | none =>
   cases hc:com.contains i with
   | true=>
     simp only [stpW,hoi,hF,hc] at h
     obtain ⟨hg,-,hev⟩:=h
     have hop:guarded (dom P A) all oi s (fun _=>True) (fun _=>False):=by unfold guarded;rw [hg];trivial
     rcases guarded_wp R.tm hop with ⟨hw,-⟩ | ⟨-,hc⟩
     case inr=>exact hc.elim
     rw [if_pos hw]
     refine .inl ?_
     have h0:cx.at_ (base+all.length)=none:=R.hp.dom _ (by omega)
     refine evC_wp hL (eyes_of R.tm) (fun id r hr=>R.hp.row id r (maskEq_get hm (getD_row hr))) h0 R.kp.G1 R.kp.tab hev _ _ fun v row u w' cx' hk X=>?_
     obtain ⟨rfl,-,-,hk⟩:=hk
     have R':=R.step X h0 oi.dst s.heap (fun id r hr=>.inl ⟨fun e=>by have:=(List.getElem?_eq_some_iff.1 hr).1;omega,hr⟩) (Nat.le_refl _) (by simp)
     rw [put_st] at R'
     refine hn _ cx' _ _ hk ⟨R',by rw [put_heap];exact hlh,by rw [put_heap];exact hm,fun hne j hj hl=>?_⟩
     rw [X.at_ _ (by omega)]
     exact hat (fun e F h=>(set_other (hne e F h) hls).2) j hj (set_other hl hls).2
   | false =>
     simp only [stpW,hoi,hF,hc] at h
     have hdi:dstOf all i=oi.dst:=by unfold dstOf gslot;rw [hoi]
     have nof : ∀e F,fxAt fx e=some F→l.getD e true=false:=fun e F he=>by
      cases hle:l.getD e true with
      | false=>rfl
      | true =>
        have hmem:(fx.map (·.1)).contains e=true:=by
         cases hx:(fx.map (·.1)).contains e with
         | true=>rfl
         | false=>rw [fxAt_none hx] at he;cases he
        have hno:(fx.map (·.1)).contains i=false:=by
         cases hx:(fx.map (·.1)).contains i with
         | false=>rfl
         | true =>
           exfalso
           obtain ⟨p,hp1,hp2⟩:=List.mem_map.1 (List.contains_iff_mem.1 hx)
           have :∀{m:List (Nat × Fx)},p∈m→fxAt m i≠none:=fun {m} hm=>by
            induction m with
            | nil=>cases hm
            | cons q m ih=>
              simp only [fxAt]
              split
              · simp
              · rename_i hb
                rcases List.mem_cons.1 hm with rfl | hm
                · rw [hp2] at hb;simp at hb
                · exact ih hm
           exact this hp1 hF
        have h1:=List.all_eq_true.1 hk2 i (List.mem_range.2 hin)
        simp only [hc,hno,Bool.false_or] at h1
        have h2:=List.all_eq_true.1 h1 e (List.contains_iff_mem.1 hmem)
        have hle2:l.getD e false=true:=by
         cases hq:l.getD e false with
         | true=>rfl
         | false=>
           rcases Nat.lt_or_ge e l.size with hs | hs
           · rw [getD_in hs hq] at hle;cases hle
           · exfalso
             have hd:depB all n i e=true:=h2
             cases n with
             | zero=>cases hd
             | succ m=>
               simp only [depB] at hd
               rw [List.getElem?_eq_none (by rw [inv.size] at hs;simpa using hs)] at hd
               cases hd
        have h3:=dep_listed inv n i e hle2 h2
        rw [getD_both hun] at h3
        cases h3
     have h0:=hat nof i hil hun
     unfold opV at h
     rw [hoi] at h
     simp only at h
     rcases guarded_wp R.tm h with ⟨hw,hc⟩ | ⟨hw,hc⟩
     · rw [if_pos hw]
       refine .inl ?_
       refine evC_wp hL (eyes_of R.tm) (fun id r hr=>R.hp.row id r ?_) h0 R.kp.G1 R.kp.tab hc _ _ fun v row u w' cx' hk X=>?_
       · have h1:=getD_row hr
         rw [List.getElem?_take] at h1
         split at h1
         · exact h1
         · cases h1
       · refine hn _ cx' _ _ hk ⟨?_,?_,?_,?_⟩
         · rw [hdi,lay_eq]
           refine R.step X h0 oi.dst _ (fun id r hr=>?_) ?_ ?_
           · cases row with
             | none=>
               simp only at hr
               have hne:id≠base+i:=by
                rintro rfl
                have hR:=R.hp.row _ r hr
                cases hR with
                | box ty cs b vs hat=>rw [h0] at hat;cases hat
                | listN ty es z hat hz=>rw [h0] at hat;cases hat
                | list ty es rows b cap vs hat=>rw [h0] at hat;cases hat
                | iter s p b hat=>rw [h0] at hat;cases hat
                | map c rows b es clock hat=>rw [h0] at hat;cases hat
                | hole ty rows r kid b cap vs hat=>rw [h0] at hat;cases hat
               exact .inl ⟨hne,hr⟩
             | some r'=>
               simp only at hr
               by_cases e:base+i=id
               · subst e
                 have hlt:base+i<s.heap.length:=by omega
                 rw [List.getElem?_set_self hlt] at hr
                 cases hr
                 exact .inr ⟨rfl,rfl⟩
               · rw [List.getElem?_set_ne e] at hr
                 exact .inl ⟨Ne.symm e,hr⟩
           · cases row<;>simp
           · cases row with
             | none=>simp
             | some r=>intro _;simp only [List.length_set];omega
         · rw [add_len];exact hlh
         · exact maskEq_add hlen hm
         · intro hne j hj hl
           obtain ⟨hji,hl'⟩:=set_other hl hls
           rw [X.at_ _ (by omega)]
           exact hat nof j hj hl'
     · rw [if_neg (by simp [hw])]
       refine hn _ cx _ _ hc ⟨?_,?_,?_,?_⟩
       · rw [hdi]
         exact R.put (rep_undef cx w) oi.dst
       · rw [add_len];exact hlh
       · exact maskEq_add hlen hm
       · intro hne j hj hl
         exact hat nof j hj (set_other hl hls).2
theorem AnyW.any (hL:LayOk P L) (hk2:chkF all n fx com=true) (hsd:∀i o F,all[i]?=some o→fxAt fx i=some F→∀(s:St) (k:St→Prop),F.cond (o.op.operands.toList.map s.ev) s.heap→k (F.st s o.dst)→pop (dom P A) L o s k) (hlen:hpB.length≤base)
 {Lq:Array Bool→St→Prop} {Q:Exit→Act→World→Prop} {g:Nat} (hend:∀l s cx a w,Lq l s→Rel A cx s a w→wpAny P .any all.toArray Q g l a w) (hp:∀ch a w,PanAt A a ch w→Q (.panic ch) a w):
 ∀(f:Nat) (l:Array Bool) (s:St) cx a w,HeadInv .any all.toArray n l→RelW A all base fx hpB l cx s a w→AnyW (stpW (dom P A) L all base fx com hpB) all n Lq f l s→wpAny P .any all.toArray Q (f+g) l a w:=by
 intro f
 induction f with
 | zero=>intro l s cx a w _ R h;rw [Nat.zero_add];exact hend l s cx a w h R.1
 | succ f ih=>
   intro l s cx a w inv R h
   rw [show f+1+g=(f+g)+1 by omega]
   refine ⟨fun e=>absurd e h.1,fun i hi=>?_⟩
   obtain ⟨hin,hs⟩:=h.2 i hi
   exact stpW_wp hL hk2 hsd hlen inv hi hin R hs (fun s' cx' a' w' hk R'=>ih _ s' cx' a' w' (inv.set hi hin) R' hk) hp
theorem draw_fx (hL:LayOk P L) (hm:P.follows .mixedOrders=true) (n:Nat) {s:St} {K:St→Prop} (fx:List (Nat × Fx)) (com:List Nat) (hpB:List (Option Row)) (hB:Region.lexTailB .any all.toArray n=true) (hk:chkW all n fx com=true) (hk2:chkF all n fx com=true)
 (hsd:∀i o F,all[i]?=some o→fxAt fx i=some F→∀(s:St) (k:St→Prop),F.cond (o.op.operands.toList.map s.ev) s.heap→k (F.st s o.dst)→pop (dom P A) L o s k) (hlen:hpB.length≤s.heap.length) (hmask:maskEq hpB s.heap)
 (h:runW (stpW (dom P A) L all s.heap.length fx com hpB) (fun s'=>pops (dom P A) L all [] (all.drop n) s' K) 0 n (s.wide all.length)):(dom P A).draw all s K:=by
 intro id cx a w R
 simp only [Region.lexTailB,Bool.and_eq_true,decide_eq_true_eq] at hB
 obtain ⟨⟨⟨⟨hns,hn⟩,hs⟩,hc⟩,hlex⟩:=hB
 have hn':n<all.length:=by simpa using hn
 have hd:(all.drop n).length=all.toArray.size-n:=by simp
 refine wp_region_any hm ?_
 have H:=AnyW.head (g:=all.toArray.size-n) (stpW_ok (P:=P) (A:=A) (L:=L) (base:=s.heap.length) (hpB:=hpB) hk) hns hs hc hn' n 0 _ _ (by omega) (inv_start n) (by simpa using hlex) h
 have hmask2:maskEq hpB (s.wide all.length).heap:=maskEq_app hmask
 obtain ⟨r1,r2,r3⟩:=relD_start (all:=all) R
 have:=AnyW.any hL hk2 hsd hlen (Q:=Post A fun e s'=>e=.normal∧K s') (g:=all.toArray.size-n) (fun l s cx a w hq R=>by
  have h1:=pops_wp hL (Q:=Post A fun e s'=>e=.normal∧K s') (fun s cx a w hk hR=>.inl ⟨.normal,s,cx,trivial,⟨rfl,hk⟩,hR⟩) (fun ch a w h=>.inr ⟨ch,rfl,h⟩) _ [] s hq.2 cx a w R (kinv_nil a)
  have h2:=wpAny_of_seq (md:=.any) (all.drop n) n l a w (fun j=>by simp [List.getElem?_drop]) (by rw [hd];exact hq.1) h1
  rwa [hd] at h2) (fun ch a w h=>.inr ⟨ch,rfl,h⟩) _ _ _ cx a _ (inv_start n) ⟨r1,by simp [St.wide],hmask2,fun _ i hi hl=>r3 i hi hl⟩ H
 rw [show n+(all.toArray.size-n)=all.toArray.size by simp;omega] at this
 simpa using this
end
end Ab
end Go.Proofs.YtbpihhelojjedaaDoor
