/- Texts that the proof leans on. -/
import Derived.Test.YtbpihhelojjedaaDoorK328
set_option linter.unusedVariables false
set_option linter.unusedSimpArgs false
set_option maxRecDepth 100000
set_option maxHeartbeats 4000000
namespace Go.Proofs.YtbpihhelojjedaaDoor
open Go Go.RowKit
namespace Ab
def Cx.clr (cx:Cx) (id:Nat):Cx:=⟨fun k=>if k=id then Option.none else cx.at_ k,cx.G⟩
def rowNames (id:Nat):Row→Bool
 | .box _ cs=>killAny id cs
 | .hole _ _ _ (some k)=>k==id
 | _=>false
theorem killAny_of {id:Nat}:∀{l:List V},(∀c∈l,c.names id=false)→killAny id l=false
 | [],_=>rfl
 | c::l,h=>by rw [killAny,h c List.mem_cons_self,killAny_of fun c hc=>h c (List.mem_cons_of_mem _ hc)];rfl
theorem killAny_get {id:Nat} {l:List V} {vs:Array Value} (hn:vs.size=l.length) (h:∀(i:Nat) (c:V) (u:Value),l[i]?=some c→vs[i]?=some u→c.names id=false):killAny id l=false:=
 killAny_of fun c hc=>by
  obtain ⟨i,hi,rfl⟩:=List.mem_iff_getElem.1 hc
  exact h i _ (vs[i]'(by omega)) (List.getElem?_eq_getElem hi) (Array.getElem?_eq_getElem (by omega))
theorem VRep.noname {cx:Cx} {w:World} {v:V} {u:Value} {id:Nat} (h:VRep cx w v u) (h0:cx.at_ id=none):v.names id=false:=by
 have ne:∀{i B},cx.at_ i=some B→(i==id)=false:=fun {i B} h=>by
  cases e:i==id with
  | false=>rfl
  | true=>simp at e;subst e;rw [h0] at h;cases h
 induction h with
 | agg cs vs hn hc hr ih=>exact killAny_get hn ih
 | tup cs vs hn hr ih=>exact killAny_get hn ih
 | fn f cs vs hn hr ih=>exact killAny_get hn ih
 | ifc t v u h ih=>exact ih
 | lstN id a z h hz=>exact ne h
 | lst id b cap es len h=>exact ne h
 | ptr id off b cap es len h=>exact ne h
 | elt id row off b cap es len h=>exact ne h
 | win id lo b cap es len h=>exact ne h
 | pre id n b cap es len h=>exact ne h
 | mp id b cap es len h=>exact ne h
 | _=>rfl
def noName (id:Nat) (s:St):Prop:=(∀v∈s.tmps,v.names id=false)∧(∀(j:Nat) r,s.heap[j]?=some (some r)→rowNames id r=false)∧∀r,s.heap[id]?≠some (some r)
section
variable {P:Program} {A:Run} {L:TypeId→Option Lt} {all:List Oper} {n base:Nat} {fx:List (Nat × Fx)} {com:List Nat} {hpB:List (Option Row)}
theorem Rel.noname {cx:Cx} {s:St} {a:Act} {w:World} {id:Nat} (R:Rel A cx s a w) (h0:cx.at_ id=none) (hr:∀r,s.heap[id]?≠some (some r)):noName id s:=by
 refine ⟨fun v hv=>?_,fun j r hj=>?_,hr⟩
 · obtain ⟨i,hi,rfl⟩:=List.mem_iff_getElem.1 hv
   have hs:=R.tm.1
   exact (R.tm.2 i _ (a.tmps[i]'(by omega)) (List.getElem?_eq_getElem hi) (Array.getElem?_eq_getElem (by omega))).noname h0
 · have:=R.hp.row j r hj
   cases this with
   | box ty cs b vs hat hb hG hr=>exact killAny_get hr.1 fun i c u h1 h2=>(hr.2 i c u h1 h2).noname h0
   | hole ty rows q kid b cap vs hat hb hG hcap hmax hsz hes hlt hr hk=>
     cases kid with
     | none=>rfl
     | some k=>obtain ⟨u,-,h⟩:=hk k rfl;exact h.noname h0
   | _=>rfl
theorem VRep.clr {cx:Cx} {w:World} {v:V} {u:Value} {id:Nat} (h:VRep cx w v u) (hn:v.names id=false):VRep (cx.clr id) w v u:=
 (h.kill2 (cx':=cx.clr id) (id:=id) (Same.refl _ _) (fun i B hne hB=>by show (if i=id then none else cx.at_ i)=_;rw [if_neg hne];exact hB) fun _ h=>h).1 hn
theorem VReps.clr {cx:Cx} {w:World} {vs:List V} {us:Array Value} {id:Nat} (h:VReps cx w vs us) (hn:∀v∈vs,v.names id=false):VReps (cx.clr id) w vs us:=
 ⟨h.1,fun i c u h1 h2=>(h.2 i c u h1 h2).clr (hn c (List.mem_of_getElem? h1))⟩
theorem killAny_mem {id:Nat} {l:List V} (h:killAny id l=false):∀c∈l,c.names id=false:=fun c hc=>by
 obtain ⟨i,hi,rfl⟩:=List.mem_iff_getElem.1 hc
 exact killAny_no h i _ (List.getElem?_eq_getElem hi)
theorem Rel.clr {cx:Cx} {s:St} {a:Act} {w:World} {id:Nat} (R:Rel A cx s a w) (hn:noName id s) (hA:A.n≤id):Rel A (cx.clr id) s a w:=by
 have ne:∀{j r},s.heap[j]?=some (some r)→(cx.clr id).at_ j=cx.at_ j:=fun {j r} h=>by
  show (if j=id then none else cx.at_ j)=_
  rw [if_neg (fun e=>by subst e;exact hn.2.2 _ h)]
 refine ⟨R.tm.clr hn.1,R.df,⟨fun j r hj=>?_,fun j j' r r' b cap es len cap' es' len' h1 h2 h3 h4=>R.hp.inj j j' r r' b cap es len cap' es' len' h1 h2 (by rw [←ne h1];exact h3) (by rw [←ne h2];exact h4),fun j hj=>?_⟩,?_,R.bs⟩
 · have h:=R.hp.row j r hj
   have e:=ne hj
   have hno:=hn.2.1 j r hj
   cases h with
   | box ty cs b vs hat hb hG hr=>exact .box ty cs b vs (e.trans hat) hb hG (hr.clr (killAny_mem hno))
   | listN ty es z hat hz=>exact .listN ty es z (e.trans hat) hz
   | list ty es rows b cap vs hat hb hG hcap hmax hsz hes hr=>exact .list ty es rows b cap vs (e.trans hat) hb hG hcap hmax hsz hes hr
   | iter s p b hat hb hG h0=>exact .iter s p b (e.trans hat) hb hG h0
   | map c rows b es clock hat hb hG he=>exact .map c rows b es clock (e.trans hat) hb hG he
   | hole ty rows q kid b cap vs hat hb hG hcap hmax hsz hes hlt hr hk=>
     refine .hole ty rows q kid b cap vs (e.trans hat) hb hG hcap hmax hsz hes hlt hr fun k hk'=>?_
     obtain ⟨u,h1,h2⟩:=hk k hk'
     subst hk'
     exact ⟨u,h1,h2.clr hno⟩
 · show (if j=id then none else cx.at_ j)=none
   split
   · rfl
   · exact R.hp.dom j hj
 · refine ⟨R.kp.os,R.kp.tape,R.kp.output,R.kp.size,R.kp.block,fun j r b cap es len h1 h2=>R.kp.live j r b cap es len h1 (by rw [←ne h1];exact h2),R.kp.G0,R.kp.G1,R.kp.G2,fun j B h=>?_,R.kp.base,R.kp.tab⟩
   obtain ⟨h1,h2⟩:=R.kp.pin j B h
   refine ⟨?_,h2⟩
   show (if j=id then none else cx.at_ j)=_
   rw [if_neg (by omega)]
   exact h1
def rowL:Row→Bool
 | .list _ _ _=>true
 | _=>false
structure Far (F:Fx) (k:Nat):Prop where
 φ:∀h r,rowL r=true→F.φ (h.set k (some r))=(F.φ h).set k (some r)
 cond:∀xs h r,rowL r=true→(F.cond xs (h.set k (some r))↔F.cond xs h)
structure Nice (F:Fx):Prop where
 name:∀(k:Nat) (s:St) (d:Option Tmp) (xs:List V),noName k s→F.cond xs s.heap→noName k (F.st s d)
def fxFor (all:List Oper) (n:Nat) (fx:List (Nat × Fx)) (i:Nat):List (Nat × Fx):=fx.filter fun p=> !depB all n i p.1&& !depB all n p.1 i
def okRow:Option Row→Bool
 | none=>true
 | some r=>rowL r
def stpE (E:Env) (L:TypeId→Option Lt) (all:List Oper) (base n:Nat) (fx:List (Nat × Fx)) (com:List Nat) (hpB:List (Option Row)):Stp:=fun i s k=>
 match all[i]? with
 | none=>False
 | some o=>match fxAt fx i with
   | some F=>o.guard=none∧F.cond (o.op.operands.toList.map s.ev) s.heap∧maskEq hpB (F.φ s.heap)∧k (F.st s o.dst)
   | none=>match com.contains i with
     | true=>o.guard=none∧allP (fun x=>okV (s.ev x)=true∧allP (fun F=>F.2.κ (s.ev x)=s.ev x) (fxFor all n fx i)) o.op.operands.toList∧evC E L o s.ev hpB (base+i) fun v r=>okRow r=true∧allP (fun F=>F.2.κ v=v) (fxFor all n fx i)∧k (s.add o.dst v (base+i) r)
     | false=>opV E L all base i s fun v r=>k (s.add (dstOf all i) v (base+i) r)
theorem fxFor_mem {i j:Nat} {F:Fx} (h:fxAt fx j=some F) (h1:depB all n i j=false) (h2:depB all n j i=false):(j,F)∈fxFor all n fx i:=List.mem_filter.2 ⟨fxAt_mem h,by simp [h1,h2]⟩
theorem goesE_fx {i:Nat} {o:Oper} {F:Fx} {s s':St} (ho:all[i]?=some o) (hF:fxAt fx i=some F):Goes (stpE (dom P A) L all base n fx com hpB) i s s'↔o.guard=none∧F.cond (o.op.operands.toList.map s.ev) s.heap∧maskEq hpB (F.φ s.heap)∧F.st s o.dst=s':=by
 constructor
 · intro h
   have:=h (·=s') rfl
   simpa only [stpE,ho,hF] using this
 · rintro ⟨h1,h2,h3,rfl⟩ k hk
   simp only [stpE,ho,hF]
   exact ⟨h1,h2,h3,hk⟩
theorem goesE_com {i:Nat} {o:Oper} {s s':St} (ho:all[i]?=some o) (hF:fxAt fx i=none) (hc:com.contains i=true):Goes (stpE (dom P A) L all base n fx com hpB) i s s'↔o.guard=none∧allP (fun x=>okV (s.ev x)=true∧allP (fun F=>F.2.κ (s.ev x)=s.ev x) (fxFor all n fx i)) o.op.operands.toList∧∃v r,Evs (dom P A) L o s.ev hpB (base+i) v r∧okRow r=true∧allP (fun F=>F.2.κ v=v) (fxFor all n fx i)∧s.add o.dst v (base+i) r=s':=by
 constructor
 · intro h
   have:=h (·=s') rfl
   simp only [stpE,ho,hF,hc] at this
   obtain ⟨h1,h2,h3⟩:=this
   obtain ⟨v,r,⟨h4,h5,h6⟩,h7⟩:=evC_val ⟨P,A,rfl⟩ h3
   exact ⟨h1,h2,v,r,h7,h4,h5,h6⟩
 · rintro ⟨h1,h2,v,r,h3,h4,h5,rfl⟩ k hk
   simp only [stpE,ho,hF,hc]
   exact ⟨h1,h2,h3 _ ⟨h4,h5,hk⟩⟩
theorem goesE_flt {i:Nat} {o:Oper} {s s':St} (ho:all[i]?=some o) (hF:fxAt fx i=none) (hc:com.contains i=false):Goes (stpE (dom P A) L all base n fx com hpB) i s s'↔∃v r,(∀k2:V→Option Row→Prop,k2 v r→opV (dom P A) L all base i s k2)∧s.add (dstOf all i) v (base+i) r=s':=by
 constructor
 · intro h
   have:=h (·=s') rfl
   simp only [stpE,ho,hF,hc] at this
   obtain ⟨v,r,h1,h2⟩:=opV_val this
   exact ⟨v,r,h2,h1⟩
 · rintro ⟨v,r,h1,rfl⟩ k hk
   simp only [stpE,ho,hF,hc]
   exact h1 _ hk
theorem packE {i:Nat} {o:Oper} {s s1:St} (ho:all[i]?=some o) (hF:fxAt fx i=none) (h:Goes (stpE (dom P A) L all base n fx com hpB) i s s1):∃v r,s1=s.add o.dst v (base+i) r∧∀s':St,(∀t,t∈o.looksAt all.toArray→s'.tmps.getD t .junk=s.tmps.getD t .junk)→s'.heap.take base=s.heap.take base→Goes (stpE (dom P A) L all base n fx com hpB) i s' (s'.add o.dst v (base+i) r):=by
 have d0:dstOf all i=o.dst:=by unfold dstOf gslot;rw [ho]
 cases hc:com.contains i with
 | true=>
   obtain ⟨k1,k2,v,r,k3,k4,k5,rfl⟩:=(goesE_com ho hF hc).1 h
   refine ⟨v,r,rfl,fun s' hl _=>(goesE_com ho hF hc).2 ⟨k1,allP_of fun x hx=>?_,v,r,evs_congr k3 (fun x hx=>(ev_looks hl x (by simpa using hx)).symm),k4,k5,rfl⟩⟩
   rw [ev_looks hl x hx]
   exact allP_mem k2 x hx
 | false=>
   obtain ⟨v,r,k1,rfl⟩:=(goesE_flt ho hF hc).1 h
   refine ⟨v,r,by rw [d0],fun s' hl hh=>(goesE_flt ho hF hc).2 ⟨v,r,fun k2 hk=>?_,by rw [d0]⟩⟩
   rw [←opV_congr ho hl hh]
   exact k1 k2 hk
theorem ev_add {s:St} {d:Option Tmp} {v:V} {aid:Nat} {r:Option Row} {x:Operand} (h:∀t,x=.tmp t→d≠some t):(s.add d v aid r).ev x=s.ev x:=by
 cases x with
 | tmp t=>exact add_look (h t rfl)
 | const c=>rfl
 | global g=>rfl
 | func f=>rfl
theorem fx_add {F:Fx} {s:St} {d d':Option Tmp} {v:V} {aid:Nat} {r:Option Row} (hr:okRow r=true) (hf:Far F aid) (hv:F.κ v=v) (h:∀t,d=some t→d'≠some t):F.st (s.add d v aid r) d'=(F.st s d').add d v aid r:=by
 cases r with
 | none=>exact fx_put hv h
 | some r=>
   have e:=fx_put (s:=s) hv h
   unfold St.add St.lay
   simp only
   unfold Fx.st at e ⊢
   simp only [put_heap] at e ⊢
   rw [hf.φ _ _ hr]
   cases d'<;>cases d<;>simp only [St.put] at e ⊢<;>simp_all
theorem cond_add {F:Fx} {s:St} {d:Option Tmp} {v:V} {aid:Nat} {r:Option Row} {xs:List V} (hr:okRow r=true) (hf:Far F aid):F.cond xs (s.add d v aid r).heap↔F.cond xs s.heap:=by
 cases r with
 | none=>unfold St.add St.lay;simp only [put_heap]
 | some r=>unfold St.add St.lay;simp only [put_heap];exact hf.cond _ _ _ hr
theorem mask_add {F:Fx} {s:St} {d:Option Tmp} {v:V} {i:Nat} {r:Option Row} (hlen:hpB.length≤base) (hr:okRow r=true) (hf:Far F (base+i)):maskEq hpB (F.φ (s.add d v (base+i) r).heap)↔maskEq hpB (F.φ s.heap):=by
 cases r with
 | none=>unfold St.add St.lay;simp only [put_heap]
 | some r=>
   unfold St.add St.lay;simp only [put_heap]
   rw [hf.φ _ _ hr]
   constructor<;>intro h<;>refine maskEq_of h fun j hj=>?_
   · rw [List.getElem?_set_ne (by omega)]
   · rw [List.getElem?_set_ne (by omega)]
def chkE (all:List Oper) (n:Nat) (fs com:List Nat) (far:Nat→Nat→Bool):Bool:=
 (List.range n).all fun i=>(List.range n).all fun j=>i==j|| !fs.contains j||depB all n i j||depB all n j i||(com.contains i&& !fs.contains i&&far j i)
theorem chkE_get {far:Nat→Nat→Bool} (h:chkE all n (fx.map (·.1)) com far=true) {i j:Nat} (hi:i<n) (hj:j<n) (hij:i≠j) {F:Fx} (hF:fxAt fx j=some F) (d1:depB all n i j=false) (d2:depB all n j i=false):com.contains i=true∧fxAt fx i=none∧far j i=true:=by
 have hc:(fx.map (·.1)).contains j=true:=by
  cases hc:(fx.map (·.1)).contains j with
  | true=>rfl
  | false=>rw [fxAt_none hc] at hF;cases hF
 have h1:=List.all_eq_true.1 (List.all_eq_true.1 h i (List.mem_range.2 hi)) j (List.mem_range.2 hj)
 simp only [Bool.or_eq_true,beq_iff_eq,hc,Bool.not_true,Bool.false_eq_true,d1,d2,Bool.and_eq_true,Bool.not_eq_true',or_false] at h1
 rcases h1 with h1 | h1
 · exact absurd h1 hij
 · exact ⟨h1.1.1,fxAt_none h1.1.2,h1.2⟩
theorem stpE_ok {far:Nat→Nat→Bool} (hlen:hpB.length≤base) (hk:chkE all n (fx.map (·.1)) com far=true) (hfar:∀i j F,fxAt fx j=some F→far j i=true→Far F (base+i)):StpOk (stpE (dom P A) L all base n fx com hpB) all n:=by
 constructor
 · intro i s k h
   cases ho:all[i]? with
   | none=>simp only [stpE,ho] at h
   | some o=>
     cases hF:fxAt fx i with
     | some F=>
       simp only [stpE,ho,hF] at h
       exact ⟨_,h.2.2.2,(goesE_fx ho hF).2 ⟨h.1,h.2.1,h.2.2.1,rfl⟩⟩
     | none=>
       cases hc:com.contains i with
       | true=>
         simp only [stpE,ho,hF,hc] at h
         obtain ⟨h1,h2,h3⟩:=h
         obtain ⟨v,r,⟨h4,h5,h6⟩,h7⟩:=evC_val ⟨P,A,rfl⟩ h3
         exact ⟨_,h6,(goesE_com ho hF hc).2 ⟨h1,h2,v,r,h7,h4,h5,rfl⟩⟩
       | false=>
         simp only [stpE,ho,hF,hc] at h
         obtain ⟨v,r,h1,h2⟩:=opV_val h
         exact ⟨_,h1,(goesE_flt ho hF hc).2 ⟨v,r,h2,rfl⟩⟩
 · intro l i j oi oj s s1 s2 inv hri hrj hin hjn hij hi hj hap h1 h2
   obtain ⟨a1,a2,a3⟩:=Oper.apart_spec hap
   have d1:depB all n i j=false:=by
    cases h:depB all n i j with
    | false=>rfl
    | true=>exact absurd hri (dep_ready inv hrj h)
   have d2:depB all n j i=false:=by
    cases h:depB all n j i with
    | false=>rfl
    | true=>exact absurd hrj (dep_ready inv hri h)
   have xi:∀x∈oi.op.operands.toList,∀t,x=.tmp t→oj.dst≠some t:=fun x hx t e hd=>a3 t hd (looks_of hx e)
   have xj:∀x∈oj.op.operands.toList,∀t,x=.tmp t→oi.dst≠some t:=fun x hx t e hd=>a1 t hd (looks_of hx e)
   cases hFi:fxAt fx i with
   | some F=>
     obtain ⟨cj,hFj,hfr⟩:=chkE_get hk hjn hin (Ne.symm hij) hFi d2 d1
     have hf:=hfar _ _ _ hFi hfr
     have hm:=fxFor_mem hFi d2 d1
     obtain ⟨g1,g2,g3,rfl⟩:=(goesE_fx hi hFi).1 h1
     obtain ⟨k1,k2,v,r,k3,k4,k5,rfl⟩:=(goesE_com hj hFj cj).1 h2
     have ev:∀x∈oj.op.operands.toList,(F.st s oi.dst).ev x=s.ev x:=fun x hx=>fx_ev' (xj x hx) (allP_mem k2 x hx).1
     have hv:F.κ v=v:=allP_mem k5 _ hm
     refine ⟨s.add oj.dst v (base+j) r,(goesE_com hj hFj cj).2 ⟨k1,allP_of fun x hx=>?_,v,r,evs_congr k3 (fun x hx=>ev x (by simpa using hx)),k4,k5,rfl⟩,(goesE_fx hi hFi).2 ⟨g1,?_,?_,?_⟩⟩
     · have:=allP_mem k2 x hx
       rw [ev x hx] at this
       exact this
     · rw [List.map_congr_left (g:=s.ev) fun x hx=>ev_add (xi x hx)]
       exact (cond_add k4 hf).2 g2
     · exact (mask_add hlen k4 hf).2 g3
     · exact fx_add k4 hf hv fun t e e'=>a2 t e' e
   | none=>
     cases hFj:fxAt fx j with
     | some F=>
       obtain ⟨ci,-,hfr⟩:=chkE_get hk hin hjn hij hFj d1 d2
       have hf:=hfar _ _ _ hFj hfr
       have hm:=fxFor_mem hFj d1 d2
       obtain ⟨k1,k2,v,r,k3,k4,k5,rfl⟩:=(goesE_com hi hFi ci).1 h1
       obtain ⟨g1,g2,g3,rfl⟩:=(goesE_fx hj hFj).1 h2
       have hv:F.κ v=v:=allP_mem k5 _ hm
       have ev:∀x∈oi.op.operands.toList,(F.st s oj.dst).ev x=s.ev x:=fun x hx=>fx_ev (xi x hx) (allP_mem (allP_mem k2 x hx).2 _ hm)
       have g2':=(cond_add k4 hf).1 g2
       rw [List.map_congr_left (g:=s.ev) fun x hx=>ev_add (xj x hx)] at g2'
       refine ⟨F.st s oj.dst,(goesE_fx hj hFj).2 ⟨g1,g2',(mask_add hlen k4 hf).1 g3,rfl⟩,(goesE_com hi hFi ci).2 ⟨k1,allP_of fun x hx=>?_,v,r,evs_congr k3 (fun x hx=>(ev x (by simpa using hx)).symm),k4,k5,?_⟩⟩
       · have:=allP_mem k2 x hx
         rw [ev x hx]
         exact this
       · exact (fx_add k4 hf hv fun t e e'=>a2 t e e').symm
     | none=>
       obtain ⟨v,r,rfl,f1⟩:=packE hi hFi h1
       obtain ⟨v',r',rfl,f2⟩:=packE hj hFj h2
       refine ⟨s.add oj.dst v' (base+j) r',f2 s (fun t ht=>(add_look fun hd=>a1 t hd ht).symm) add_heap.symm,?_⟩
       rw [add_comm' (fun t hd hd'=>a2 t hd hd') hij]
       exact f1 _ (fun t ht=>add_look fun hd=>a3 t hd ht) add_heap
def RelE (A:Run) (all:List Oper) (base:Nat) (hpB:List (Option Row)) (l:Array Bool) (cx:Cx) (s:St) (a:Act) (w:World):Prop:=
 Rel A cx s a w∧s.heap.length=base+all.length∧maskEq hpB s.heap∧∀i,i<all.length→l.getD i true=false→cx.at_ (base+i)=none∧∀r,s.heap[base+i]?≠some (some r)
theorem Rel.clrs {s:St} {a:Act} {w:World} (p:Nat→Bool) (base:Nat) (hA:A.n≤base) (hp:∀i,p i=true→noName (base+i) s):∀(m:Nat) {cx:Cx},Rel A cx s a w→∃cx',Rel A cx' s a w∧∀i,i<m→p i=true→cx'.at_ (base+i)=none
 | 0,cx,R=>⟨cx,R,fun i h=>by omega⟩
 | m +1,cx,R=>by
   obtain ⟨cx',R',h⟩:=Rel.clrs p base hA hp m R
   cases hm:p m with
   | false=>exact ⟨cx',R',fun i hi e=>by
    rcases Nat.lt_succ_iff_lt_or_eq.1 hi with h1 | h1
    · exact h i h1 e
    · subst h1;rw [hm] at e;cases e⟩
   | true=>
     refine ⟨cx'.clr (base+m),R'.clr (hp m hm) (by omega),fun i hi e=>?_⟩
     show (if base+i=base+m then none else cx'.at_ (base+i))=none
     split
     · rfl
     · exact h i (by omega) e
theorem stpE_wp (hL:LayOk P L) (hnice:∀i F,fxAt fx i=some F→Nice F) (hsd:∀i o F,all[i]?=some o→fxAt fx i=some F→∀(s:St) (k:St→Prop),F.cond (o.op.operands.toList.map s.ev) s.heap→k (F.st s o.dst)→pop (dom P A) L o s k) (hlen:hpB.length≤base) (hA:A.n≤base)
 {l:Array Bool} {i:Nat} {s:St} {k:St→Prop} {cx:Cx} {a:Act} {w:World} {next:Act→World→Prop} {Q:Exit→Act→World→Prop} (inv:HeadInv .any all.toArray n l) (hi:i∈Region.ready .any all.toArray l) (R:RelE A all base hpB l cx s a w) (h:stpE (dom P A) L all base n fx com hpB i s k)
 (hn:∀s' cx' a' w',k s'→RelE A all base hpB (l.setIfInBounds i true) cx' s' a' w'→next a' w') (hp:∀ch a w,PanAt A a ch w→Q (.panic ch) a w):wpOp P all.toArray Q i next a w:=by
 obtain ⟨hun,oi,hoi,-⟩:=mem_ready.1 hi
 rw [List.getElem?_toArray] at hoi
 have hil:i<all.length:=(List.getElem?_eq_some_iff.1 hoi).1
 have hls:i<l.size:=by rw [inv.size];simpa using hil
 unfold wpOp
 rw [List.getElem?_toArray,hoi]
 simp only
 obtain ⟨R,hlh,hm,hat⟩:=R
 obtain ⟨h0,hr0⟩:=hat i hil hun
 have keepR:∀{r:Option Row} {j:Nat},j≠i→(∀q,s.heap[base+j]?≠some (some q))→∀{d v},∀q,(s.add d v (base+i) r).heap[base+j]?≠some (some q):=fun {r j} hne hq {d v} q=>by
  unfold St.add
  cases r with
  | none=>simp only [St.lay,put_heap];exact hq q
  | some r=>simp only [St.lay,put_heap];rw [List.getElem?_set_ne (by omega)];exact hq q
 have heapE:∀{row:Option Row} (id:Nat) r,(match row with | some r=>s.heap.set (base+i) (some r) | none=>s.heap)[id]?=some (some r)→(id≠base+i∧s.heap[id]?=some (some r))∨(id=base+i∧row=some r):=fun {row} id r hr=>by
  cases row with
  | none=>
    simp only at hr
    exact .inl ⟨fun e=>by subst e;exact hr0 r hr,hr⟩
  | some r'=>
    simp only at hr
    by_cases e:base+i=id
    · subst e
      have hlt:base+i<s.heap.length:=by omega
      rw [List.getElem?_set_self hlt] at hr
      cases hr
      exact .inr ⟨rfl,rfl⟩
    · rw [List.getElem?_set_ne e] at hr
      exact .inl ⟨Ne.symm e,hr⟩
 cases hF:fxAt fx i with
 | some F=>
   simp only [stpE,hoi,hF] at h
   obtain ⟨hg,hc,hm2,hk⟩:=h
   have hop:guarded (dom P A) all oi s (fun _=>True) (fun _=>False):=by unfold guarded;rw [hg];trivial
   rcases guarded_wp R.tm hop with ⟨hw,-⟩ | ⟨-,hc⟩
   case inr=>exact hc.elim
   rw [if_pos hw]
   refine .inl (pop_wp hL R (hsd i oi F hoi hF s (fun s'=>k s'∧s'=F.st s oi.dst) hc ⟨hk,rfl⟩) _ _ (fun s' cx' a' w' hks R'=>?_) fun ch w' h=>hp ch a w' h)
   obtain ⟨hks,rfl⟩:=hks
   have hh:(F.st s oi.dst).heap=F.φ s.heap:=by unfold Fx.st;rw [put_heap]
   have nn:∀j,j<all.length→l.getD j true=false→noName (base+j) (F.st s oi.dst):=fun j hj hl=>(hnice i F hF).name _ _ _ _ (R.noname (hat j hj hl).1 (hat j hj hl).2) hc
   obtain ⟨cx2,R2,hat2⟩:=Rel.clrs (fun j=>decide (j<all.length)&& !(l.setIfInBounds i true).getD j true) base hA (fun j hj=>by
    simp only [Bool.and_eq_true,decide_eq_true_eq,Bool.not_eq_true'] at hj
    exact nn j hj.1 (set_other hj.2 hls).2) all.length R'
   refine hn _ cx2 a' w' hks ⟨R2,by rw [hh,F.len];exact hlh,by rw [hh];exact hm2,fun j hj hl=>⟨hat2 j hj (by simp [hj,hl]),(nn j hj (set_other hl hls).2).2.2⟩⟩
 | none =>
   cases hc:com.contains i with
   | true=>
     simp only [stpE,hoi,hF,hc] at h
     obtain ⟨hg,-,hev⟩:=h
     have hop:guarded (dom P A) all oi s (fun _=>True) (fun _=>False):=by unfold guarded;rw [hg];trivial
     rcases guarded_wp R.tm hop with ⟨hw,-⟩ | ⟨-,hc⟩
     case inr=>exact hc.elim
     rw [if_pos hw]
     refine .inl ?_
     refine evC_wp hL (eyes_of R.tm) (fun id r hr=>R.hp.row id r (maskEq_get hm (getD_row hr))) h0 R.kp.G1 R.kp.tab hev _ _ fun v row u w' cx' hk X=>?_
     obtain ⟨hrow,-,hk⟩:=hk
     refine hn _ cx' _ _ hk ⟨?_,by rw [add_len];exact hlh,maskEq_add hlen hm,fun j hj hl=>?_⟩
     · rw [lay_eq]
       exact R.step X h0 oi.dst _ heapE (by cases row<;>simp) (by cases row with
        | none=>simp
        | some r=>intro _;simp only [List.length_set];omega)
     · obtain ⟨hji,hl'⟩:=set_other hl hls
       refine ⟨?_,keepR hji (hat j hj hl').2⟩
       rw [X.at_ _ (by omega)]
       exact (hat j hj hl').1
   | false =>
     simp only [stpE,hoi,hF,hc] at h
     have hdi:dstOf all i=oi.dst:=by unfold dstOf gslot;rw [hoi]
     unfold opV at h
     rw [hoi] at h
     simp only at h
     rcases guarded_wp R.tm h with ⟨hw,hc⟩ | ⟨hw,hc⟩
     · rw [if_pos hw]
       refine .inl ?_
       refine evC_wp hL (eyes_of R.tm) (fun id r hr=>R.hp.row id r ?_) h0 R.kp.G1 R.kp.tab hc _ _ fun v row u w' cx' hk X=>?_
       · have h1:=getD_row hr
         rw [List.getElem?_take] at h1
         split at h1
         · exact h1
         · cases h1
       · rw [hdi] at hk
         refine hn _ cx' _ _ hk ⟨?_,by rw [add_len];exact hlh,maskEq_add hlen hm,fun j hj hl=>?_⟩
         · rw [lay_eq]
           exact R.step X h0 oi.dst _ heapE (by cases row<;>simp) (by cases row with
            | none=>simp
            | some r=>intro _;simp only [List.length_set];omega)
         · obtain ⟨hji,hl'⟩:=set_other hl hls
           refine ⟨?_,keepR hji (hat j hj hl').2⟩
           rw [X.at_ _ (by omega)]
           exact (hat j hj hl').1
     · rw [if_neg (by simp [hw])]
       rw [hdi] at hc
       refine hn _ cx _ _ hc ⟨R.put (rep_undef cx w) oi.dst,by rw [add_len];exact hlh,maskEq_add hlen hm,fun j hj hl=>?_⟩
       obtain ⟨hji,hl'⟩:=set_other hl hls
       exact ⟨(hat j hj hl').1,keepR hji (hat j hj hl').2⟩
theorem AnyW.anyE (hL:LayOk P L) (hnice:∀i F,fxAt fx i=some F→Nice F) (hsd:∀i o F,all[i]?=some o→fxAt fx i=some F→∀(s:St) (k:St→Prop),F.cond (o.op.operands.toList.map s.ev) s.heap→k (F.st s o.dst)→pop (dom P A) L o s k) (hlen:hpB.length≤base) (hA:A.n≤base)
 {Lq:Array Bool→St→Prop} {Q:Exit→Act→World→Prop} {g:Nat} (hend:∀l s cx a w,Lq l s→Rel A cx s a w→wpAny P .any all.toArray Q g l a w) (hp:∀ch a w,PanAt A a ch w→Q (.panic ch) a w):
 ∀(f:Nat) (l:Array Bool) (s:St) cx a w,HeadInv .any all.toArray n l→RelE A all base hpB l cx s a w→AnyW (stpE (dom P A) L all base n fx com hpB) all n Lq f l s→wpAny P .any all.toArray Q (f+g) l a w:=by
 intro f
 induction f with
 | zero=>intro l s cx a w _ R h;rw [Nat.zero_add];exact hend l s cx a w h R.1
 | succ f ih=>
   intro l s cx a w inv R h
   rw [show f+1+g=(f+g)+1 by omega]
   refine ⟨fun e=>absurd e h.1,fun i hi=>?_⟩
   obtain ⟨hin,hs⟩:=h.2 i hi
   exact stpE_wp hL hnice hsd hlen hA inv hi R hs (fun s' cx' a' w' hk R'=>ih _ s' cx' a' w' (inv.set hi hin) R' hk) hp
theorem draw_fxE (hL:LayOk P L) (hm:P.follows .mixedOrders=true) (n:Nat) {s:St} {K:St→Prop} (fx:List (Nat × Fx)) (com:List Nat) (hpB:List (Option Row)) {far:Nat→Nat→Bool} (hB:Region.lexTailB .any all.toArray n=true) (hk:chkE all n (fx.map (·.1)) com far=true) (hfar:∀i j F,fxAt fx j=some F→far j i=true→Far F (s.heap.length+i)) (hnice:∀i F,fxAt fx i=some F→Nice F)
 (hsd:∀i o F,all[i]?=some o→fxAt fx i=some F→∀(s:St) (k:St→Prop),F.cond (o.op.operands.toList.map s.ev) s.heap→k (F.st s o.dst)→pop (dom P A) L o s k) (hlen:hpB.length≤s.heap.length) (hmask:maskEq hpB s.heap)
 (h:runW (stpE (dom P A) L all s.heap.length n fx com hpB) (fun s'=>pops (dom P A) L all [] (all.drop n) s' K) 0 n (s.wide all.length)):(dom P A).draw all s K:=by
 intro id cx a w R
 simp only [Region.lexTailB,Bool.and_eq_true,decide_eq_true_eq] at hB
 obtain ⟨⟨⟨⟨hns,hn⟩,hs⟩,hc⟩,hlex⟩:=hB
 have hn':n<all.length:=by simpa using hn
 have hd:(all.drop n).length=all.toArray.size-n:=by simp
 refine wp_region_any hm ?_
 have H:=AnyW.head (g:=all.toArray.size-n) (stpE_ok (P:=P) (A:=A) (L:=L) (base:=s.heap.length) (hpB:=hpB) hlen hk hfar) hns hs hc hn' n 0 _ _ (by omega) (inv_start n) (by simpa using hlex) h
 have hmask2:maskEq hpB (s.wide all.length).heap:=maskEq_app hmask
 obtain ⟨r1,r2,r3⟩:=relD_start (all:=all) R
 have:=AnyW.anyE hL hnice hsd hlen R.kp.base (Q:=Post A fun e s'=>e=.normal∧K s') (g:=all.toArray.size-n) (fun l s cx a w hq R=>by
  have h1:=pops_wp hL (Q:=Post A fun e s'=>e=.normal∧K s') (fun s cx a w hk hR=>.inl ⟨.normal,s,cx,trivial,⟨rfl,hk⟩,hR⟩) (fun ch a w h=>.inr ⟨ch,rfl,h⟩) _ [] s hq.2 cx a w R (kinv_nil a)
  have h2:=wpAny_of_seq (md:=.any) (all.drop n) n l a w (fun j=>by simp [List.getElem?_drop]) (by rw [hd];exact hq.1) h1
  rwa [hd] at h2) (fun ch a w h=>.inr ⟨ch,rfl,h⟩) _ _ _ cx a _ (inv_start n) ⟨r1,by simp [St.wide],hmask2,fun i hi hl=>⟨r3 i hi hl,fun r=>by
   simp only [St.wide]
   rw [List.getElem?_append_right (by omega)]
   intro e
   have:=List.mem_of_getElem? e
   simp at this⟩⟩ H
 rw [show n+(all.toArray.size-n)=all.toArray.size by simp;omega] at this
 simpa using this
end
end Ab
open Ab
namespace Sh
structure Ap where
 i:Nat
 id:Nat
 ty:Nat
 es:Nat
 rows:Ab.Rows
 new:Ab.Rows
 rows':Ab.Rows
 m:Option Nat
 y:V
def fxE (a:Ap):Fx where
 κ:=V.kill a.id
 φ h:=(h.map (killRow a.id)).set a.id (some (.list a.ty a.es a.rows'))
 v:=.lst a.id
 cond xs hp:=match xs with
  | [x,y]=>x=.lst a.id∧y=a.y∧hp.getD a.id none=some (.list a.ty a.es a.rows)∧rowsAt hp a.y=some a.new
  | _=>False
 ok:=kill_keep
 junk:=rfl
 len h:=by simp
def yOk (a:Ap):Bool:=match a.m,a.y with
 | some k,.lst k'=>Nat.beq k k'
 | none,.t _=>true
 | _,_=>false
def apsFx:List Ap→List (Nat × Fx)
 | []=>[]
 | a::l=>(a.i,fxE a)::apsFx l
def farA (base:Nat):List Ap→Nat→Nat→Bool
 | [],_,_=>false
 | a::l,j,i=>match Nat.beq a.i j with
   | true=> !(Nat.beq a.id (base+i))&&(match a.m with | some k=> !(Nat.beq k (base+i)) | none=>true)
   | false=>farA base l j i
theorem killRow_list {id:Nat} {r:Row} (h:rowL r=true):killRow id (some r)=some r:=by cases r<;>first | rfl | cases h
theorem far_fxE {a:Ap} {k:Nat} (hy:yOk a=true) (h1:a.id≠k) (h2:∀m,a.m=some m→m≠k):Far (fxE a) k:=by
 constructor
 · intro h r hr
   show ((h.set k (some r)).map (killRow a.id)).set a.id _=((h.map (killRow a.id)).set a.id _).set k _
   rw [List.map_set,killRow_list hr,List.set_comm _ _ (Ne.symm h1)]
 · intro xs h r hr
   have e1:(h.set k (some r)).getD a.id none=h.getD a.id none:=by rw [List.getD_eq_getElem?_getD,List.getD_eq_getElem?_getD,List.getElem?_set_ne (Ne.symm h1)]
   have e2:rowsAt (h.set k (some r)) a.y=rowsAt h a.y:=by
    unfold yOk at hy
    split at hy
    · rename_i m k' hm hk
      have:=h2 _ hm
      simp at hy
      subst hy
      rw [hk]
      show (match (h.set k (some r)).getD m none with | some (.list _ _ rows)=>some rows | _=>none)=_
      rw [List.getD_eq_getElem?_getD,List.getElem?_set_ne (Ne.symm this),←List.getD_eq_getElem?_getD]
      rfl
    · rename_i x hm hx
      rw [hx]
      unfold rowsAt
      split<;>first | rfl | (rename_i e;cases e)
    · cases hy
   show (match xs with | [x,y]=>_ | _=>False)↔(match xs with | [x,y]=>_ | _=>False)
   split
   · rw [e1,e2]
   · exact Iff.rfl
mutual
theorem names_kill {k id:Nat}:∀v:V,v.names k=false→(v.kill id).names k=false
 | .t _,_=>rfl
 | .lst j,h=>by rw [V.kill];split<;>first | rfl | exact h
 | .ptr j _,h=>by rw [V.kill];split<;>first | rfl | exact h
 | .elt j _ _,h=>by rw [V.kill];split<;>first | rfl | exact h
 | .win j _,h=>by rw [V.kill];split<;>first | rfl | exact h
 | .mp j,h=>by rw [V.kill];split<;>first | rfl | exact h
 | .pre j _,h=>by rw [V.kill];split<;>first | rfl | exact h
 | .agg cs,h=>by rw [V.kill];split<;>first | rfl | exact h
 | .tup cs,h=>by rw [V.kill];exact namesL_kill cs h
 | .fn f cs,h=>by rw [V.kill];exact namesL_kill cs h
 | .ifc t v,h=>by rw [V.kill];exact names_kill v h
 | .ipt _ _,_=>rfl
 | .junk,_=>rfl
theorem namesL_kill {k id:Nat}:∀l:List V,killAny k l=false→killAny k (killL id l)=false
 | [],_=>rfl
 | v::l,h=>by
   rw [killAny,Bool.or_eq_false_iff] at h
   rw [killL,killAny,names_kill v h.1,namesL_kill l h.2]
   rfl
end
theorem nice_fxE (a:Ap):Nice (fxE a):=by
 constructor
 intro k s d xs hn hc
 obtain ⟨n1,n2,n3⟩:=hn
 simp only [fxE] at hc
 split at hc
 case h_2=>cases hc
 obtain ⟨-,-,hrow,-⟩:=hc
 have hne:a.id≠k:=fun e=>by subst e;exact n3 _ (getD_row hrow)
 have e:(fxE a).st s d=(⟨s.tmps.map (V.kill a.id),(s.heap.map (killRow a.id)).set a.id (some (.list a.ty a.es a.rows')),s.base⟩:St).put d (.lst a.id):=rfl
 rw [e]
 refine ⟨fun v hv=>?_,fun j r hj=>?_,fun r=>?_⟩
 · have key:v=.lst a.id∨v∈s.tmps.map (V.kill a.id):=by
    cases d with
    | none=>exact .inr hv
    | some d=>exact (List.mem_or_eq_of_mem_set hv).symm
   rcases key with rfl | hv
   · simpa [V.names] using hne
   · obtain ⟨u,hu,rfl⟩:=List.mem_map.1 hv
     exact names_kill u (n1 u hu)
 · rw [put_heap] at hj
   simp only at hj
   by_cases hx:a.id=j
   · subst hx
     have hlt:a.id<(s.heap.map (killRow a.id)).length:=by simpa using (List.getElem?_eq_some_iff.1 (getD_row hrow)).1
     rw [List.getElem?_set_self hlt] at hj
     cases hj;rfl
   · rw [List.getElem?_set_ne hx,List.getElem?_map] at hj
     obtain ⟨q,hq,hj⟩:=Option.map_eq_some_iff.1 hj
     cases q with
     | none=>cases hj
     | some q=>
       have:=n2 j q hq
       cases q with
       | box ty cs=>cases hj;exact namesL_kill cs this
       | hole ty rows r0 kid=>
         cases hj
         cases kid with
         | none=>rfl
         | some k0=>
           simp only [killK]
           split
           · rfl
           · exact this
       | _=>cases hj;rfl
 · rw [put_heap]
   simp only
   rw [List.getElem?_set_ne hne,List.getElem?_map]
   intro h
   obtain ⟨q,hq,hj⟩:=Option.map_eq_some_iff.1 h
   cases q with
   | none=>cases hj
   | some q=>exact n3 _ hq
section
variable {P:Program} {A:Run} {W:Wd} {E:Env} {L:TypeId→Option Lt}
structure ApOk (W:Wd) (E:Env) (L:TypeId→Option Lt) (all:List Oper) (a:Ap):Prop where
 h:∃(o:Oper) (c:Call) (x y:Operand) (t:TypeId) (lt le:Lt),all[a.i]?=some o∧o.op=.call c∧c.callee=.builtin .append∧c.argTypes=#[t,t]∧c.args=#[x,y]∧L t=some lt∧lt.kind=3∧L lt.elem=some le∧0<le.size∧a.es=le.size∧a.ty=lt.elem∧E.free a.id∧E.room a.rows a.new le.size le.bytes∧W.lapp a.rows a.new=a.rows'
theorem apsFx_mem:∀{l:List Ap} {i:Nat} {F:Fx},fxAt (apsFx l) i=some F→∃a∈l,F=fxE a∧a.i=i
 | [],_,_,h=>by cases h
 | a::l,i,F,h=>by
   simp only [apsFx,fxAt] at h
   split at h
   · rename_i hb;cases h;exact ⟨a,List.mem_cons_self,rfl,by simpa using hb⟩
   · obtain ⟨b,h1,h2,h3⟩:=apsFx_mem h;exact ⟨b,List.mem_cons_of_mem _ h1,h2,h3⟩
theorem farA_get {base:Nat}:∀{l:List Ap} {i j:Nat} {F:Fx},(∀a∈l,yOk a=true)→fxAt (apsFx l) j=some F→farA base l j i=true→Far F (base+i)
 | [],_,_,_,_,h,_=>by cases h
 | a ::l,i,j,F,hy,h,hf=>by
   simp only [apsFx,fxAt] at h
   simp only [farA] at hf
   split at h
   · rename_i hb
     cases h
     rw [hb] at hf
     simp only [Bool.and_eq_true,Bool.not_eq_true'] at hf
     refine far_fxE (hy a List.mem_cons_self) (fun e=>by have:=hf.1;rw [e] at this;simp at this) fun m hm e=>?_
     have:=hf.2
     rw [hm,e] at this
     simp at this
   · rename_i hb
     rw [hb] at hf
     exact farA_get (fun a ha=>hy a (List.mem_cons_of_mem _ ha)) h hf
theorem fxE_sd {a:Ap} {all:List Oper} (hok:ApOk W E L all a) (hy:yOk a=true) {o:Oper} (hi:all[a.i]?=some o)
 (s:St) (k:St→Prop) (h:(fxE a).cond (o.op.operands.toList.map s.ev) s.heap) (hK:k ((fxE a).st s o.dst)):pop (mkE W E) L o s k:=by
 obtain ⟨o',c,x,y,t,lt,le,hi',ho,hc,ht,hx,hlt,hk,hle,hpos,hes,hty,hf,hroom,happ⟩:=hok.h
 rw [hi] at hi'
 cases hi'
 have hop:o.op.operands.toList.map s.ev=[s.ev x,s.ev y]:=by
  rw [ho];show (c.operands).toList.map s.ev=_
  unfold Call.operands
  rw [hc,hx]
  rfl
 rw [hop] at h
 simp only [fxE] at h
 obtain ⟨h1,h2,h3,h4⟩:=h
 have hn:newRows (mkE W E) L lt.elem t t s.heap (s.ev y)=some a.new:=by
  rw [←h2] at h4
  unfold newRows
  split
  · rename_i e;rw [e] at h4;cases h4
  · rw [if_pos rfl];exact h4
 unfold pop
 rw [ho]
 rw [hes,hty] at h3
 simp only [hc,ht,hx,hlt,hk,hle,hpos,if_true,hn,h1,h3]
 refine ⟨hf,hroom,?_⟩
 have e:(mkE W E).lapp a.rows a.new=a.rows':=happ
 rw [e]
 have e2:((s.kill a.id).setRow a.id (.list lt.elem le.size a.rows')).put o.dst (.lst a.id)=(fxE a).st s o.dst:=by
  show _=(⟨s.tmps.map (V.kill a.id),(s.heap.map (killRow a.id)).set a.id (some (.list a.ty a.es a.rows')),s.base⟩:St).put o.dst (.lst a.id)
  rw [←killL_map,hes,hty]
  rfl
 rw [e2]
 exact hK
variable (hE:dom P A=mkE W E)
include hE
theorem ap_ok {α:Type} {e:α→List Ab.T} {l m l':List α} {rows new rows':Ab.Rows} {R:RF} (hR:R=rw) (q:app e l m=some l') (h1:rows=List.map e l) (hn:new=List.map e m) (h2:rows'=R α e l') {all:List Oper} {i id ty es:Nat} {mm:Option Nat} {yv:V} (hf:E.free id) (hes:∀x,(e x).length=es) {o:Oper} {c:Call} {x y:Operand} {t:TypeId} {lt le:Lt} (hi:all[i]?=some o) (ho:o.op=.call c) (hc:c.callee=.builtin .append) (ht:c.argTypes=#[t,t]) (hx:c.args=#[x,y]) (hlt:L t=some lt) (hk3:lt.kind=3) (hty:ty=lt.elem) (hle:L lt.elem=some le) (hpos:0<le.size) (he2:es=le.size) (hb:le.bytes≤1000):ApOk W E L all ⟨i,id,ty,es,rows,new,rows',mm,yv⟩:=by
 subst hn hR h1 h2
 unfold app at q
 split at q
 case isFalse=>cases q
 cases q
 have room:E.room (rw α e l) (rw α e m) es le.bytes:=(r_room (c:=True) hE (fun row hr=>by obtain ⟨y,-,rfl⟩:=List.mem_map.1 hr;exact hes y) (by simpa [rw] using ‹l.length+m.length≤1000000000›) hb trivial).1
 have happ:W.lapp (rw α e l) (rw α e m)=rw α e (l++m):=by rw [wE hE];exact List.map_append.symm
 exact ⟨o,c,x,y,t,lt,le,hi,ho,hc,ht,hx,hlt,hk3,hle,hpos,he2,hty,hf,by rw [←he2];exact room,happ⟩
theorem L_fxE (hL:LayOk P L) (hm:P.follows .mixedOrders=true) {all:List Oper} {s:St} {K:St→Prop} (n:Nat) (aps:List Ap) (com:List Nat) (hpB:List (Option Row)) (hok:allP (ApOk W E L all) aps) (hB:Region.lexTailB .any all.toArray n=true) (hk:chkE all n ((apsFx aps).map (·.1)) com (farA s.heap.length aps)=true) (hy:aps.all yOk=true) (hlen:hpB.length≤s.heap.length) (hmask:maskEq hpB s.heap)
 (hK:∀K':St→Prop,(∀s',pops (mkE W E) L all [] (all.drop n) s' K→K' s')→runW (stpE (mkE W E) L all s.heap.length n (apsFx aps) com hpB) K' 0 n (s.wide all.length)):E.draw all s K:=by
 have h:=hK _ fun _ h=>h
 have hy':∀a∈aps,yOk a=true:=fun a ha=>List.all_eq_true.1 hy a ha
 show (mkE W E).draw all s K
 rw [←hE] at h ⊢
 refine draw_fxE hL hm n (apsFx aps) com hpB hB hk (fun i j F h1 h2=>farA_get hy' h1 h2) (fun i F h1=>?_) (fun j o G ho hG s k hc hk=>?_) hlen hmask h
 · obtain ⟨a,-,rfl,-⟩:=apsFx_mem h1;exact nice_fxE a
 · obtain ⟨a,ha,rfl,rfl⟩:=apsFx_mem hG
   have:=fxE_sd (allP_mem hok a ha) (hy' a ha) ho s k hc hk
   rw [hE]
   exact this
end
end Sh
end Go.Proofs.YtbpihhelojjedaaDoor
