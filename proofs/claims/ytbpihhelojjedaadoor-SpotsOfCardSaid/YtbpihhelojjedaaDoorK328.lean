/- Texts that the proof leans on. -/
import Derived.Test.YtbpihhelojjedaaDoorK314
import Derived.Test.YtbpihhelojjedaaDoorK327
set_option linter.unusedVariables false
set_option linter.unusedSimpArgs false
set_option maxRecDepth 100000
set_option maxHeartbeats 4000000
namespace Go.Proofs.YtbpihhelojjedaaDoor
open Go Go.RowKit
open Ab
namespace Sh
def nrmRow:Row→Row
 | .box ty cs=>.box ty (nrm.nrmL cs)
 | r=>r
theorem rows_nrm (l:List Row):RowsLe l (l.map nrmRow):=by
 refine ⟨by simp,fun i r r' h1 h2=>?_⟩
 rw [List.getElem?_map,h1] at h2
 cases h2
 cases r with
 | box ty cs=>exact .inr ⟨ty,cs,_,rfl,rfl,nrms_le cs⟩
 | list=>exact .inl rfl
 | iter=>exact .inl rfl
 | map=>exact .inl rfl
 | hole=>exact .inl rfl
def freeL (p:Nat→Prop):List Nat→List Bool→Prop
 | x::σ,true::Z=>freeL p σ Z
 | x::σ,false::Z=>p x∧freeL p σ Z
 | _,_=>True
theorem freeL_get {p:Nat→Prop}:∀{σ:List Nat} {Z:List Bool},freeL p σ Z→σ.length=Z.length→∀(i id:Nat),σ[i]?=some id→Z[i]?≠some true→p id
 | [],Z,_,_,i,id,h,_=>by simp at h
 | x::σ,[],_,hl,i,id,h,_=>by simp at hl
 | x::σ,true::Z,hp,hl,0,id,h,hn=>by simp at hn
 | x::σ,true::Z,hp,hl,i+1,id,h,hn=>freeL_get (show freeL p σ Z from hp) (by simpa using hl) i id (by simpa using h) (by simpa using hn)
 | x::σ,false::Z,hp,hl,0,id,h,hn=>by simp at h;subst h;exact hp.1
 | x::σ,false::Z,hp,hl,i+1,id,h,hn=>freeL_get (show p x∧freeL p σ Z from hp).2 (by simpa using hl) i id (by simpa using h) (by simpa using hn)
section
variable {P:Program} {A:Run} {W:Wd} {E:Env} {L:TypeId→Option Lt} (hE:dom P A=mkE W E)
include hE
theorem L_hcall {α β:Type} {v:β} {f:FuncId} {args args':List V} {s:St} {sh:RF→α→V} {hs:RF→α→List Row} {H H0:List Row} {g:Option α} {X:α→Option β} {K:V→St→Prop} {R:RF} (hR:R=rw) (σ:List Nat) (Z:List Bool) (h:g.bind X=some v) (hF:∀r,g=some r→HFun P f args' H (sh rw r) (hs rw r)) (hZ:H.map isBoxB=Z) (hl:σ.length=Z.length) (hd:nodupB σ=true)
 (hrow:hrows σ s.heap σ=some H0) (hle:H0.map nrmRow=H) (he:nrm.nrmL (renL (pos σ) args)=args') (hfree:freeL E.free σ Z)
 (hK:∀r,X r=some v→K ((sh R r).ren (back σ)) ⟨renL (keepN σ Z) s.tmps,heapH σ Z (hs R r) 0 s.heap,s.base⟩):E.call f args s K:=by
 obtain ⟨r,h1,h2⟩:=conv_some h
 subst hR
 have hK:=hK r h2
 have hf0:∀id,E.free id→A.pin id=none:=fun id h=>by
  have e:(mkE W E).free id:=h
  rw [←hE] at e;exact e
 show (mkE W E).call _ _ _ _
 rw [←hE]
 subst hle
 refine call_H σ hZ (hF r h1) (by rw [hl,←hZ];simp) hd hrow (rows_nrm H0) (fun cx w us ha=>by rw [←he];exact nrms_le _ _ _ _ ha) (fun i id h1 h2=>hf0 id (freeL_get hfree hl i id h1 fun e=>?_)) hK
 rw [←hZ,List.getElem?_map] at e
 obtain ⟨y,hy,e⟩:=Option.map_eq_some_iff.1 e
 cases y with
 | box ty cs=>exact h2 ty cs hy
 | list=>cases e
 | iter=>cases e
 | map=>cases e
 | hole=>cases e
end
def freeB (Z:List Bool) (id:Nat):Bool:=match Z[id]? with
 | some true=>false
 | _=>true
theorem hfun_w {P:Program} {L:TypeId→Option Lt} (hL:LayOk P L) {f:FuncId} {fn:Func} {c:Code} {args:List V} {v:V} {H H':List Row} (hcall:Callable P f) (hf:P.funcs[f]?=some fn) (hb:fn.body=some c) (Z:List Bool) (hZ:H.map isBoxB=Z)
 (h:∀(A:Run) (W:Wd) (E:Env) (Q:Ex→St→Prop) (R:(α:Type)→(α→List Ab.T)→List α→Ab.Rows),dom P A=mkE W E→R=rw→(∀id,freeB Z id=true→E.free id)→
  (∀s r v' H2,resV L fn.results.toList s=some r→r.frzP H.length s.heap=some v'→rowsQ H.length s.heap (s.heap.take H.length)=some H2→nrm v'=v→H2.map nrmRow=H'→Q .ret s∧Q .normal s)→
  jwp (mkE W E) L c ⟨args++List.replicate (fn.ntmps-args.length) .junk,H.map some,H.length⟩ Q):HFun P f args H v H':=
 HFun_of hL hcall hf hb fun A Q hf hQ=>jwp_sound hL _ _ _ (h A (dom P A).wd (dom P A) Q rw rfl rfl (fun id hid=>hf id fun ty cs e=>by
  have h1:Z[id]?=some true:=by rw [←hZ,List.getElem?_map,e];rfl
  unfold freeB at hid
  rw [h1] at hid
  cases hid) fun s r v' H2 h1 h2 h3 h4 h5=>hQ s r v' H2 h1 h2 h3 (h4▸nrm_le v') (h5▸rows_nrm H2))
theorem _root_.Go.Proofs.YtbpihhelojjedaaDoor.Ab.Rel.opn {A:Run} {cx:Cx} {s:St} {a:Act} {w:World} (R:Rel A cx s a w) (id k:Nat) (ty2 es:Nat) {ty:TypeId} {cs:List V} (hrow:s.heap.getD id none=some (.box ty cs)) (hk:cs[k]?=some vNil):
 ∃cx2,cx.le cx2∧Rel A cx2 ⟨s.tmps,(s.heap.set id (some (.box ty (cs.set k (.lst s.heap.length)))))++[some (.list ty2 es [])],s.base⟩ a w:=by
 have hid:id<s.heap.length:=(List.getElem?_eq_some_iff.1 (getD_row hrow)).1
 let cx2:Cx:=⟨fun i=>if i=s.heap.length then some (.nil true) else cx.at_ i,cx.G⟩
 have c1:cx2.at_ s.heap.length=some (.nil true):=if_pos rfl
 have c2:∀i,i≠s.heap.length→cx2.at_ i=cx.at_ i:=fun i h=>if_neg h
 have h0:cx.at_ s.heap.length=none:=R.hp.dom _ (Nat.le_refl _)
 have hle:cx.le cx2:=⟨fun i B h=>by
  rw [c2 i (fun e=>by rw [e,h0] at h;cases h)];exact h,fun _ h=>h⟩
 have get:∀(i:Nat) r,((s.heap.set id (some (.box ty (cs.set k (.lst s.heap.length)))))++[some (Row.list ty2 es [])])[i]?=some (some r)→(i=s.heap.length∧r=.list ty2 es [])∨(i<s.heap.length∧((i=id∧r=.box ty (cs.set k (.lst s.heap.length)))∨(i≠id∧s.heap[i]?=some (some r)))):=fun i r h=>by
  by_cases hi:i<s.heap.length
  · rw [List.getElem?_append_left (by simpa using hi)] at h
    refine .inr ⟨hi,?_⟩
    by_cases e:id=i
    · subst e;rw [List.getElem?_set_self hid] at h;cases h;exact .inl ⟨rfl,rfl⟩
    · rw [List.getElem?_set_ne e] at h;exact .inr ⟨Ne.symm e,h⟩
  · rw [List.getElem?_append_right (by simpa using hi)] at h
    have hl:=(List.getElem?_eq_some_iff.1 h).1
    have hi2:i=s.heap.length:=by simp at hl;omega
    subst hi2
    simp at h
    exact .inl ⟨rfl,h.symm⟩
 have old:∀(i:Nat) r b cap es' len,((s.heap.set id (some (.box ty (cs.set k (.lst s.heap.length)))))++[some (Row.list ty2 es [])])[i]?=some (some r)→cx2.at_ i=some (.at b cap es' len)→∃r',s.heap[i]?=some (some r')∧cx.at_ i=some (.at b cap es' len):=fun i r b cap es' len h hat=>by
  rcases get i r h with ⟨rfl,-⟩ | ⟨hi,h⟩
  · rw [c1] at hat;cases hat
  · rw [c2 i (by omega)] at hat
    rcases h with ⟨rfl,-⟩ | ⟨-,h⟩
    · exact ⟨_,getD_row hrow,hat⟩
    · exact ⟨_,h,hat⟩
 refine ⟨cx2,hle,⟨R.tm.mono (Same.refl _ _) hle,R.df,⟨fun i r h=>?_,fun i i' r r' b cap es1 len cap' es2 len' h1 h2 h3 h4=>?_,fun i hi=>?_⟩,⟨R.kp.os,R.kp.tape,R.kp.output,R.kp.size,R.kp.block,fun i r b cap es' len h hat=>?_,R.kp.G0,R.kp.G1,R.kp.G2,fun i B h=>?_,?_,R.kp.tab⟩,R.bs⟩⟩
 · rcases get i r h with ⟨rfl,rfl⟩ | ⟨hi,⟨rfl,rfl⟩ | ⟨hne,h⟩⟩
   · exact .listN _ _ true c1 (fun h=>by cases h)
   · have hR:=R.hp.row i _ (getD_row hrow)
     cases hR with
     | box _ _ b vs hat hb hG hr=>
       refine .box ty _ b vs (by rw [c2 _ (by omega),hat,List.length_set]) hb hG ⟨by rw [List.length_set];exact hr.1,fun j c u q1 q2=>?_⟩
       by_cases e:k=j
       · subst e
         rw [List.getElem?_set_self (List.getElem?_eq_some_iff.1 hk).1] at q1
         cases q1
         have:=inv_flat (hr.2 _ _ _ hk q2)
         subst this
         exact .lstN _ none true c1 (fun _=>rfl)
       · rw [List.getElem?_set_ne e] at q1
         exact (hr.2 j c u q1 q2).mono (Same.refl _ _) hle
   · exact (R.hp.row i r h).but2 (fun _ _ _ _ _=>rfl) (Same.refl _ _) hle (fun c cap es len hc=>(R.hp.live_lt h hc).2)
 · obtain ⟨x,q1,q2⟩:=old _ _ _ _ _ _ h1 h3
   obtain ⟨x',q3,q4⟩:=old _ _ _ _ _ _ h2 h4
   exact R.hp.inj _ _ _ _ _ _ _ _ _ _ _ q1 q3 q2 q4
 · have hi':s.heap.length+1≤i:=by simpa using hi
   rw [c2 i (by omega)]
   exact R.hp.dom i (by omega)
 · obtain ⟨x,q1,q2⟩:=old _ _ _ _ _ _ h hat
   exact R.kp.live _ _ _ _ _ _ q1 q2
 · obtain ⟨q1,q2⟩:=R.kp.pin i B h
   have:=R.kp.base
   exact ⟨by rw [c2 i (by omega)];exact q1,q2⟩
 · have:=R.kp.base
   simp;omega
theorem L_opn {P:Program} {A:Run} {W:Wd} {E:Env} (hE:dom P A=mkE W E) {f:FuncId} {args:List V} {s:St} {K:V→St→Prop} (id k:Nat) (ty2 es:Nat) {ty:TypeId} {cs:List V} (hrow:s.heap.getD id none=some (.box ty cs)) (hk:cs[k]?=some vNil)
 (hK:E.call f args ⟨s.tmps,(s.heap.set id (some (.box ty (cs.set k (.lst s.heap.length)))))++[some (.list ty2 es [])],s.base⟩ K):E.call f args s K:=by
 have hK':(mkE W E).call f args ⟨s.tmps,(s.heap.set id (some (.box ty (cs.set k (.lst s.heap.length)))))++[some (.list ty2 es [])],s.base⟩ K:=hK
 show (mkE W E).call _ _ _ _
 rw [←hE] at hK' ⊢
 refine ⟨hK'.1,fun cx a w cargs R hargs=>?_⟩
 obtain ⟨cx2,hle,R2⟩:=R.opn id k ty2 es hrow hk
 exact hK'.2 cx2 a w cargs R2 (hargs.mono (Same.refl _ _) hle)
end Sh
end Go.Proofs.YtbpihhelojjedaaDoor
namespace Go.Proofs.YtbpihhelojjedaaDoor
open Go Go.RowKit
open Ab
namespace Sh
theorem ren_t {ρ:Nat→Option Nat} {c:V} {x:Ab.T} (h:c.ren ρ=.t x):c=.t x:=by
 cases c<;>rw [V.ren] at h<;>first | exact h | (split at h<;>cases h) | cases h
theorem renL_t {ρ:Nat→Option Nat}:∀l:List V,(renL ρ l).all (fun c=>match c with | .t _=>true | _=>false)=true→renL ρ l=l
 | [],_=>rfl
 | c ::l,h=>by
   rw [renL,List.all_cons,Bool.and_eq_true] at h
   rw [renL,renL_t l h.2]
   have h1:=h.1
   split at h1
   · rename_i x hx
     rw [hx,ren_t hx]
   · cases h1
theorem ren_keep {ρ:Nat→Option Nat} (hρ:∀i j,ρ i=some j→j=i):∀u:V,okV (u.ren ρ)=true→u.ren ρ=u
 | .t x,_=>by rw [V.ren]
 | .ptr id off,h=>by
   rw [V.ren] at h ⊢
   split at h
   · rename_i j hj;rw [hρ _ _ hj]
   · cases h
 | .agg cs,h=>by
   rw [V.ren] at h ⊢
   by_cases hall:(renL ρ cs).all V.cellB=true
   · rw [if_pos hall] at h ⊢
     rw [renL_t cs h]
   · rw [if_neg hall] at h;cases h
 | .tup cs,h=>by rw [V.ren] at h;cases h
 | .lst id,h=>by rw [V.ren] at h;split at h<;>cases h
 | .elt id r off,h=>by rw [V.ren] at h;split at h<;>cases h
 | .win id lo,h=>by rw [V.ren] at h;split at h<;>cases h
 | .mp id,h=>by rw [V.ren] at h;split at h<;>cases h
 | .pre id n,h=>by rw [V.ren] at h;split at h<;>cases h
 | .ipt c o,h=>by rw [V.ren] at h;cases h
 | .fn f cs,h=>by rw [V.ren] at h;cases h
 | .ifc t v,h=>by rw [V.ren] at h;cases h
 | .junk,h=>by rw [V.ren] at h;cases h
theorem keepN_self {σ:List Nat} {Z:List Bool} (i j:Nat) (h:keepN σ Z i=some j):j=i:=by
 unfold keepN at h
 split at h
 · cases h;rfl
 · split at h
   · cases h;rfl
   · cases h
def fxH (σ:List Nat) (Z:List Bool) (f:FuncId) (args':List V) (H H':List Row) (v:V):Fx where
 κ:=V.ren (keepN σ Z)
 φ:=heapH σ Z H' 0
 v:=v.ren (back σ)
 cond xs hp:=match xs with
  | .fn g caps::args=>g=f∧(match hrows σ hp σ with
    | some H0=>H0.map nrmRow=H
    | none=>False)∧nrm.nrmL (renL (pos σ) (args++caps))=args'
  | _=>False
 ok:=ren_keep keepN_self
 junk:=rfl
 len h:=heapH_len h 0
section
variable {P:Program} {A:Run} {W:Wd} {E:Env} {L:TypeId→Option Lt} (hE:dom P A=mkE W E)
include hE
theorem L_fx1 (hL:LayOk P L) (hm:P.follows .mixedOrders=true) {all:List Oper} {s:St} {K:St→Prop} (n i:Nat) (F:Fx) (com:List Nat) (hpB:List (Option Row)) (hB:Region.lexTailB .any all.toArray n=true) (hk:chkW all n [(i,F)] com=true) (hk2:chkF all n [(i,F)] com=true)
 (hsd:∀o,all[i]?=some o→∀(s:St) (k:St→Prop),F.cond (o.op.operands.toList.map s.ev) s.heap→k (F.st s o.dst)→pop (mkE W E) L o s k) (hlen:hpB.length≤s.heap.length) (hmask:maskEq hpB s.heap)
 (h:runW (stpW (mkE W E) L all s.heap.length [(i,F)] com hpB) (fun s'=>pops (mkE W E) L all [] (all.drop n) s' K) 0 n (s.wide all.length)):E.draw all s K:=by
 show (mkE W E).draw all s K
 rw [←hE] at h hsd ⊢
 refine draw_fx hL hm n [(i,F)] com hpB hB hk hk2 (fun j o G ho hG s k hc hk=>?_) hlen hmask h
 simp only [fxAt] at hG
 split at hG
 · rename_i hb
   simp at hb;subst hb;cases hG
   exact hsd o ho s k hc hk
 · cases hG
theorem fxH_sd {α:Type} {f:FuncId} {args':List V} {H H':List Row} {v:V} (σ:List Nat) (Z:List Bool) (hF:HFun P f args' H v H') (hZ:H.map isBoxB=Z) (hl:σ.length=Z.length) (hd:nodupB σ=true) (hfree:freeL E.free σ Z) {o:Oper} {c:Call} {x:Operand} (ho:o.op=.call c) (hc:c.callee=.value x)
 (s:St) (k:St→Prop) (h:(fxH σ Z f args' H H' v).cond (o.op.operands.toList.map s.ev) s.heap) (hk:k ((fxH σ Z f args' H H' v).st s o.dst)):pop (mkE W E) L o s k:=by
 have hop:o.op.operands.toList.map s.ev=s.ev x::c.args.toList.map s.ev:=by
  rw [ho];show (c.operands).toList.map s.ev=_
  unfold Call.operands
  rw [hc]
  simp
 rw [hop] at h
 unfold pop
 rw [ho]
 simp only [hc]
 simp only [fxH] at h
 split at h
 case h_2=>cases h
 rename_i g caps args he
 injection he with h1 h2
 rw [h1,h2]
 simp only
 obtain ⟨rfl,h3,h4⟩:=h
 split at h3
 case h_2=>cases h3
 rename_i H0 hrow
 refine L_hcall hE rfl (α:=Unit) (β:=Unit) (g:=some ()) (X:=fun _=>some ()) (v:=()) (sh:=fun _ _=>v) (hs:=fun _ _=>H') σ Z rfl (fun _ _=>hF) hZ hl hd hrow h3 h4 hfree fun _ _=>?_
 have e:(⟨renL (keepN σ Z) s.tmps,heapH σ Z H' 0 s.heap,s.base⟩:St)=⟨s.tmps.map (V.ren (keepN σ Z)),heapH σ Z H' 0 s.heap,s.base⟩:=by rw [renL_map]
 rw [e]
 exact hk
theorem L_fxH {α β:Type} {v:β} {f:FuncId} {args':List V} {sh:RF→α→V} {hs:RF→α→List Row} {H:List Row} {g:Option α} {X:α→Option β} {R:RF} (hR:R=rw) (hL:LayOk P L) (hm:P.follows .mixedOrders=true) {all:List Oper} {s:St} {K:St→Prop} (n i:Nat) (com:List Nat) (hpB:List (Option Row)) (σ:List Nat) (Z:List Bool) (aR:List V) (HR:List Row)
 (h:g.bind X=some v) (hF:∀r,g=some r→HFun P f args' H (sh rw r) (hs rw r)) (hA:aR=args') (hH:HR=H) (hZ:H.map isBoxB=Z) (hl:σ.length=Z.length) (hd:nodupB σ=true) (hfree:freeL E.free σ Z)
 {o:Oper} {c:Call} {x:Operand} (hi:all[i]?=some o) (ho:o.op=.call c) (hc:c.callee=.value x)
 (hB:Region.lexTailB .any all.toArray n=true) (hk:∀F,chkW all n [(i,F)] com=true) (hk2:∀F,chkF all n [(i,F)] com=true) (hlen:hpB.length≤s.heap.length) (hmask:maskEq hpB s.heap)
 (hK:∀r,X r=some v→∀K':St→Prop,(∀s',pops (mkE W E) L all [] (all.drop n) s' K→K' s')→runW (stpW (mkE W E) L all s.heap.length [(i,fxH σ Z f aR HR (hs R r) (sh R r))] com hpB) K' 0 n (s.wide all.length)):E.draw all s K:=by
 obtain ⟨r,h1,h2⟩:=conv_some h
 subst hR hA hH
 refine L_fx1 hE hL hm n i _ com hpB hB (hk _) (hk2 _) (fun o' ho' s k hc' hk'=>?_) hlen hmask (hK r h2 _ fun _ h=>h)
 rw [hi] at ho'
 cases ho'
 exact fxH_sd (α:=α) hE σ Z (hF r h1) hZ hl hd hfree ho hc s k hc' hk'
end
theorem kill_keep {id:Nat}:∀u:V,okV (u.kill id)=true→u.kill id=u
 | .t x,_=>rfl
 | .ptr j o,h=>by
   rw [V.kill] at h ⊢
   by_cases e:j=id
   · rw [if_pos e] at h;cases h
   · rw [if_neg e]
 | .agg cs,h=>by
   rw [V.kill] at h ⊢
   cases hk:killAny id cs with
   | true=>rw [hk] at h;cases h
   | false=>rfl
 | .tup cs,h=>by rw [V.kill] at h;cases h
 | .lst j,h=>by rw [V.kill] at h;split at h<;>cases h
 | .elt j r o,h=>by rw [V.kill] at h;split at h<;>cases h
 | .win j l,h=>by rw [V.kill] at h;split at h<;>cases h
 | .mp j,h=>by rw [V.kill] at h;split at h<;>cases h
 | .pre j n,h=>by rw [V.kill] at h;split at h<;>cases h
 | .ipt c o,h=>by cases h
 | .fn f cs,h=>by rw [V.kill] at h;cases h
 | .ifc t v,h=>by rw [V.kill] at h;cases h
 | .junk,h=>by cases h
def fxA (id:Nat) (ty es:Nat) (rows new rows':Ab.Rows):Fx where
 κ:=V.kill id
 φ h:=(h.map (killRow id)).set id (some (.list ty es rows'))
 v:=.lst id
 cond xs hp:=match xs with
  | [.lst j,y]=>j=id∧hp.getD id none=some (.list ty es rows)∧rowsAt hp y=some new
  | _=>False
 ok:=kill_keep
 junk:=rfl
 len h:=by simp
section
variable {P:Program} {A:Run} {W:Wd} {E:Env} {L:TypeId→Option Lt} (hE:dom P A=mkE W E)
include hE
omit hE in
theorem fxA_sd {id es:Nat} {rows new rows':Ab.Rows} {t:TypeId} {lt le:Lt} (hlt:L t=some lt) (hk:lt.kind=3) (hle:L lt.elem=some le) (hpos:0<le.size) (hes:es=le.size) (hf:E.free id) (hroom:E.room rows new le.size le.bytes) (happ:W.lapp rows new=rows') {o:Oper} {c:Call} {x y:Operand} (ho:o.op=.call c) (hc:c.callee=.builtin .append) (ht:c.argTypes=#[t,t]) (hx:c.args=#[x,y])
 (s:St) (k:St→Prop) (h:(fxA id lt.elem es rows new rows').cond (o.op.operands.toList.map s.ev) s.heap) (hK:k ((fxA id lt.elem es rows new rows').st s o.dst)):pop (mkE W E) L o s k:=by
 have hop:o.op.operands.toList.map s.ev=[s.ev x,s.ev y]:=by
  rw [ho];show (c.operands).toList.map s.ev=_
  unfold Call.operands
  rw [hc,hx]
  rfl
 rw [hop] at h
 simp only [fxA] at h
 split at h
 case h_2=>cases h
 rename_i j y' he
 injection he with h1 h2
 injection h2 with h2 _
 obtain ⟨rfl,h3,h4⟩:=h
 have hn:newRows (mkE W E) L lt.elem t t s.heap (s.ev y)=some new:=by
  rw [←h2] at h4
  unfold newRows
  split
  · rename_i e;rw [e] at h4;cases h4
  · rw [if_pos rfl];exact h4
 unfold pop
 rw [ho]
 simp only [hc,ht,hx,hlt,hk,hle,hpos,if_true,hn,h1,h3]
 subst hes
 simp only [if_true]
 refine ⟨hf,hroom,?_⟩
 have e:(mkE W E).lapp rows new=rows':=happ
 rw [e]
 have e2:((s.kill j).setRow j (.list lt.elem le.size rows')).put o.dst (.lst j)=(fxA j lt.elem le.size rows new rows').st s o.dst:=by
  show _=(⟨s.tmps.map (V.kill j),(s.heap.map (killRow j)).set j (some (.list lt.elem le.size rows')),s.base⟩:St).put o.dst (.lst j)
  rw [←killL_map]
  rfl
 rw [e2]
 exact hK
theorem L_fxA {α β:Type} {v:β} {e:α→List Ab.T} {l m:List α} {new:Ab.Rows} {X:List α→Option β} {R:RF} (hR:R=rw) (hL:LayOk P L) (hm:P.follows .mixedOrders=true) {all:List Oper} {s:St} {K:St→Prop} (n i:Nat) (com:List Nat) (hpB:List (Option Row)) (id:Nat)
 (h:(app e l m).bind X=some v) (hn:new=List.map e m) (hf:E.free id) {es:Nat} (hes:∀x,(e x).length=es) {t:TypeId} {lt le:Lt} (hlt:L t=some lt) (hk3:lt.kind=3) (hle:L lt.elem=some le) (hpos:0<le.size) (he2:es=le.size) (hb:le.bytes≤1000)
 {o:Oper} {c:Call} {x y:Operand} (hi:all[i]?=some o) (ho:o.op=.call c) (hc:c.callee=.builtin .append) (ht:c.argTypes=#[t,t]) (hx:c.args=#[x,y])
 (hB:Region.lexTailB .any all.toArray n=true) (hk:∀F,chkW all n [(i,F)] com=true) (hk2:∀F,chkF all n [(i,F)] com=true) (hlen:hpB.length≤s.heap.length) (hmask:maskEq hpB s.heap)
 (hK:∀l',X l'=some v→∀K':St→Prop,(∀s',pops (mkE W E) L all [] (all.drop n) s' K→K' s')→runW (stpW (mkE W E) L all s.heap.length [(i,fxA id lt.elem es (R α e l) new (R α e l'))] com hpB) K' 0 n (s.wide all.length)):E.draw all s K:=by
 subst hn
 obtain ⟨x',h1,h2⟩:=conv_some h
 subst hR
 unfold app at h1
 split at h1
 case isFalse=>cases h1
 cases h1
 have room:E.room (rw α e l) (rw α e m) es le.bytes:=(r_room (c:=True) hE (fun row hr=>by obtain ⟨y,-,rfl⟩:=List.mem_map.1 hr;exact hes y) (by simpa [rw] using ‹l.length+m.length≤1000000000›) hb trivial).1
 have happ:W.lapp (rw α e l) (rw α e m)=rw α e (l++m):=by rw [wE hE];exact List.map_append.symm
 refine L_fx1 hE hL hm n i _ com hpB hB (hk _) (hk2 _) (fun o' ho' s k hc' hk'=>?_) hlen hmask (hK _ h2 _ fun _ h=>h)
 rw [hi] at ho'
 cases ho'
 exact fxA_sd (E:=E) hlt hk3 hle hpos he2 hf (by rw [←he2];exact room) happ ho hc ht hx s k hc' hk'
end
def fxS (id off:Nat) (vs:List V):Fx where
 κ u:=u
 φ h:=match h.getD id none with
   | some (.box ty cs)=>h.set id (some (.box ty (patch cs off vs)))
   | _=>h
 v:=.junk
 cond xs hp:=match xs with
  | [.ptr j o,y]=>j=id∧o=off∧y.cells=vs∧(match hp.getD id none with
    | some (.box ty cs)=>Nat.ble (off+vs.length) cs.length=true
    | _=>False)∧vs.all V.cellB=true
  | _=>False
 ok _ _:=rfl
 junk:=rfl
 len h:=by split<;>simp
def fxsOf:List (Nat × Nat × Nat × List V)→List (Nat × Fx)
 | []=>[]
 | (i,id,off,vs)::l=>(i,fxS id off vs)::fxsOf l
def stOk (L:TypeId→Option Lt) (all:List Oper):List (Nat × Nat × Nat × List V)→Bool
 | []=>true
 | (i, _,_,vs)::l=>(match all[i]? with
   | some o=>match o.op,o.dst with
     | .store t _ _,none=>match L t with
       | some lt=>Nat.beq lt.size vs.length
       | none=>false
     | _,_=>false
   | none=>false)&&stOk L all l
theorem fxsOf_mem {L:TypeId→Option Lt} {all:List Oper}:∀{l:List (Nat × Nat × Nat × List V)} {i:Nat} {F:Fx},stOk L all l=true→(i,F)∈fxsOf l→∃id off vs,F=fxS id off vs∧∀o,all[i]?=some o→∃t x y lt,o.op=.store t x y∧o.dst=none∧L t=some lt∧lt.size=vs.length
 | [],_,_,_,h=>by cases h
 | (j, id,off,vs)::l,i,F,hs,h=>by
   simp only [stOk,Bool.and_eq_true] at hs
   rcases List.mem_cons.1 h with h | h
   · injection h with h1 h2
     subst h1
     refine ⟨id,off,vs,h2,fun o ho=>?_⟩
     have h3:=hs.1
     rw [ho] at h3
     simp only at h3
     split at h3
     · rename_i t x y e1 e2
       split at h3
       · rename_i lt hlt;exact ⟨t,x,y,lt,e1,e2,hlt,by simpa using h3⟩
       · cases h3
     · cases h3
   · exact fxsOf_mem hs.2 h
section
variable {P:Program} {A:Run} {W:Wd} {E:Env} {L:TypeId→Option Lt} (hE:dom P A=mkE W E)
theorem fxS_sd {E:Env} {id off:Nat} {vs:List V} {t:TypeId} {x y:Operand} {lt:Lt} {o:Oper} (ho:o.op=.store t x y) (hd:o.dst=none) (hlt:L t=some lt) (hsz:lt.size=vs.length) (s:St) (k:St→Prop) (h:(fxS id off vs).cond (o.op.operands.toList.map s.ev) s.heap) (hk:k ((fxS id off vs).st s o.dst)):pop E L o s k:=by
 rw [ho] at h
 have h:(fxS id off vs).cond [s.ev x,s.ev y] s.heap:=h
 simp only [fxS] at h
 split at h
 case h_2=>cases h
 rename_i j o' y' he
 injection he with h1 h2
 injection h2 with h2 _
 obtain ⟨rfl,rfl,h3,h4,h5⟩:=h
 split at h4
 case h_2=>cases h4
 rename_i ty cs hrow
 have h6:o'+vs.length≤cs.length:=by simpa using h4
 unfold pop
 rw [ho]
 simp only [hd,h1,h2,hrow,h3,h6,h5,hlt,hsz,if_true]
 rw [hd] at hk
 have e:(fxS j o' vs).st s none=s.setRow j (.box ty (patch cs o' vs)):=by
  show (⟨s.tmps.map (fun u=>u),_,s.base⟩:St)=_
  simp only [List.map_id',fxS,hrow]
  rfl
 rw [e] at hk
 exact hk
include hE
theorem L_fxS (hL:LayOk P L) (hm:P.follows .mixedOrders=true) {all:List Oper} {s:St} {K:St→Prop} (n:Nat) (sts:List (Nat × Nat × Nat × List V)) (com:List Nat) (hpB:List (Option Row)) (hB:Region.lexTailB .any all.toArray n=true) (hk:chkW all n (fxsOf sts) com=true) (hk2:chkF all n (fxsOf sts) com=true) (hs:stOk L all sts=true) (hlen:hpB.length≤s.heap.length) (hmask:maskEq hpB s.heap)
 (hK:∀K':St→Prop,(∀s',pops (mkE W E) L all [] (all.drop n) s' K→K' s')→runW (stpW (mkE W E) L all s.heap.length (fxsOf sts) com hpB) K' 0 n (s.wide all.length)):E.draw all s K:=by
 have h:=hK _ fun _ h=>h
 show (mkE W E).draw all s K
 rw [←hE] at h ⊢
 refine draw_fx hL hm n (fxsOf sts) com hpB hB hk hk2 (fun j o G ho hG s k hc hk=>?_) hlen hmask h
 obtain ⟨id,off,vs,rfl,h1⟩:=fxsOf_mem hs (fxAt_mem hG)
 obtain ⟨t,x,y,lt,e1,e2,e3,e4⟩:=h1 o ho
 exact fxS_sd e1 e2 e3 e4 s k hc hk
end
section
variable {P:Program} {A:Run} {W:Wd} {E:Env} {L:TypeId→Option Lt} (hE:dom P A=mkE W E)
theorem L_clr0 {α β:Type} {v:β} {R:RF} (hR:R=rw) {e:α→List Ab.T} {l:List α} {c:Prop} {z:α} {X:List α→Option β} (hE:dom P A=mkE W E) (h:(some (List.replicate l.length z)).bind X=some v) (k:∀l',W.lzero (W.llen (R α e l)) (e z)=R α e l'→X l'=some v→c):c:=by
 subst hR
 refine k _ ?_ h
 rw [wE hE]
 show List.replicate (Int.toNat ((List.map e l).length:Int)) (e z)=List.map e _
 rw [List.map_replicate,List.length_map]
 rfl
include hE
theorem L_denilB {c:Code} {s:St} {Q:Ex→St→Prop} (id k:Nat) {ty:TypeId} {cs:List V} (hrow:s.heap.getD id none=some (.box ty cs)) (hk:cs[k]?=some vNil) (h:E.other c ⟨s.tmps,s.heap.set id (some (.box ty (cs.set k (.t (.slc []))))),s.base⟩ Q):E.other c s Q:=by
 have h':(mkE W E).other c ⟨s.tmps,s.heap.set id (some (.box ty (cs.set k (.t (.slc []))))),s.base⟩ Q:=h
 show (mkE W E).other c s Q
 rw [←hE] at h' ⊢
 intro cx a w R
 have hid:id<s.heap.length:=(List.getElem?_eq_some_iff.1 (getD_row hrow)).1
 have get:∀(i:Nat) r,(s.heap.set id (some (Row.box ty (cs.set k (.t (.slc []))))))[i]?=some (some r)→∃r',s.heap[i]?=some (some r')∧((i=id∧r=.box ty (cs.set k (.t (.slc []))))∨(i≠id∧r=r')):=fun i r h=>by
  by_cases e:id=i
  · subst e;rw [List.getElem?_set_self hid] at h;cases h;exact ⟨_,getD_row hrow,.inl ⟨rfl,rfl⟩⟩
  · rw [List.getElem?_set_ne e] at h;exact ⟨r,h,.inr ⟨Ne.symm e,rfl⟩⟩
 refine h' cx a w ⟨R.tm,R.df,⟨fun i r h=>?_,fun i i' r r' b cap es1 len cap' es2 len' h1 h2 h3 h4=>?_,fun i hi=>R.hp.dom i (by simpa using hi)⟩,⟨R.kp.os,R.kp.tape,R.kp.output,R.kp.size,R.kp.block,fun i r b cap es' len h hat=>?_,R.kp.G0,R.kp.G1,R.kp.G2,R.kp.pin,by simpa using R.kp.base,R.kp.tab⟩,R.bs⟩
 · obtain ⟨r',h1,h2⟩:=get i r h
   rcases h2 with ⟨rfl,rfl⟩ | ⟨-,rfl⟩
   · have hR:=R.hp.row i _ (getD_row hrow)
     cases hR with
     | box _ _ b vs hat hb hG hr=>
       refine .box ty _ b vs (by rw [hat,List.length_set]) hb hG ⟨by rw [List.length_set];exact hr.1,fun j c u q1 q2=>?_⟩
       by_cases e:k=j
       · subst e
         rw [List.getElem?_set_self (List.getElem?_eq_some_iff.1 hk).1] at q1
         cases q1
         exact nrm_le vNil _ _ _ (hr.2 _ _ _ hk q2)
       · rw [List.getElem?_set_ne e] at q1
         exact hr.2 j c u q1 q2
   · exact R.hp.row i r h1
 · obtain ⟨x,q1,-⟩:=get _ _ h1
   obtain ⟨x',q2,-⟩:=get _ _ h2
   exact R.hp.inj _ _ _ _ _ _ _ _ _ _ _ q1 q2 h3 h4
 · obtain ⟨x,q1,-⟩:=get _ _ h
   exact R.kp.live _ _ _ _ _ _ q1 hat
end
end Sh
end Go.Proofs.YtbpihhelojjedaaDoor
