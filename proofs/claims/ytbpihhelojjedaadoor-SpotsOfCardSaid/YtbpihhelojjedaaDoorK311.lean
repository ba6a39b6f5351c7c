/- Texts that the proof leans on. -/
import Derived.Test.YtbpihhelojjedaaDoorK310
import Derived.Still
import Derived.StillTail
set_option linter.unusedVariables false
set_option linter.unusedSimpArgs false
set_option maxRecDepth 100000
set_option maxHeartbeats 4000000
namespace Go.Proofs.YtbpihhelojjedaaDoor
open Go Go.RowKit
namespace Ab
section
variable {P:Program} {A:Run} {L:TypeId→Option Lt}
theorem call_bare {f:FuncId} {args args':List V} {s:St} {v:V} {K:V→St→Prop} (hF:Fun P f args' v) (he:frzL s.heap args=some args') (hb:v.bare=true) (hK:K v s):CallA P A f args s K:=by
 refine ⟨hF.1,fun cx a w cargs R hargs=>?_⟩
 have hG:∀b,(cx.G b∨listBlk cx s.heap b)→b<w.heap.size:=fun b h=>by
  rcases h with h | ⟨id,ty,es,rows,cap,es',len,g1,g2⟩
  · exact R.kp.G1 b h
  · exact (R.hp.live_lt g1 g2).1
 refine (hF.2 _ w cargs hG (R.kp.tab.mono (Same.refl _ _) fun b h=>.inl h) (frz_reps R.hp hargs he)).mono ?_
 rintro e w' ⟨u,rfl,hbl,hrep⟩
 refine .inl ⟨u,v,s,cx,rfl,hK,hrep.of_bare hb,?_⟩
 have h0:cx.at_ s.heap.length=none:=R.hp.dom _ (Nat.le_refl _)
 have X:Res cx w s.heap.length none cx w' v u:=⟨hbl,fun _ _=>rfl,fun _=>rfl,fun _ h=>h,fun _ h=>.inl h,hrep.of_bare hb,fun r e=>by cases e⟩
 have:=R.step X h0 none s.heap (fun id r hr=>by
  have hlt:id<s.heap.length:=(List.getElem?_eq_some_iff.1 hr).1
  exact .inl ⟨by omega,hr⟩) (Nat.le_refl _) (fun h=>absurd rfl h)
 exact this
theorem step_grown {cx:Cx} {s:St} {a:Act} {w w':World} {v:V} {u:Value} (R:Rel A cx s a w) (hbl:Below w.heap.size w w') (hrep:VRep (Cx.none fun b=>cx.G b∨(w.heap.size≤b∧b<w'.heap.size)) w' v u):
 VRep ⟨cx.at_,fun b=>cx.G b∨(w.heap.size≤b∧b<w'.heap.size)⟩ w' v u∧Rel A ⟨cx.at_,fun b=>cx.G b∨(w.heap.size≤b∧b<w'.heap.size)⟩ s a w':=by
 have h0:cx.at_ s.heap.length=none:=R.hp.dom _ (Nat.le_refl _)
 let cx':Cx:=⟨cx.at_,fun b=>cx.G b∨(w.heap.size≤b∧b<w'.heap.size)⟩
 have hv:VRep cx' w' v u:=hrep.mono (Same.refl _ _) (none_le _ _ fun b h=>h)
 have X:Res cx w s.heap.length none cx' w' v u:=⟨hbl,fun _ _=>rfl,fun _=>rfl,fun b h=>.inl h,fun b h=>h,hv,fun r e=>by cases e⟩
 exact ⟨hv,R.step X h0 none s.heap (fun id r hr=>by
  have hlt:id<s.heap.length:=(List.getElem?_eq_some_iff.1 hr).1
  exact .inl ⟨by omega,hr⟩) (Nat.le_refl _) (fun h=>absurd rfl h)⟩
theorem call_fun {f:FuncId} {args:List V} {s:St} {v:V} {K:V→St→Prop} (hF:Fun P f args v) (hc:args.all V.closedB=true) (hK:K v s):CallA P A f args s K:=by
 refine ⟨hF.1,fun cx a w cargs R hargs=>?_⟩
 refine (hF.2 cx.G w cargs R.kp.G1 R.kp.tab (closed_reps hargs hc)).mono ?_
 rintro e w' ⟨u,rfl,hbl,hrep⟩
 obtain ⟨g1,g2⟩:=step_grown R hbl hrep
 exact .inl ⟨u,v,s,_,rfl,hK,g1,g2⟩
theorem call_thr {f:FuncId} {args:List V} {s:St} {v:V} {K:V→St→Prop} (hF:Thr P f args v) (hc:args.all V.closedB=true) (hv:v.closedB=true) (hK:A.pan v s):CallA P A f args s K:=by
 refine ⟨hF.1,fun cx a w cargs R hargs=>?_⟩
 refine (hF.2 cx.G w cargs R.kp.G1 R.kp.tab (closed_reps hargs hc)).mono ?_
 rintro e w' ⟨u,rfl,hbl,hrep⟩
 obtain ⟨g1,g2⟩:=step_grown R hbl hrep
 exact .inr ⟨_,rfl,v,u,s,_,rfl,hv,hK,g1,g2⟩
theorem RowRep.but2 {cx cx':Cx} {w w':World} {id:Nat} {r:Row} (h:RowRep cx w id r) (hb:∀c cap es len,cx.at_ id=some (.at c cap es len)→w'.heap[c]?=w.heap[c]?) (hs:Same cx.G w w') (hc:cx.le cx')
 (hG:∀c cap es len,cx.at_ id=some (.at c cap es len)→¬ cx'.G c):RowRep cx' w' id r:=by
 cases h with
 | box ty cs c vs hat hbl hn hr=>exact .box ty cs c vs (hc.at_ _ _ hat) (by rw [hb _ _ _ _ hat];exact hbl) (hG _ _ _ _ hat) (hr.mono hs hc)
 | listN ty es z hat hz=>exact .listN ty es z (hc.at_ _ _ hat) hz
 | list ty es rows c cap vs hat hbl hn hcap hmax hsz hes hr=>
   refine .list ty es rows c cap vs (hc.at_ _ _ hat) (by rw [hb _ _ _ _ hat];exact hbl) (hG _ _ _ _ hat) hcap hmax hsz hes (fun i j t ht=>?_)
   obtain ⟨u,h1,h2⟩:=hr i j t ht
   exact ⟨u,h1,h2.mono hs hc.G⟩
 | iter s pos c hat hbl hn h0=>exact .iter s pos c (hc.at_ _ _ hat) (by rw [hb _ _ _ _ hat];exact hbl) (hG _ _ _ _ hat) h0
 | map k rows c es clock hat hbl hn h0=>exact .map k rows c es clock (hc.at_ _ _ hat) (by rw [hb _ _ _ _ hat];exact hbl) (hG _ _ _ _ hat) h0
 | hole ty rows r kid c cap vs hat hbl hn hcap hmax hsz hes hlt hr hk=>
   refine .hole ty rows r kid c cap vs (hc.at_ _ _ hat) (by rw [hb _ _ _ _ hat];exact hbl) (hG _ _ _ _ hat) hcap hmax hsz hes hlt (fun i t hi ht=>?_) fun k hk'=>?_
   · obtain ⟨u,h1,h2⟩:=hr i t hi ht
     exact ⟨u,h1,h2.mono hs hc.G⟩
   · obtain ⟨u,h1,h2⟩:=hk k hk'
     exact ⟨u,h1,h2.mono hs hc⟩
theorem Rel.meth {cx:Cx} {s:St} {a:Act} {w w':World} {id b cap es len:Nat} {r r':Row} (R:Rel A cx s a w) (hr:s.heap[id]?=some (some r)) (hat:cx.at_ id=some (.at b cap es len)) (hb:BelowBut b w w')
 (hnew:RowRep ⟨cx.at_,fun c=>cx.G c∨(w.heap.size≤c∧c<w'.heap.size)⟩ w' id r') (hk:isList r'=true→isList r=true):Rel A ⟨cx.at_,fun c=>cx.G c∨(w.heap.size≤c∧c<w'.heap.size)⟩ (s.setRow id r') a w':=by
 obtain ⟨hlt,hnG⟩:=R.hp.live_lt hr hat
 have hs:Same cx.G w w':=fun c hc=>hb.other c (R.kp.G1 c hc) (fun e=>hnG (e▸hc))
 have hid:id<s.heap.length:=(List.getElem?_eq_some_iff.1 hr).1
 have hle:cx.le ⟨cx.at_,fun c=>cx.G c∨(w.heap.size≤c∧c<w'.heap.size)⟩:=⟨fun _ _ h=>h,fun _ h=>.inl h⟩
 have hg:∀(i:Nat) x,(s.heap.set id (some r'))[i]?=some (some x)→(i≠id∧s.heap[i]?=some (some x))∨(i=id∧x=r'):=fun i x hx=>by
  by_cases e:id=i
  · subst e
    rw [List.getElem?_set_self hid] at hx
    cases hx
    exact .inr ⟨rfl,rfl⟩
  · rw [List.getElem?_set_ne e] at hx
    exact .inl ⟨Ne.symm e,hx⟩
 have old:∀(i:Nat) x,(s.heap.set id (some r'))[i]?=some (some x)→∃y,s.heap[i]?=some (some y):=fun i x hx=>by
  rcases hg i x hx with ⟨-,h⟩ | ⟨rfl,-⟩
  · exact ⟨x,h⟩
  · exact ⟨r,hr⟩
 constructor
 · exact R.tm.mono hs hle
 · exact R.df
 · constructor
   · intro i x hx
     rcases hg i x hx with ⟨hne,h⟩ | ⟨rfl,rfl⟩
     · refine (R.hp.row i x h).but2 (fun c cap' es' len' hc=>?_) hs hle (fun c cap' es' len' hc hG=>?_)
       · exact hb.other c (R.hp.live_lt h hc).1 fun e=>by
          subst e
          exact hne (R.hp.inj _ _ _ _ _ _ _ _ _ _ _ h hr hc hat)
       · obtain ⟨h1,h2⟩:=R.hp.live_lt h hc
         rcases hG with h3 | h3
         · exact h2 h3
         · omega
     · exact hnew
   · intro i i' x x' c cap' es' len' cap2 es2 len2 h1 h2 h3 h4
     obtain ⟨y,hy⟩:=old i x h1
     obtain ⟨y',hy'⟩:=old i' x' h2
     exact R.hp.inj _ _ _ _ _ _ _ _ _ _ _ hy hy' h3 h4
   · intro i hi
     exact R.hp.dom i (by simpa [St.setRow] using hi)
 · constructor
   · rw [hb.os];exact R.kp.os
   · rw [hb.tape];exact R.kp.tape
   · rw [hb.output];exact R.kp.output
   · exact Nat.le_trans R.kp.size hb.size
   · intro c hc hM
     rw [hb.other c (Nat.lt_of_lt_of_le hc R.kp.size) (fun e=>?_)]
     · exact R.kp.block c hc hM
     · subst e
       rcases R.kp.live _ _ _ _ _ _ hr hat with h | h
       · exact hM h
       · omega
   · intro i x c cap' es' len' hx hc
     obtain ⟨y,hy⟩:=old i x hx
     exact R.kp.live _ _ _ _ _ _ hy hc
   · exact fun c h=>.inl (R.kp.G0 c h)
   · intro c h
     rcases h with h | h
     · exact Nat.lt_of_lt_of_le (R.kp.G1 c h) hb.size
     · exact h.2
   · intro c h
     rcases h with h | h
     · exact R.kp.G2 c h
     · exact .inr (.inr (Nat.le_trans R.kp.size h.1))
   · exact R.kp.pin
   · have:=R.kp.base
     simpa [St.setRow] using this
   · exact R.kp.tab.mono hs (fun _ h=>.inl h)
 · exact R.bs
theorem call_meth {f:FuncId} {ty:TypeId} {id:Nat} {cells args:List V} {s:St} {o:Out} {K:V→St→Prop} (hM:Meth P f ty cells args o) (hrow:s.heap.getD id none=some (.box ty cells)) (hcc:cells.all V.closedB=true) (hca:args.all V.closedB=true)
 (hK:match o with
  | .ret v cells'=>K v (s.setRow id (.box ty cells'))
  | .pan v=>v.closedB=true∧A.pan v (s.setRow id (.box ty (List.replicate cells.length .junk)))):CallA P A f (.ptr id 0::args) s K:=by
 refine ⟨hM.1,fun cx a w cargs R hargs=>?_⟩
 obtain ⟨u0,r0,rfl,hu,hr⟩:=hargs.uncons
 have hrow':=getD_row hrow
 have hR:=R.hp.row id _ hrow'
 cases hR with
 | box ty cs b vs hat hbl hnG hrv=>
   cases hu with
   | ptr id off b' cap es len h'=>
     rw [hat] at h'
     cases h'
     refine (hM.2 cx.G w b vs r0 R.kp.G1 R.kp.tab hnG hbl (closed_reps hrv hcc) (closed_reps hr hca)).mono ?_
     rintro e w' ⟨hbb,u,vs',g1,g2,g3⟩
     have hlt:=lt_size hbl
     have nG:¬(cx.G b∨(w.heap.size≤b∧b<w'.heap.size)):=fun h=>by
      rcases h with h | h
      · exact hnG h
      · omega
     have up:∀{v:V} {u:Value},VRep (Cx.none fun c=>cx.G c∨(w.heap.size≤c∧c<w'.heap.size)) w' v u→VRep ⟨cx.at_,fun c=>cx.G c∨(w.heap.size≤c∧c<w'.heap.size)⟩ w' v u:=fun h=>h.mono (Same.refl _ _) (none_le _ _ fun _ h=>h)
     cases o with
     | ret v cells'=>
       obtain ⟨rfl,h1,h2⟩:=g3
       have hl:cells'.length=cells.length:=by rw [←h1.1,g2,hrv.1]
       refine .inl ⟨u,v,_,_,rfl,hK,up h2,R.meth hrow' hat hbb (.box ty _ b vs' (by rw [hl];exact hat) g1 nG ⟨h1.1,fun i c x q1 q2=>up (h1.2 i c x q1 q2)⟩) (fun e=>by cases e)⟩
     | pan v=>
       obtain ⟨rfl,h2⟩:=g3
       refine .inr ⟨_,rfl,v,u,_,_,rfl,hK.1,hK.2,up h2,R.meth hrow' hat hbb (.box ty _ b vs' (by rw [List.length_replicate];exact hat) g1 nG ⟨by rw [g2,hrv.1,List.length_replicate],fun i c x q1 q2=>?_⟩) (fun e=>by cases e)⟩
       rw [List.getElem?_replicate] at q1
       split at q1
       · cases q1;exact .junk _
       · cases q1
theorem call_list {f:FuncId} {args:List V} {s:St} {ty es:Nat} {rows:Rows} {K:V→St→Prop} (hF:FunL P f args ty es rows) (hc:args.all V.closedB=true) (hK:K (.lst s.heap.length) (s.push (some (.list ty es rows)))):CallA P A f args s K:=by
 refine ⟨hF.1,fun cx a w cargs R hargs=>?_⟩
 refine (hF.2 cx.G w cargs R.kp.G1 R.kp.tab (closed_reps hargs hc)).mono ?_
 rintro e w' ⟨hbl,cx1,u,rfl,h1,h2,h3,h4,h5⟩
 have h0:cx.at_ s.heap.length=none:=R.hp.dom _ (Nat.le_refl _)
 let cx':Cx:=⟨fun id=>if id=s.heap.length then cx1.at_ 0 else cx.at_ id,cx1.G⟩
 have e1:cx'.at_ s.heap.length=cx1.at_ 0:=if_pos rfl
 have hv:VRep cx' w' (.lst s.heap.length) u:=by
  cases h3 with
  | lstN id a z h hz=>exact .lstN _ _ z (e1.trans h) hz
  | lst id b cap es len h=>exact .lst _ _ _ _ _ (e1.trans h)
 have X:Res cx w s.heap.length (some (.list ty es rows)) cx' w' (.lst s.heap.length) u:=by
  refine ⟨hbl,fun id hid=>if_neg hid,(fun e=>by cases e),h2,h1,hv,fun r e=>?_⟩
  cases e
  refine ⟨h4.ren e1 rfl ⟨_,_,_,rfl⟩,fun b cap es' len hat=>?_⟩
  rw [e1] at hat
  refine ⟨h5 _ _ _ _ hat,?_⟩
  cases h4 with
  | listN ty es z h hz=>rw [h] at hat;cases hat
  | list ty es rows b' cap' vs h hbl=>rw [h] at hat;cases hat;exact lt_size hbl
 have:=R.step X h0 none (s.heap++[some (.list ty es rows)]) (fun id r hr=>by
  by_cases hlt:id<s.heap.length
  · rw [List.getElem?_append_left hlt] at hr
    exact .inl ⟨by omega,hr⟩
  · rw [List.getElem?_append_right (by omega)] at hr
    have hi:id-s.heap.length=0:=by
     have:=(List.getElem?_eq_some_iff.1 hr).1
     simp at this
     omega
    rw [hi] at hr
    simp at hr
    exact .inr ⟨by omega,by rw [hr]⟩) (by simp) (fun _=>by simp)
 exact .inl ⟨u,_,_,cx',rfl,hK,hv,this⟩
theorem call_methL {f:FuncId} {ty es id:Nat} {rows rows':Rows} {args:List V} {v:V} {s:St} {K:V→St→Prop} (hM:MethL P f ty es rows args v rows') (hrow:s.heap.getD id none=some (.list ty es rows)) (hne:rows≠[]) (hca:args.all V.closedB=true)
 (hK:K v (s.setRow id (.list ty es rows'))):CallA P A f (.lst id::args) s K:=by
 refine ⟨hM.1,fun cx a w cargs R hargs=>?_⟩
 obtain ⟨u0,r0,rfl,hu,hr⟩:=hargs.uncons
 have hrow':=getD_row hrow
 have hR:=R.hp.row id _ hrow'
 cases hR with
 | listN=>exact absurd rfl hne
 | list ty es rows b cap vs hat hbl hnG hcap hmax hsz hes hrr=>
   cases hu with
   | lstN id a0 z0 h' hz0=>rw [hat] at h';cases h'
   | lst id b' cap' es' len h'=>
     have hat2:=hat
     rw [hat] at h'
     cases h'
     refine (hM.2 cx.G w b cap r0 R.kp.G1 R.kp.tab (.list ty es rows b cap vs rfl hbl hnG hcap hmax hsz hes hrr) (closed_reps hr hca)).mono ?_
     rintro e w' ⟨hbb,u,rfl,hl,hR',hv⟩
     have up:∀{v:V} {u:Value},VRep (Cx.none fun c=>cx.G c∨(w.heap.size≤c∧c<w'.heap.size)) w' v u→VRep ⟨cx.at_,fun c=>cx.G c∨(w.heap.size≤c∧c<w'.heap.size)⟩ w' v u:=fun h=>h.mono (Same.refl _ _) (none_le _ _ fun _ h=>h)
     refine .inl ⟨u,v,_,_,rfl,hK,up hv,R.meth hrow' hat2 hbb (hR'.ren (id':=id) ?_ rfl ⟨_,_,_,rfl⟩) (fun _=>rfl)⟩
     exact hat2
theorem calmL_map (hp:List (Option Row)):∀l:List V,V.calm.calmL hp l=l.map (V.calm hp)
 | []=>rfl
 | v::r=>by rw [V.calm.calmL,calmL_map hp r];rfl
theorem calmB_get:∀{l:List V},V.calm.calmB l=true→∀(i:Nat) (c:V),l[i]?=some c→∃x,c=.t x
 | [],_,i,c,h=>by simp at h
 | v ::r,hn,i,c,h=>by
   cases v with
   | t x=>
     cases i with
     | zero=>simp at h;subst h;exact ⟨x,rfl⟩
     | succ i=>exact calmB_get (by simpa [V.calm.calmB] using hn) i c (by simpa using h)
   | _=>simp [V.calm.calmB] at hn
theorem VRep.calm {cx cx':Cx} {w w':World} {heap:List (Option Row)} {v:V} {u:Value} (h:VRep cx w v u) (hs:Same cx.G w w') (hG:∀b,cx.G b→cx'.G b)
 (hat:∀id B,(∀ty es rows,heap[id]?≠some (some (.list ty es rows)))→cx.at_ id=some B→cx'.at_ id=some B):VRep cx' w' (v.calm heap) u:=by
 induction h with
 | t x v h=>exact .t x v (h.mono hs hG)
 | agg cs vs hn hcb hr ih=>
   rw [V.calm]
   split
   · rename_i hb
     refine .agg cs vs hn hcb fun i c u h1 h2=>?_
     obtain ⟨x,rfl⟩:=calmB_get hb i c h1
     exact ih i _ u h1 h2
   · exact .junk _
 | tup cs vs hn hr ih=>
   rw [V.calm,calmL_map]
   refine .tup _ vs (by simpa using hn) fun i c u h1 h2=>?_
   rw [List.getElem?_map] at h1
   obtain ⟨c',hc',rfl⟩:=Option.map_eq_some_iff.1 h1
   exact ih i c' u hc' h2
 | lstN=>exact .junk _
 | lst=>exact .junk _
 | elt=>exact .junk _
 | win=>exact .junk _
 | mp=>exact .junk _
 | pre=>exact .junk _
 | ptr id off b cap es len h=>
   rw [V.calm]
   split
   · exact .junk _
   · rename_i hno
     refine .ptr id off b cap es len (hat id _ (fun ty es rows e=>?_) h)
     exact hno ty es rows (by rw [List.getD_eq_getElem?_getD,e];rfl)
 | ipt cells off b o u hb hc hr=>exact .ipt cells off b o u (hG _ hb) (fun j t h=>by rw [hs.cell hb];exact hc j t h) (fun j t h=>(hr j t h).mono hs hG)
 | fn f cs vs hn hr ih=>
   rw [V.calm,calmL_map]
   refine .fn f _ vs (by simpa using hn) fun i c u h1 h2=>?_
   rw [List.getElem?_map] at h1
   obtain ⟨c',hc',rfl⟩:=Option.map_eq_some_iff.1 h1
   exact ih i c' u hc' h2
 | ifc t v u h ih=>exact .junk _
 | junk v=>exact .junk v
theorem call_body (hL:LayOk P L) {f:FuncId} {fn:Func} {c:Code} {args:List V} {s:St} {K:V→St→Prop} (hcall:Callable P f) (hf:P.funcs[f]?=some fn) (hb:fn.body=some c)
 (h:∀(A':Run) (Q:Ex→St→Prop),A'.pan=(fun v t=>A.pan v ⟨s.tmps.map (V.calm s.heap),t.heap,s.base⟩)→(∀id,(s.heap.length≤id∨(A.pin id=none∧∃ty es rows,s.heap.getD id none=some (.list ty es rows)))→A'.pin id=none)→(∀s' r,resV L fn.results.toList s'=some r→K r ⟨s.tmps.map (V.calm s.heap),s'.heap,s.base⟩→Q .ret s'∧Q .normal s')→
  AW P A' c ⟨args++List.replicate (fn.ntmps-args.length) .junk,s.heap,s.heap.length⟩ Q):CallA P A f args s K:=by
 refine ⟨hcall,fun cx a w cargs R hargs=>?_⟩
 let live:Nat→Prop:=fun b=>∃(id:Nat) (r:Row) (cap es len:Nat),s.heap[id]?=some (some r)∧cx.at_ id=some (.at b cap es len)
 let pin:Nat→Option Blk:=fun id=>match s.heap.getD id none with
  | some (.list _ _ _)=>A.pin id
  | _=>if id<s.heap.length then cx.at_ id else none
 have pin1:∀id B,pin id=some B→cx.at_ id=some B∧id<s.heap.length:=fun id B hB=>by
  have hB':(match s.heap.getD id none with
   | some (.list _ _ _)=>A.pin id
   | _=>if id<s.heap.length then cx.at_ id else none)=some B:=hB
  split at hB'
  · obtain ⟨h1,h2⟩:=R.kp.pin id B hB'
    exact ⟨h1,Nat.lt_of_lt_of_le h2 R.kp.base⟩
  · split at hB'
    · rename_i hlt;exact ⟨hB',hlt⟩
    · cases hB'
 have pin2:∀id B,(∀ty es rows,s.heap[id]?≠some (some (.list ty es rows)))→cx.at_ id=some B→pin id=some B:=fun id B hno hat=>by
  have hlt:id<s.heap.length:=by
   rcases Nat.lt_or_ge id s.heap.length with h | h
   · exact h
   · rw [R.hp.dom id h] at hat;cases hat
  show (match s.heap.getD id none with
   | some (.list _ _ _)=>A.pin id
   | _=>if id<s.heap.length then cx.at_ id else none)=some B
  split
  · rename_i ty es rows hr
    exact absurd (getD_row hr) (hno ty es rows)
  · rw [if_pos hlt];exact hat
 have pin3:∀id B,A.pin id=some B→pin id=some B:=fun id B hB=>by
  obtain ⟨h1,h2⟩:=R.kp.pin id B hB
  show (match s.heap.getD id none with
   | some (.list _ _ _)=>A.pin id
   | _=>if id<s.heap.length then cx.at_ id else none)=some B
  split
  · exact hB
  · rw [if_pos (Nat.lt_of_lt_of_le h2 R.kp.base)];exact h1
 have pin4:∀id,(s.heap.length≤id∨(A.pin id=none∧∃ty es rows,s.heap.getD id none=some (.list ty es rows)))→pin id=none:=fun id h=>by
  show (match s.heap.getD id none with
   | some (.list _ _ _)=>A.pin id
   | _=>if id<s.heap.length then cx.at_ id else none)=none
  rcases h with h | ⟨h,ty,es,rows,hr⟩
  · split
    · rename_i ty es rows hr
      have:=(List.getElem?_eq_some_iff.1 (getD_row hr)).1
      omega
    · exact if_neg (by omega)
  · rw [hr];exact h
 let A':Run:=⟨w,live,cx.G,pin,s.heap.length,fun v t=>A.pan v ⟨s.tmps.map (V.calm s.heap),t.heap,s.base⟩,[]⟩
 have R0:Rel A' cx ⟨args++List.replicate (fn.ntmps-args.length) .junk,s.heap,s.heap.length⟩ {tmps:=cargs++Array.replicate (fn.ntmps-cargs.size) undef,defers:=[]} w:=by
  refine ⟨args_tmps hargs _,rfl,R.hp,?_,rfl⟩
  refine ⟨rfl,rfl,rfl,Nat.le_refl _,fun _ _ _=>rfl,fun id r b cap es len h1 h2=>.inl ⟨id,r,cap,es,len,h1,h2⟩,fun b h=>h,R.kp.G1,fun b h=>.inl h,pin1,Nat.le_refl _,R.kp.tab⟩
 have live1:∀b,live b→A.M b∨A.w.heap.size≤b:=fun b ⟨id,r,cap,es,len,h1,h2⟩=>R.kp.live id r b cap es len h1 h2
 have live2:∀b,live b→¬ cx.G b:=fun b ⟨id,r,cap,es,len,h1,h2⟩=>(R.hp.live_lt h1 h2).2
 have fin:∀{s':St} {cx':Cx} {a':Act} {w':World},Rel A' cx' s' a' w'→Rel A cx' ⟨s.tmps.map (V.calm s.heap),s'.heap,s.base⟩ a w':=fun {s' cx' a' w'} R'=>by
  have hsame:Same cx.G w w':=fun b hb=>R'.kp.block b (R.kp.G1 b hb) (fun hl=>live2 b hl hb)
  constructor
  · refine ⟨by simpa using R.tm.1,fun i c u q1 q2=>?_⟩
    simp only [List.getElem?_map] at q1
    obtain ⟨c',hc',rfl⟩:=Option.map_eq_some_iff.1 q1
    exact (R.tm.2 i c' u hc' q2).calm hsame R'.kp.G0 fun id B hno hat=>(R'.kp.pin id B (pin2 id B hno hat)).1
  · exact R.df
  · exact R'.hp
  · constructor
    · rw [R'.kp.os];exact R.kp.os
    · rw [R'.kp.tape];exact R.kp.tape
    · rw [R'.kp.output];exact R.kp.output
    · exact Nat.le_trans R.kp.size R'.kp.size
    · intro b hb hM
      have hnl:¬ live b:=fun hl=>by
       rcases live1 b hl with h | h
       · exact hM h
       · omega
      rw [R'.kp.block b (Nat.lt_of_lt_of_le hb R.kp.size) hnl]
      exact R.kp.block b hb hM
    · intro id r b cap es len q1 q2
      rcases R'.kp.live id r b cap es len q1 q2 with h | h
      · exact live1 b h
      · exact .inr (Nat.le_trans R.kp.size h)
    · exact fun b h=>R'.kp.G0 b (R.kp.G0 b h)
    · exact R'.kp.G1
    · intro b h
      rcases R'.kp.G2 b h with h | h | h
      · exact R.kp.G2 b h
      · exact .inr (live1 b h)
      · exact .inr (.inr (Nat.le_trans R.kp.size h))
    · intro id B hp
      obtain ⟨g1,g2⟩:=R.kp.pin id B hp
      exact ⟨(R'.kp.pin id B (pin3 id B hp)).1,g2⟩
    · exact Nat.le_trans R.kp.base R'.kp.base
    · exact R'.kp.tab
  · exact R.bs
 refine (body_calls hL (K:=fun r s'=>K r ⟨s.tmps.map (V.calm s.heap),s'.heap,s.base⟩) hf hb R0 fun Q hQ=>h A' Q rfl pin4 fun s' r h1 h2=>hQ s' r h1 h2).mono fun e w' h=>?_
 rcases h with ⟨u,r,s',cx',a',rfl,hK,hrep,R'⟩ | ⟨ch,a',rfl,v',u,s',cx',rfl,hcl,hpan,hrep,R'⟩
 · exact .inl ⟨u,r,⟨s.tmps.map (V.calm s.heap),s'.heap,s.base⟩,cx',rfl,hK,hrep,fin R'⟩
 · exact .inr ⟨_,rfl,v',u,⟨s.tmps.map (V.calm s.heap),s'.heap,s.base⟩,cx',rfl,hcl,hpan,hrep,fin R'⟩
end
end Ab
end Go.Proofs.YtbpihhelojjedaaDoor
namespace Go.Proofs.YtbpihhelojjedaaDoor
open Go Go.RowKit
namespace Ab
section
variable {E:Env} {L:TypeId→Option Lt}
theorem evC_val {o:Oper} {ρ:Operand→V} {hp:List (Option Row)} {aid:Nat} {k:V→Option Row→Prop} (hE:∃P A,E=dom P A) (h:evC E L o ρ hp aid k):
 ∃v r,k v r∧∀k2:V→Option Row→Prop,k2 v r→evC E L o ρ hp aid k2:=by
 obtain ⟨P,A,rfl⟩:=hE
 by_cases hpick:∃c a b,o.op=.pick c a b
 · obtain ⟨c,a,b,hop⟩:=hpick
   simp only [evC,hop] at h
   split at h
   · rename_i x hx
     cases x with
     | true=>exact ⟨_,_,h.1 rfl,fun k2 h2=>by simp only [evC,hop,hx];exact ⟨fun _=>h2,(fun e=>by cases e)⟩⟩
     | false=>exact ⟨_,_,h.2 rfl,fun k2 h2=>by simp only [evC,hop,hx];exact ⟨(fun e=>by cases e),fun _=>h2⟩⟩
   · exact h.elim
 by_cases hlk:∃t x i,o.op=.lookup t x i true
 · obtain ⟨t,x,i,hop⟩:=hlk
   simp only [evC,hop] at h
   split at h
   case h_2=>exact h.elim
   rename_i lt hlt
   split at h
   case isFalse=>exact h.elim
   rename_i hk
   split at h
   case h_2=>exact h.elim
   rename_i le id q hle hx hq
   split at h
   case h_2=>exact h.elim
   rename_i c es z ik hr hz hik
   split at h
   case isFalse=>exact h.elim
   rename_i hcl
   split at h
   case isFalse=>exact h.elim
   rename_i hqc
   obtain ⟨ho,h⟩:=h
   have put:∀k2:V→Option Row→Prop,(dom P A).mget es q (fun v=>k2 (V.tup [V.t v,fB true]) none) (fun _=>k2 (V.tup [V.t (T.flat z),fB false]) none)→evC (dom P A) L o ρ hp aid k2:=fun k2 h2=>by
    simp only [evC,hop,hlt,hk,if_true,hle,hx,hq,hr,hz,hik,hcl,hqc]
    exact ⟨ho,h2⟩
   cases hf:mfindT es q with
   | none=>exact ⟨_,_,h.2 hf,fun k2 h2=>put k2 ⟨(fun v e=>by rw [hf] at e;cases e),fun _=>h2⟩⟩
   | some v=>exact ⟨_,_,h.1 v hf,fun k2 h2=>put k2 ⟨(fun v' e=>by rw [hf] at e;cases e;exact h2),(fun e=>by rw [hf] at e;cases e)⟩⟩
 unfold evC at h
 repeat' split at h
 all_goals first
  | exact h.elim
  | exact h.2.elim
  | exact absurd ⟨_,_,_,‹o.op=Op.pick _ _ _›⟩ hpick
  | exact absurd ⟨_,_,_,‹o.op=Op.lookup _ _ _ true›⟩ hlk
  | (refine ⟨_,_,h,fun k2 h2=>?_⟩;unfold evC;simp_all;done)
  | (obtain ⟨r,h0,h1,h⟩:=h;split at h<;>first | exact h.elim | (refine ⟨_,_,h,fun k2 h2=>?_⟩;unfold evC;simp only [*];refine ⟨r,h0,h1,?_⟩;simp_all;done))
  | (obtain ⟨r,h0,h1,h⟩:=h;exact h.elim)
  | (obtain ⟨r,h0,h1,h⟩:=h;refine ⟨_,_,h,fun k2 h2=>?_⟩;unfold evC;simp only [*];exact ⟨r,h0,h1,by simp_all⟩)
  | (rename_i b hb
     cases b
     · refine ⟨_,_,h.2 rfl,fun k2 h2=>?_⟩
       unfold evC
       simp only [*]
       exact ⟨(fun e=>by cases e),fun _=>h2⟩
     · refine ⟨_,_,h.1 rfl,fun k2 h2=>?_⟩
       unfold evC
       simp only [*]
       exact ⟨fun _=>h2,(fun e=>by cases e)⟩)
  | (obtain ⟨h0,h⟩:=h;refine ⟨_,_,h,fun k2 h2=>?_⟩;unfold evC;simp_all;done)
  | (obtain ⟨h0,h1,h⟩:=h;refine ⟨_,_,h,fun k2 h2=>?_⟩;unfold evC;simp_all;done)
  | (obtain ⟨h0,v,h1,h⟩:=h;refine ⟨_,_,h,fun k2 h2=>?_⟩;unfold evC;simp only [*];exact ⟨h0,v,h1,h2⟩)
  | (obtain ⟨v,h,h1⟩:=h;refine ⟨_,_,h,fun k2 h2=>?_⟩;unfold evC;simp only [*];exact ⟨v,h2,h1⟩)
  | (obtain ⟨cells,hm,hl,ho,r,h0,h1,h⟩:=h;refine ⟨_,_,h,fun k2 h2=>?_⟩;unfold evC;simp only [*];exact ⟨cells,hm,hl,ho,r,h0,h1,h2⟩)
  | (obtain ⟨cells,hm,hl,ho,h⟩:=h;refine ⟨_,_,h,fun k2 h2=>?_⟩;unfold evC;simp only [*];exact ⟨cells,hm,hl,ho,h2⟩)
  | skip
theorem map_same {α β:Type} {f g:α→β} {l:List α} (h:∀x∈l,f x=g x):l.map f=l.map g:=List.map_congr_left h
theorem numV_congr {ρ ρ':Operand→V} {z:Option Operand} {d:Int} (h:∀x∈z.toList,ρ x=ρ' x):numV ρ z d=numV ρ' z d:=by
 cases z with
 | none=>rfl
 | some z=>simp only [numV];rw [h z (by simp)]
theorem evC_congr {o:Oper} {ρ ρ':Operand→V} {hp:List (Option Row)} {aid:Nat} {k:V→Option Row→Prop} (h:∀x∈o.op.operands,ρ x=ρ' x):evC E L o ρ hp aid k=evC E L o ρ' hp aid k:=by
 have pairs:∀ps:Array (Nat × Operand),(∀x∈(ps.toList.map (·.2)),ρ x=ρ' x)→ps.toList.map (fun p=>(p.1,ρ p.2))=ps.toList.map (fun p=>(p.1,ρ' p.2)):=fun ps hp=>
  map_same fun p hm=>by rw [hp p.2 (List.mem_map.2 ⟨p,hm,rfl⟩)]
 cases hop:o.op with
 | build t ps=>
   rw [hop] at h
   simp only [evC,hop]
   rw [pairs ps (fun x hx=>h x (by simp only [Op.operands];exact Array.mem_def.2 (by simpa using hx)))]
 | buildSlice t n ps=>
   rw [hop] at h
   simp only [evC,hop]
   rw [pairs ps (fun x hx=>h x (by simp only [Op.operands];exact Array.mem_def.2 (by simpa using hx)))]
 | makeFunc fn first caps=>
   rw [hop] at h
   simp only [evC,hop]
   rw [map_same (f:=ρ) (g:=ρ') (l:=caps.toList) fun x hx=>h x (by simp only [Op.operands];exact Array.mem_append.2 (.inr (Array.mem_def.2 hx)))]
 | slice t x lo hi mx=>
   rw [hop] at h
   have h1:ρ x=ρ' x:=h x (by simp [Op.operands])
   have h2:∀d,numV ρ lo d=numV ρ' lo d:=fun d=>numV_congr fun z hz=>h z (by simp only [Op.operands];simp at hz ⊢;subst hz;simp)
   have h3:∀d,numV ρ hi d=numV ρ' hi d:=fun d=>numV_congr fun z hz=>h z (by simp only [Op.operands];simp at hz ⊢;subst hz;simp)
   cases mx with
   | some m=>
     have h5:ρ m=ρ' m:=h m (by simp [Op.operands])
     cases hlt:L t with
     | none=>simp only [evC,hop,hlt]
     | some lt=>
       cases hle:L lt.elem with
       | none=>simp only [evC,hop,hlt,hle]
       | some le=>
         cases lo with
         | some zl=>simp only [evC,hop,hlt,hle]
         | none=>
           cases hi with
           | none=>simp only [evC,hop,hlt,hle]
           | some z2=>
             have h6:ρ z2=ρ' z2:=h z2 (by simp [Op.operands])
             simp only [evC,hop,hlt,hle,h1,h5,h6]
   | none=>
     cases lo with
     | some z=>
       have h4:ρ z=ρ' z:=h z (by simp [Op.operands])
       simp only [evC,hop,h1,h2,h3]
       repeat' first | rfl | exact nomatch ‹(none:Option Operand)=some _› | exact nomatch ‹some z=none› | (have e:=Option.some.inj ‹some z=some _›;subst e;simp only [h4];done) | split
     | none=>
       cases hi with
       | none=>
         simp only [evC,hop,h1,h2,h3]
         repeat' first | rfl | exact nomatch ‹none=some _› | split
       | some z2=>
         have h6:ρ z2=ρ' z2:=h z2 (by simp [Op.operands])
         simp only [evC,hop,h1,h2,h3]
         repeat' first | rfl | exact nomatch ‹(none:Option Operand)=some _› | exact nomatch ‹some z2=none› | (have e:=Option.some.inj ‹some z2=some _›;subst e;simp only [h6];done) | split
 | call c=>
   rw [hop] at h
   have h1:c.args.toList.map ρ=c.args.toList.map ρ':=map_same fun x hx=>h x (by simp only [Op.operands,Call.operands];exact Array.mem_append.2 (.inr (Array.mem_def.2 hx)))
   cases hc:c.callee with
   | value f=>
     have h2:ρ f=ρ' f:=h f (by simp [Op.operands,Call.operands,hc])
     simp only [evC,hop,hc,h1,h2]
   | invoke r m=>simp only [evC,hop,hc]
   | builtin b=>
     cases b with
     | len=>
       simp only [evC,hop,hc]
       split
       · rename_i t x ht hx
         have h2:ρ x=ρ' x:=h x (by simp only [Op.operands,Call.operands];exact Array.mem_append.2 (.inr (Array.mem_def.2 (by rw [hx];simp))))
         rw [h2]
       · rfl
     | min=>
       simp only [evC,hop,hc]
       split
       · rename_i x y hxy
         have hm:∀z,z∈c.args.toList→ρ z=ρ' z:=fun z hz=>h z (by simp only [Op.operands,Call.operands];exact Array.mem_append.2 (.inr (Array.mem_def.2 hz)))
         rw [hm x (by rw [hxy];simp),hm y (by rw [hxy];simp)]
       · rfl
     | max=>
       simp only [evC,hop,hc]
       split
       · rename_i x y hxy
         have hm:∀z,z∈c.args.toList→ρ z=ρ' z:=fun z hz=>h z (by simp only [Op.operands,Call.operands];exact Array.mem_append.2 (.inr (Array.mem_def.2 hz)))
         rw [hm x (by rw [hxy];simp),hm y (by rw [hxy];simp)]
       · rfl
     | _=>simp only [evC,hop,hc]
 | move x=>rw [hop] at h;simp only [evC,hop];rw [h x (by simp [Op.operands])]
 | assign x=>rw [hop] at h;simp only [evC,hop];rw [h x (by simp [Op.operands])]
 | pick c x y=>rw [hop] at h;simp only [evC,hop];rw [h c (by simp [Op.operands]),h x (by simp [Op.operands]),h y (by simp [Op.operands])]
 | box t x=>rw [hop] at h;simp only [evC,hop];rw [h x (by simp [Op.operands])]
 | makeInterface t x=>rw [hop] at h;simp only [evC,hop];rw [h x (by simp [Op.operands])]
 | typeAssert x t u ok=>rw [hop] at h;simp only [evC,hop];rw [h x (by simp [Op.operands])]
 | load t x=>rw [hop] at h;simp only [evC,hop];rw [h x (by simp [Op.operands])]
 | nilCheck x=>rw [hop] at h;simp only [evC,hop];rw [h x (by simp [Op.operands])]
 | binOp op t x y u=>rw [hop] at h;simp only [evC,hop];rw [h x (by simp [Op.operands]),h y (by simp [Op.operands])]
 | unOp op t x=>rw [hop] at h;simp only [evC,hop];rw [h x (by simp [Op.operands])]
 | convert s d x=>rw [hop] at h;simp only [evC,hop];rw [h x (by simp [Op.operands])]
 | fieldAddr t x f=>rw [hop] at h;simp only [evC,hop];rw [h x (by simp [Op.operands])]
 | field t x f=>rw [hop] at h;simp only [evC,hop];rw [h x (by simp [Op.operands])]
 | indexAddr t x i=>rw [hop] at h;simp only [evC,hop];rw [h x (by simp [Op.operands]),h i (by simp [Op.operands])]
 | index t x i=>rw [hop] at h;simp only [evC,hop];rw [h x (by simp [Op.operands]),h i (by simp [Op.operands])]
 | range t x=>rw [hop] at h;simp only [evC,hop];rw [h x (by simp [Op.operands])]
 | extract x i=>rw [hop] at h;simp only [evC,hop];rw [h x (by simp [Op.operands])]
 | makeSlice t l c=>rw [hop] at h;simp only [evC,hop];rw [h l (by simp [Op.operands]),h c (by simp [Op.operands])]
 | makeMap t r=>cases r<;>simp only [evC,hop]
 | lookup t x i ok=>
   rw [hop] at h
   cases ok with
   | true=>simp only [evC,hop];rw [h x (by simp [Op.operands]),h i (by simp [Op.operands])]
   | false=>simp only [evC,hop]
 | _=>simp only [evC,hop]
end
section
variable {P:Program} {A:Run} {L:TypeId→Option Lt} {all:List Oper} {base n:Nat}
def opV (E:Env) (L:TypeId→Option Lt) (all:List Oper) (base i:Nat) (s:St) (k:V→Option Row→Prop):Prop:=
 match all[i]? with
 | none=>False
 | some o=>guarded E all o s (fun _=>evC E L o s.ev (s.heap.take base) (base+i) k) (fun _=>k (.tup []) none)
def St.add (s:St) (d:Option Tmp) (v:V) (aid:Nat) (r:Option Row):St:=(s.put d v).lay aid r
theorem guarded_val {o:Oper} {s:St} {p q:Unit→Prop} (h:guarded (dom P A) all o s p q):(p ()∧∀p' q':Unit→Prop,p' ()→guarded (dom P A) all o s p' q')∨(q ()∧∀p' q':Unit→Prop,q' ()→guarded (dom P A) all o s p' q'):=by
 unfold guarded at h
 split at h
 · rename_i hg
   exact .inl ⟨h,fun p' q' hp=>by unfold guarded;rw [hg];exact hp⟩
 · rename_i j want hg
   split at h
   case h_2=>exact h.elim
   rename_i t ht
   split at h
   · rename_i b hb
     cases want<;>cases b
     · exact .inl ⟨h.2 rfl,fun p' q' hp=>by unfold guarded;rw [hg];simp only [ht,hb];exact ⟨(fun e=>by cases e),fun _=>hp⟩⟩
     · exact .inr ⟨h.1 rfl,fun p' q' hp=>by unfold guarded;rw [hg];simp only [ht,hb];exact ⟨fun _=>hp,(fun e=>by cases e)⟩⟩
     · exact .inr ⟨h.2 rfl,fun p' q' hp=>by unfold guarded;rw [hg];simp only [ht,hb];exact ⟨(fun e=>by cases e),fun _=>hp⟩⟩
     · exact .inl ⟨h.1 rfl,fun p' q' hp=>by unfold guarded;rw [hg];simp only [ht,hb];exact ⟨fun _=>hp,(fun e=>by cases e)⟩⟩
   · rename_i cs hb
     exact .inr ⟨h,fun p' q' hp=>by unfold guarded;rw [hg];simp only [ht,hb];exact hp⟩
   · exact h.elim
theorem guarded_congr {E:Env} {o:Oper} {s s':St} {p q:Unit→Prop} (h:∀t,t∈o.looksAt all.toArray→s'.tmps.getD t .junk=s.tmps.getD t .junk):guarded E all o s p q=guarded E all o s' p q:=by
 unfold guarded
 cases hg:o.guard with
 | none=>rfl
 | some g=>
   obtain ⟨j,want⟩:=g
   simp only
   cases hs:gslot all j with
   | none=>rfl
   | some t=>
     simp only
     rw [h t (by
      unfold Oper.looksAt
      refine List.mem_append.2 (.inr ?_)
      simp only [hg]
      unfold gslot at hs
      rw [List.getElem?_toArray]
      split at hs
      · rename_i oj hj
        simp [hj,hs]
      · cases hs)]
theorem opV_val {i:Nat} {s:St} {k:V→Option Row→Prop} (h:opV (dom P A) L all base i s k):∃v r,k v r∧∀k2:V→Option Row→Prop,k2 v r→opV (dom P A) L all base i s k2:=by
 unfold opV at h
 split at h
 · exact h.elim
 · rename_i o ho
   rcases guarded_val h with ⟨h1,h2⟩ | ⟨h1,h2⟩
   · obtain ⟨v,r,h3,h4⟩:=evC_val ⟨P,A,rfl⟩ h1
     refine ⟨v,r,h3,fun k2 hk=>?_⟩
     unfold opV
     rw [ho]
     exact h2 _ _ (h4 k2 hk)
   · refine ⟨_,_,h1,fun k2 hk=>?_⟩
     unfold opV
     rw [ho]
     exact h2 _ _ hk
theorem opV_congr {i:Nat} {o:Oper} {s s':St} {k:V→Option Row→Prop} (ho:all[i]?=some o) (h:∀t,t∈o.looksAt all.toArray→s'.tmps.getD t .junk=s.tmps.getD t .junk) (hh:s'.heap.take base=s.heap.take base):
 opV (dom P A) L all base i s k=opV (dom P A) L all base i s' k:=by
 unfold opV
 rw [ho]
 simp only
 rw [guarded_congr h,hh,evC_congr (ρ:=s.ev) (ρ':=s'.ev) fun x hx=>?_]
 cases x with
 | tmp t=>
   exact (h t (by
    unfold Oper.looksAt
    exact List.mem_append.2 (.inl (List.mem_filterMap.2 ⟨.tmp t,by simpa using hx,rfl⟩)))).symm
 | const v=>rfl
 | global g=>rfl
 | func f=>rfl
theorem add_look {s:St} {d:Option Tmp} {v:V} {aid:Nat} {r:Option Row} {t:Tmp} (h:d≠some t):(s.add d v aid r).tmps.getD t .junk=s.tmps.getD t .junk:=by
 unfold St.add
 cases d with
 | none=>cases r<;>rfl
 | some d=>
   have hne:d≠t:=fun e=>h (by rw [e])
   cases r<;>simp only [St.lay,St.put,List.getD_eq_getElem?_getD,List.getElem?_set_ne hne]
theorem add_heap {s:St} {d:Option Tmp} {v:V} {i:Nat} {r:Option Row}:(s.add d v (base+i) r).heap.take base=s.heap.take base:=by
 unfold St.add
 cases r with
 | none=>simp only [St.lay,put_heap]
 | some r=>
   simp only [St.lay,put_heap]
   rw [List.take_set,List.set_eq_of_length_le (by rw [List.length_take];omega)]
theorem add_len {s:St} {d:Option Tmp} {v:V} {aid:Nat} {r:Option Row}:(s.add d v aid r).heap.length=s.heap.length:=by
 unfold St.add
 cases r<;>simp [St.lay,put_heap]
theorem add_comm' {s:St} {d d':Option Tmp} {v v':V} {i j:Nat} {r r':Option Row} (hd:∀t,d=some t→d'≠some t) (hij:i≠j):
 (s.add d v (base+i) r).add d' v' (base+j) r'=(s.add d' v' (base+j) r').add d v (base+i) r:=by
 have hne:base+i≠base+j:=by omega
 unfold St.add
 cases d<;>cases d'<;>cases r<;>cases r'<;>simp only [St.lay,St.put]
 all_goals first
  | rfl
  | (rw [List.set_comm _ _ hne];done)
  | (rename_i a b;rw [List.set_comm _ _ (fun e=>hd a rfl (by rw [e]))];done)
  | (rename_i a b _;rw [List.set_comm _ _ (fun e=>hd a rfl (by rw [e]))];done)
  | (rename_i a b _ _;rw [List.set_comm _ _ (fun e=>hd a rfl (by rw [e])),List.set_comm _ _ hne];done)
  | skip
def dstOf (all:List Oper) (i:Nat):Option Tmp:=gslot all i
def AnyD (E:Env) (L:TypeId→Option Lt) (md:Region.Mode) (all:List Oper) (base n:Nat) (Lq:Array Bool→St→Prop):Nat→Array Bool→St→Prop
 | 0,l,s=>Lq l s
 | f+1,l,s=>Region.ready md all.toArray l≠[]∧∀i∈Region.ready md all.toArray l,i<n∧opV E L all base i s fun v r=>AnyD E L md all base n Lq f (l.setIfInBounds i true) (s.add (dstOf all i) v (base+i) r)
theorem AnyD.first {md:Region.Mode} {Lq:Array Bool→St→Prop} {i:Nat} {oi:Oper} {v:V} {r:Option Row} (hi:all[i]?=some oi) (hns:Region.noSelect all.toArray=true) (hin:i<n)
 (hwait:∀l:Array Bool,HeadInv md all.toArray n l→l.getD i true=false→∀j∈Region.ready md all.toArray l,j<n) (hL:∀l s,Lq l s→∀j∈Region.ready md all.toArray l,n≤j):
 ∀ (f:Nat) (l:Array Bool) (s:St),HeadInv md all.toArray n l→
   (∀j oj,all[j]?=some oj→j≠i→l.getD j true=false→(∀e∈oj.after,Region.binds md e=true→e.on≠i)→oi.apart all.toArray oj=true)→i∈Region.ready md all.toArray l→
   (∀k2:V→Option Row→Prop,k2 v r→opV (dom P A) L all base i s k2)→
   AnyD (dom P A) L md all base n Lq f (l.setIfInBounds i true) (s.add (dstOf all i) v (base+i) r)→AnyD (dom P A) L md all base n Lq (f+1) l s:=by
 have hdi:dstOf all i=oi.dst:=by unfold dstOf gslot;rw [hi]
 intro f
 induction f with
 | zero=>
   intro l s inv free hr hy H
   have un:=(mem_ready.1 hr).1
   refine ⟨fun e=>by simp [e] at hr,fun j hj=>?_⟩
   have jn:=hwait l inv un j hj
   refine ⟨jn,?_⟩
   by_cases e:j=i
   · subst e;exact hy _ H
   · exact absurd (hL _ _ H j (ready_mono hj e)) (by omega)
 | succ f ih=>
   intro l s inv free hr hy H
   have un:=(mem_ready.1 hr).1
   refine ⟨fun e=>by simp [e] at hr,fun j hj=>?_⟩
   have jn:=hwait l inv un j hj
   refine ⟨jn,?_⟩
   by_cases e:j=i
   · subst e;exact hy _ H
   · obtain ⟨unj,oj,hoj,done⟩:=mem_ready.1 hj
     rw [List.getElem?_toArray] at hoj
     have no:∀e∈oj.after,Region.binds md e=true→e.on≠i:=fun e he hb h=>by
      have h1:=done e he hb
      rw [h,getD_both un] at h1
      cases h1
     have hap:=free j oj hoj e unj no
     obtain ⟨a1,a2,a3⟩:=Oper.apart_spec hap
     have hdj:dstOf all j=oj.dst:=by unfold dstOf gslot;rw [hoj]
     have h2:=(H.2 j (ready_mono hj e)).2
     rw [opV_congr (s:=s.add (dstOf all i) v (base+i) r) (s':=s) hoj (fun t ht=>by rw [add_look];rw [hdi];intro hd;exact a1 t hd ht) (add_heap).symm] at h2
     obtain ⟨v',r',h3,h4⟩:=opV_val h2
     refine h4 _ ?_
     refine ih _ _ (inv.set hj jn) (fun k ok hk hki hun hno=>?_) (ready_mono hr (Ne.symm e)) (fun k2 hk2=>?_) ?_
     · refine free k ok hk hki ?_ hno
       by_cases ejk:j=k
       · subst ejk;exact unj
       · rw [getD_set_ne true ejk] at hun;exact hun
     · rw [opV_congr (s:=s.add (dstOf all j) v' (base+j) r') (s':=s) hi (fun t ht=>by rw [add_look];rw [hdj];intro hd;exact a3 t hd ht) (add_heap).symm]
       exact hy k2 hk2
     · rw [Array.setIfInBounds_comm _ _ (Ne.symm e)] at h3
       rw [add_comm' (fun t hd hd'=>by rw [hdi] at hd;rw [hdj] at hd';exact a2 t hd hd') (Ne.symm e)] at h3
       exact h3
end
end Ab
end Go.Proofs.YtbpihhelojjedaaDoor
