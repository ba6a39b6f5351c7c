/- Texts that the proof leans on. -/
import Derived.Test.YtbpihhelojjedaaDoorK312
set_option linter.unusedVariables false
set_option linter.unusedSimpArgs false
set_option maxRecDepth 100000
set_option maxHeartbeats 4000000
namespace Go.Proofs.YtbpihhelojjedaaDoor
open Go Go.RowKit
namespace Ab
section
variable {P:Program} {A:Run} {L:TypeId→Option Lt}
def onlyB (id:Nat):Nat→List (Option Row)→Bool
 | _,[]=>true
 | i,some (.list _ _ _)::r=>i==id&&onlyB id (i+1) r
 | i,_::r=>onlyB id (i+1) r
theorem onlyB_at {id:Nat}:∀{l:List (Option Row)} {i:Nat},onlyB id i l=true→∀(j ty es:Nat) (rows:Rows),l[j]?=some (some (.list ty es rows))→i+j=id
 | [],i,_,j,ty,es,rows,h=>by simp at h
 | x :: r,i,h,j,ty,es,rows,hj=>by
   have tl:onlyB id (i+1) r=true∧(j=0→i=id):=by
    cases x with
    | none=>exact ⟨h,fun e=>by subst e;simp at hj⟩
    | some y=>
      cases y with
      | list a b c=>
        simp only [onlyB,Bool.and_eq_true,beq_iff_eq] at h
        exact ⟨h.2,fun _=>h.1⟩
      | box a b=>exact ⟨h,fun e=>by subst e;simp at hj⟩
      | iter a b=>exact ⟨h,fun e=>by subst e;simp at hj⟩
      | map a b=>exact ⟨h,fun e=>by subst e;simp at hj⟩
      | hole a b c d=>exact ⟨h,fun e=>by subst e;simp at hj⟩
   cases j with
   | zero=>exact tl.2 rfl
   | succ j=>have:=onlyB_at tl.1 j ty es rows (by simpa using hj);omega
theorem call_give {f:FuncId} {args args':List V} {s:St} {v:V} {K:V→St→Prop} {id ty es:Nat} {rows:Rows} (hF:Fun P f args' v) (hr:s.heap[id]?=some (some (.list ty es rows))) (ho:onlyB id 0 s.heap=true) (hfree:A.pin id=none) (he:frzL s.heap args=some args') (hK:K v (s.drop id)):CallA P A f args s K:=by
 refine ⟨hF.1,fun cx a w cargs R hargs=>?_⟩
 have R1:=R.drop hr hfree
 have hg:∀b,(cx.G b∨listBlk cx s.heap b)→(cx.G b∨∃cap es len,cx.at_ id=some (.at b cap es len)):=fun b h=>by
  rcases h with h | ⟨id',ty',es',rows',cap,es2,len,g1,g2⟩
  · exact .inl h
  · have:=onlyB_at ho _ _ _ _ g1
    rw [Nat.zero_add] at this
    subst this
    exact .inr ⟨cap,es2,len,g2⟩
 have h1:VReps (Cx.none fun b=>cx.G b∨∃cap es len,cx.at_ id=some (.at b cap es len)) w args' cargs:=(frz_reps R.hp hargs he).mono (Same.refl _ _) (by exact none_le _ _ hg)
 refine (hF.2 _ w cargs R1.kp.G1 R1.kp.tab h1).mono ?_
 rintro e w' ⟨u,rfl,hbl,hrep⟩
 obtain ⟨g1,g2⟩:=step_grown R1 hbl hrep
 exact .inl ⟨u,v,_,_,rfl,hK,g1,g2⟩
theorem use_give {E:Env} (hE:dom P A=E) {f:FuncId} {args args' args'':List V} {s:St} {v:V} {K:V→St→Prop} (id:Nat) {ty es:Nat} {rows:Rows} (hF:Fun P f args' v) (hr:s.heap[id]?=some (some (.list ty es rows))) (ho:onlyB id 0 s.heap=true) (hfree:E.free id) (hz:frzL s.heap args=some args'') (he:nrm.nrmL args''=args') (hK:K v (s.drop id)):E.call f args s K:=by
 subst hE;exact call_give (hF.args he) hr ho hfree hz hK
theorem use_gs {E:Env} (hE:dom P A=E) {α:Type} {f:FuncId} {args args' args'':List V} {s:St} {sh:α→V} {a:α} {K:V→St→Prop} (id:Nat) {ty es:Nat} {rows:Rows} (hF:FunS P f args' sh a) (hr:s.heap[id]?=some (some (.list ty es rows))) (ho:onlyB id 0 s.heap=true) (hfree:E.free id) (hz:frzL s.heap args=some args'') (he:nrm.nrmL args''=args') (hK:∀x,x=a→K (sh x) (s.drop id)):E.call f args s K:=
 use_give hE (v:=sh a) id hF hr ho hfree hz he (hK a rfl)
end
end Ab
end Go.Proofs.YtbpihhelojjedaaDoor
namespace Go.Proofs.YtbpihhelojjedaaDoor
open Go Go.RowKit
namespace Ab
section
variable {P:Program} {A:Run} {L:TypeId→Option Lt}
theorem call_keep (hL:LayOk P L) {f:FuncId} {fn:Func} {c:Code} {args:List V} {s:St} {K:V→St→Prop} (hcall:Callable P f) (hf:P.funcs[f]?=some fn) (hb:fn.body=some c)
 (h:∀(A':Run) (Q:Ex→St→Prop),(∀id,s.heap.length≤id→A'.pin id=none)→(∀s' r,resV L fn.results.toList s'=some r→K r ⟨s.tmps,s'.heap,s.base⟩→Q .ret s'∧Q .normal s')→
  AW P A' c ⟨args++List.replicate (fn.ntmps-args.length) .junk,s.heap,s.heap.length⟩ Q):CallA P A f args s K:=by
 refine ⟨hcall,fun cx a w cargs R hargs=>?_⟩
 let live:Nat→Prop:=fun b=>∃(id:Nat) (r:Row) (cap es len:Nat),s.heap[id]?=some (some r)∧cx.at_ id=some (.at b cap es len)
 let pin:Nat→Option Blk:=fun id=>if id<s.heap.length then cx.at_ id else none
 have pin1:∀id B,pin id=some B→cx.at_ id=some B∧id<s.heap.length:=fun id B hB=>by
  have hB':(if id<s.heap.length then cx.at_ id else none)=some B:=hB
  split at hB'
  · rename_i hlt;exact ⟨hB',hlt⟩
  · cases hB'
 have pin2:∀id B,cx.at_ id=some B→pin id=some B:=fun id B hat=>by
  have hlt:id<s.heap.length:=by
   rcases Nat.lt_or_ge id s.heap.length with h | h
   · exact h
   · rw [R.hp.dom id h] at hat;cases hat
  show (if id<s.heap.length then cx.at_ id else none)=some B
  rw [if_pos hlt];exact hat
 let A':Run:=⟨w,live,cx.G,pin,s.heap.length,fun v t=>A.pan v ⟨s.tmps,t.heap,s.base⟩,[]⟩
 have R0:Rel A' cx ⟨args++List.replicate (fn.ntmps-args.length) .junk,s.heap,s.heap.length⟩ {tmps:=cargs++Array.replicate (fn.ntmps-cargs.size) undef,defers:=[]} w:=by
  refine ⟨args_tmps hargs _,rfl,R.hp,?_,rfl⟩
  refine ⟨rfl,rfl,rfl,Nat.le_refl _,fun _ _ _=>rfl,fun id r b cap es len h1 h2=>.inl ⟨id,r,cap,es,len,h1,h2⟩,fun b h=>h,R.kp.G1,fun b h=>.inl h,pin1,Nat.le_refl _,R.kp.tab⟩
 have live1:∀b,live b→A.M b∨A.w.heap.size≤b:=fun b ⟨id,r,cap,es,len,h1,h2⟩=>R.kp.live id r b cap es len h1 h2
 have live2:∀b,live b→¬ cx.G b:=fun b ⟨id,r,cap,es,len,h1,h2⟩=>(R.hp.live_lt h1 h2).2
 have fin:∀{s':St} {cx':Cx} {a':Act} {w':World},Rel A' cx' s' a' w'→Rel A cx' ⟨s.tmps,s'.heap,s.base⟩ a w':=fun {s' cx' a' w'} R'=>by
  have hsame:Same cx.G w w':=fun b hb=>R'.kp.block b (R.kp.G1 b hb) (fun hl=>live2 b hl hb)
  have hle:cx.le cx':=⟨fun id B hat=>(R'.kp.pin id B (pin2 id B hat)).1,R'.kp.G0⟩
  constructor
  · exact R.tm.mono hsame hle
  · exact R.df
  · exact R'.hp
  · constructor
    · rw [R'.kp.os];exact R.kp.os
    · rw [R'.kp.tape];exact R.kp.tape
    · rw [R'.kp.output];exact R.kp.output
    · exact Nat.le_trans R.kp.size R'.kp.size
    · intro b hb hM
      have hnl:¬ live b:=fun hl=>by
       rcases live1 b hl with h | h
       · exact hM h
       · omega
      rw [R'.kp.block b (Nat.lt_of_lt_of_le hb R.kp.size) hnl]
      exact R.kp.block b hb hM
    · intro id r b cap es len q1 q2
      rcases R'.kp.live id r b cap es len q1 q2 with h | h
      · exact live1 b h
      · exact .inr (Nat.le_trans R.kp.size h)
    · exact fun b h=>R'.kp.G0 b (R.kp.G0 b h)
    · exact R'.kp.G1
    · intro b h
      rcases R'.kp.G2 b h with h | h | h
      · exact R.kp.G2 b h
      · exact .inr (live1 b h)
      · exact .inr (.inr (Nat.le_trans R.kp.size h))
    · intro id B hp
      obtain ⟨g1,g2⟩:=R.kp.pin id B hp
      exact ⟨(R'.kp.pin id B (pin2 id B g1)).1,g2⟩
    · exact Nat.le_trans R.kp.base R'.kp.base
    · exact R'.kp.tab
  · exact R.bs
 refine (body_calls hL (K:=fun r s'=>K r ⟨s.tmps,s'.heap,s.base⟩) hf hb R0 fun Q hQ=>h A' Q (fun id hid=>if_neg (by omega)) fun s' r h1 h2=>hQ s' r h1 h2).mono fun e w' h=>?_
 rcases h with ⟨u,r,s',cx',a',rfl,hK,hrep,R'⟩ | ⟨ch,a',rfl,v',u,s',cx',rfl,hcl,hpan,hrep,R'⟩
 · exact .inl ⟨u,r,⟨s.tmps,s'.heap,s.base⟩,cx',rfl,hK,hrep,fin R'⟩
 · exact .inr ⟨_,rfl,v',u,⟨s.tmps,s'.heap,s.base⟩,cx',rfl,hcl,hpan,hrep,fin R'⟩
theorem call_listB {f:FuncId} {args args':List V} {s:St} {ty es:Nat} {rows:Rows} {K:V→St→Prop} (hF:FunL P f args' ty es rows) (he:frzL s.heap args=some args') (hb:∀(i j:Nat) (t:T),(rows[i]?).bind (fun r=>r[j]?)=some t→∃v,t=.flat v)
 (hK:K (.lst s.heap.length) (s.push (some (.list ty es rows)))):CallA P A f args s K:=by
 refine ⟨hF.1,fun cx a w cargs R hargs=>?_⟩
 have hG:∀b,(cx.G b∨listBlk cx s.heap b)→b<w.heap.size:=fun b h=>by
  rcases h with h | ⟨id,ty,es,rows,cap,es',len,g1,g2⟩
  · exact R.kp.G1 b h
  · exact (R.hp.live_lt g1 g2).1
 refine (hF.2 _ w cargs hG (R.kp.tab.mono (Same.refl _ _) fun b h=>.inl h) (frz_reps R.hp hargs he)).mono ?_
 rintro e w' ⟨hbl,cx1,u,rfl,h1,h2,h3,h4,h5⟩
 have h0:cx.at_ s.heap.length=none:=R.hp.dom _ (Nat.le_refl _)
 let cx':Cx:=⟨fun id=>if id=s.heap.length then cx1.at_ 0 else cx.at_ id,fun b=>cx1.G b∧(cx.G b∨w.heap.size≤b)⟩
 have e1:cx'.at_ s.heap.length=cx1.at_ 0:=if_pos rfl
 have hv:VRep cx' w' (.lst s.heap.length) u:=by
  cases h3 with
  | lstN id a z h hz=>exact .lstN _ _ z (e1.trans h) hz
  | lst id b cap es len h=>exact .lst _ _ _ _ _ (e1.trans h)
 have X:Res cx w s.heap.length (some (.list ty es rows)) cx' w' (.lst s.heap.length) u:=by
  refine ⟨hbl,fun id hid=>if_neg hid,(fun e=>by cases e),fun b h=>⟨h2 b (.inl h),.inl h⟩,fun b h=>?_,hv,fun r e=>?_⟩
  · rcases h.2 with g | g
    · exact .inl g
    · rcases h1 b h.1 with (g' | ⟨id,ty,es,rows,cap,es',len,q1,q2⟩) | g'
      · exact .inl g'
      · have:=(R.hp.live_lt q1 q2).1;omega
      · exact .inr g'
  cases e
  refine ⟨?_,fun b cap es' len hat=>?_⟩
  · cases h4 with
    | listN ty es z h hz=>exact .listN _ _ z (e1.trans h) hz
    | list ty es rows b cap vs h hbl hn hcap hmax hsz hes hr=>
      refine .list _ _ _ b cap vs (e1.trans h) hbl (fun g=>hn g.1) hcap hmax hsz hes fun i j t ht=>?_
      obtain ⟨u,q1,q2⟩:=hr i j t ht
      obtain ⟨v,rfl⟩:=hb i j t ht
      cases q2 with
      | flat v h=>exact ⟨_,q1,.flat _ h⟩
  · rw [e1] at hat
    refine ⟨h5 _ _ _ _ hat,?_⟩
    cases h4 with
    | listN ty es z h hz=>rw [h] at hat;cases hat
    | list ty es rows b' cap' vs h hbl=>rw [h] at hat;cases hat;exact lt_size hbl
 have:=R.step X h0 none (s.heap++[some (.list ty es rows)]) (fun id r hr=>by
  by_cases hlt:id<s.heap.length
  · rw [List.getElem?_append_left hlt] at hr
    exact .inl ⟨by omega,hr⟩
  · rw [List.getElem?_append_right (by omega)] at hr
    have hi:id-s.heap.length=0:=by
     have:=(List.getElem?_eq_some_iff.1 hr).1
     simp at this
     omega
    rw [hi] at hr
    simp at hr
    exact .inr ⟨by omega,by rw [hr]⟩) (by simp) (fun _=>by simp)
 exact .inl ⟨u,_,_,cx',rfl,hK,hv,this⟩
end
end Ab
end Go.Proofs.YtbpihhelojjedaaDoor
namespace Go.Proofs.YtbpihhelojjedaaDoor
open Go Go.RowKit
namespace Ab
def swN (i j k:Nat):Nat:=if k=i then j else if k=j then i else k
theorem swN_two (i j k:Nat):swN i j (swN i j k)=k:=by unfold swN;split<;>split<;>(try split)<;>omega
mutual
def V.sw (i j:Nat):V→V
 | .lst k=>.lst (swN i j k)
 | .ptr k o=>.ptr (swN i j k) o
 | .elt k r o=>.elt (swN i j k) r o
 | .win k l=>.win (swN i j k) l
 | .mp k=>.mp (swN i j k)
 | .pre k h=>.pre (swN i j k) h
 | .agg cs=>.agg (swL i j cs)
 | .tup cs=>.tup (swL i j cs)
 | .fn f cs=>.fn f (swL i j cs)
 | .ifc t v=>.ifc t (V.sw i j v)
 | v=>v
def swL (i j:Nat):List V→List V
 | []=>[]
 | v::r=>V.sw i j v::swL i j r
end
theorem swL_map (i j:Nat):∀l:List V,swL i j l=l.map (V.sw i j)
 | []=>rfl
 | v::r=>by rw [swL,swL_map i j r];rfl
theorem sw_cellB (i j:Nat) (v:V):(v.sw i j).cellB=v.cellB:=by cases v<;>rfl
def swRow (i j:Nat):Option Row→Option Row
 | some (.box t cs)=>some (.box t (swL i j cs))
 | some (.hole ty rows r kid)=>some (.hole ty rows r (kid.map (swN i j)))
 | r=>r
def St.sw (i j:Nat) (s:St):St:=
 if Nat.blt i s.heap.length&&Nat.blt j s.heap.length then ⟨swL i j s.tmps,((s.heap.set i (s.heap.getD j none)).set j (s.heap.getD i none)).map (swRow i j),s.base⟩ else s
def Cx.sw (i j:Nat) (cx:Cx):Cx:=⟨fun k=>cx.at_ (swN i j k),cx.G⟩
theorem VRep.sw {cx:Cx} {w:World} {v:V} {u:Value} (i j:Nat) (h:VRep cx w v u):VRep (cx.sw i j) w (v.sw i j) u:=by
 have e:∀k,(cx.sw i j).at_ (swN i j k)=cx.at_ k:=fun k=>congrArg cx.at_ (swN_two i j k)
 induction h with
 | t x u h=>exact .t x u h
 | agg cs vs hn hc hr ih=>
   rw [V.sw,swL_map]
   refine .agg _ _ (by simpa using hn) (fun c hc'=>?_) (fun k c u h1 h2=>?_)
   · obtain ⟨d,hd,rfl⟩:=List.mem_map.1 hc'
     rw [sw_cellB];exact hc d hd
   · rw [List.getElem?_map] at h1
     obtain ⟨d,hd,rfl⟩:=Option.map_eq_some_iff.1 h1
     exact ih k d u hd h2
 | tup cs vs hn hr ih=>
   rw [V.sw,swL_map]
   refine .tup _ _ (by simpa using hn) (fun k c u h1 h2=>?_)
   rw [List.getElem?_map] at h1
   obtain ⟨d,hd,rfl⟩:=Option.map_eq_some_iff.1 h1
   exact ih k d u hd h2
 | lstN id a z h hz=>exact .lstN _ _ z ((e id).trans h) hz
 | lst id b cap es len h=>exact .lst _ b cap es len ((e id).trans h)
 | ptr id off b cap es len h=>exact .ptr _ off b cap es len ((e id).trans h)
 | elt id row off b cap es len h=>exact .elt _ row off b cap es len ((e id).trans h)
 | win id lo b cap es len h=>exact .win _ lo b cap es len ((e id).trans h)
 | mp id b cap es len h=>exact .mp _ b cap es len ((e id).trans h)
 | pre id n b cap es len h=>exact .pre _ n b cap es len ((e id).trans h)
 | ipt cells off b o u hG hcell hr=>exact .ipt cells off b o u hG hcell hr
 | fn f cs vs hn hr ih=>
   rw [V.sw,swL_map]
   refine .fn f _ _ (by simpa using hn) (fun k c u h1 h2=>?_)
   rw [List.getElem?_map] at h1
   obtain ⟨d,hd,rfl⟩:=Option.map_eq_some_iff.1 h1
   exact ih k d u hd h2
 | ifc t v u h ih=>exact .ifc t _ u ih
 | junk v=>exact .junk v
theorem VReps.sw {cx:Cx} {w:World} {vs:List V} {us:Array Value} (i j:Nat) (h:VReps cx w vs us):VReps (cx.sw i j) w (swL i j vs) us:=by
 rw [swL_map]
 refine ⟨by simpa using h.1,fun k c u h1 h2=>?_⟩
 rw [List.getElem?_map] at h1
 obtain ⟨d,hd,rfl⟩:=Option.map_eq_some_iff.1 h1
 exact (h.2 k d u hd h2).sw i j
section
variable {P:Program} {A:Run} {L:TypeId→Option Lt}
theorem Rel.sw {cx:Cx} {s:St} {a:Act} {w:World} (R:Rel A cx s a w) (i j:Nat) (hi:A.pin i=none) (hj:A.pin j=none):∃cx',Rel A cx' (s.sw i j) a w:=by
 unfold St.sw
 by_cases hb:(Nat.blt i s.heap.length&&Nat.blt j s.heap.length)=true
 case neg=>rw [if_neg hb];exact ⟨cx,R⟩
 rw [if_pos hb]
 have hil:i<s.heap.length∧j<s.heap.length:=by
  simp only [Bool.and_eq_true] at hb
  exact ⟨by simpa [Nat.blt_eq] using hb.1,by simpa [Nat.blt_eq] using hb.2⟩
 refine ⟨cx.sw i j,?_⟩
 have hh:∀(id:Nat) r',(((s.heap.set i (s.heap.getD j none)).set j (s.heap.getD i none)).map (swRow i j))[id]?=some (some r')→∃r,s.heap[swN i j id]?=some (some r)∧swRow i j (some r)=some r':=fun id r' h=>by
  rw [List.getElem?_map] at h
  obtain ⟨x,hx,hr⟩:=Option.map_eq_some_iff.1 h
  have hx':s.heap[swN i j id]?=some x:=by
   have g:∀k,k<s.heap.length→s.heap[k]?=some (s.heap.getD k none):=fun k hk=>by
    rw [List.getD_eq_getElem?_getD,List.getElem?_eq_getElem hk];rfl
   unfold swN
   by_cases e2:id=j
   · subst e2
     rw [List.getElem?_set_self (by simpa using hil.2)] at hx
     by_cases e1:id=i
     · subst e1;rw [if_pos rfl,g _ hil.2];exact hx
     · rw [if_neg e1,if_pos rfl,g _ hil.1];exact hx
   · rw [List.getElem?_set_ne (Ne.symm e2)] at hx
     by_cases e1:id=i
     · subst e1
       rw [List.getElem?_set_self hil.1] at hx
       rw [if_pos rfl,g _ hil.2];exact hx
     · rw [List.getElem?_set_ne (Ne.symm e1)] at hx
       rw [if_neg e1,if_neg e2];exact hx
  cases x with
  | none=>cases hr
  | some r=>exact ⟨r,hx',hr⟩
 constructor
 · exact R.tm.sw i j
 · exact R.df
 · constructor
   · intro id r' h
     obtain ⟨r,hr,e⟩:=hh id r' h
     have hR:=R.hp.row _ r hr
     cases hR with
     | box ty cs b vs hat hbl hn hrr=>
       simp only [swRow,Option.some.injEq] at e
       subst e
       refine .box ty _ b vs ?_ hbl hn (hrr.sw i j)
       rw [swL_map,List.length_map];exact hat
     | listN ty es z hat hz=>simp only [swRow,Option.some.injEq] at e;subst e;exact .listN _ _ z hat hz
     | list ty es rows b cap vs hat hbl hn hcap hmax hsz hes hrr=>simp only [swRow,Option.some.injEq] at e;subst e;exact .list _ _ _ b cap vs hat hbl hn hcap hmax hsz hes hrr
     | iter s' pos b hat hbl hn h0=>simp only [swRow,Option.some.injEq] at e;subst e;exact .iter _ _ b hat hbl hn h0
     | map c' rows' b es' clock' hat hbl hn h0=>simp only [swRow,Option.some.injEq] at e;subst e;exact .map _ _ b _ _ hat hbl hn h0
     | hole ty rows r kid b cap vs hat hbl hn hcap hmax hsz hes hlt hrr hk=>
       simp only [swRow,Option.some.injEq] at e
       subst e
       refine .hole ty rows r _ b cap vs hat hbl hn hcap hmax hsz hes hlt hrr fun k hk'=>?_
       obtain ⟨k0,rfl,rfl⟩:=Option.map_eq_some_iff.1 hk'
       obtain ⟨u,q1,q2⟩:=hk k0 rfl
       exact ⟨u,q1,q2.sw i j⟩
   · intro id id' r r' b cap es len cap' es' len' h1 h2 h3 h4
     obtain ⟨x,hx,-⟩:=hh id r h1
     obtain ⟨y,hy,-⟩:=hh id' r' h2
     have:=R.hp.inj _ _ _ _ _ _ _ _ _ _ _ hx hy h3 h4
     rw [←swN_two i j id,this,swN_two]
   · intro id hid
     have hid':s.heap.length≤id:=by simpa using hid
     show cx.at_ (swN i j id)=none
     have:swN i j id=id:=by unfold swN;rw [if_neg (by omega),if_neg (by omega)]
     rw [this];exact R.hp.dom id hid'
 · constructor
   · exact R.kp.os
   · exact R.kp.tape
   · exact R.kp.output
   · exact R.kp.size
   · exact R.kp.block
   · intro id r b cap es len h1 h2
     obtain ⟨x,hx,-⟩:=hh id r h1
     exact R.kp.live _ _ _ _ _ _ hx h2
   · exact R.kp.G0
   · exact R.kp.G1
   · exact R.kp.G2
   · intro id B h
     have:=R.kp.pin id B h
     have e:swN i j id=id:=by
      unfold swN
      rw [if_neg (fun e=>by subst e;rw [hi] at h;cases h),if_neg (fun e=>by subst e;rw [hj] at h;cases h)]
     exact ⟨(congrArg cx.at_ e).trans this.1,this.2⟩
   · simpa using R.kp.base
   · exact R.kp.tab
 · exact R.bs
def swAll:List (Nat × Nat)→St→St
 | [],s=>s
 | (i,j)::r,s=>swAll r (s.sw i j)
def frees (f:Nat→Prop):List (Nat × Nat)→Prop
 | []=>True
 | (i,j)::r=>f i∧f j∧frees f r
theorem Rel.swAll {a:Act} {w:World}:∀(l:List (Nat × Nat)) {cx:Cx} {s:St},Rel A cx s a w→frees (fun i=>A.pin i=none) l→∃cx',Rel A cx' (swAll l s) a w
 | [],cx,s,R,_=>⟨cx,R⟩
 | (i,j)::r,cx,s,R,h=>by
   obtain ⟨cx1,R1⟩:=R.sw i j h.1 h.2.1
   exact Rel.swAll r R1 h.2.2
theorem AW_loopS (hL:LayOk P L) {c:Code} {s:St} {Q:Ex→St→Prop} {Γ:Type} (F:Γ→St) (pre:Γ→Prop) (mu:Γ→Nat) (g0:Γ) (h0:pre g0) (hle:s.le (F g0))
 (hstep:∀g,pre g→∀Q':Ex→St→Prop,(∀s' g' sw,pre g'→mu g'<mu g→frees (fun i=>A.pin i=none) sw→(Ab.swAll sw s').le (F g')→Q' .normal s')→(∀s',Q .ret s'→Q' .ret s')→(∀i s',Q (.exit i) s'→Q' (.exit i) s')→AW P A c (F g) Q'):
 AW P A (.loop c) s Q:=fun cx a w R=>by
 obtain ⟨cx0,R0⟩:=R.loose hle
 refine wp_loop_n (fun n a w=>∃g cx,pre g∧mu g=n∧Rel A cx (F g) a w) (mu g0) ⟨g0,cx0,h0,rfl,R0⟩ ?_
 rintro n a w ⟨g,cx,hg,rfl,R⟩
 have:=hstep g hg (fun e s'=>match e with
  | .normal=>∃g' sw,pre g'∧mu g'<mu g∧frees (fun i=>A.pin i=none) sw∧(Ab.swAll sw s').le (F g')
  | e=>Q e s') (fun s' g' sw h1 h2 h3 h4=>⟨g',sw,h1,h2,h3,h4⟩) (fun s' h=>h) (fun i s' h=>h) cx a w R
 refine wp_mono this fun e a w h=>?_
 rcases h with ⟨e',s',cx',h1,h2,h3⟩ | ⟨ch,rfl,h⟩
 case inr=>exact .inr ⟨ch,rfl,h⟩
 cases e with
 | normal=>
   cases e'<;>first | exact h1.elim | skip
   obtain ⟨g',sw,q1,q2,q3,q4⟩:=h2
   obtain ⟨cx1,R1⟩:=h3.swAll sw q3
   obtain ⟨cx2,R2⟩:=R1.loose q4
   exact ⟨mu g',q2,g',cx2,q1,rfl,R2⟩
 | _=>cases e'<;>first | exact h1.elim | exact .inl ⟨_,s',cx',h1,h2,h3⟩
end
end Ab
end Go.Proofs.YtbpihhelojjedaaDoor
