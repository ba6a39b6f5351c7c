/- Texts that the proof leans on. -/
import Derived.Test.YtbpihhelojjedaaDoorK309
set_option linter.unusedVariables false
set_option linter.unusedSimpArgs false
set_option maxRecDepth 100000
set_option maxHeartbeats 4000000
namespace Go.Proofs.YtbpihhelojjedaaDoor
open Go Go.RowKit
namespace Ab
def resT (L:TypeId→Option Lt) (s:St):List ResultVar→Option (List V)
 | []=>some []
 | .tmp t::r=>match s.tmps[t]?,resT L s r with
   | some v,some l=>some (v::l)
   | _,_=>none
 | .cell t ty::r=>
   match L ty,s.tmps[t]? with
   | some lt,some (.ptr id off)=>
     match s.heap.getD id none with
     | some (.box _ cs)=>match loadV lt cs off,resT L s r with
       | some v,some l=>some (v::l)
       | _,_=>none
     | _=>none
   | _,_=>none
def resV (L:TypeId→Option Lt) (rs:List ResultVar) (s:St):Option V:=
 match resT L s rs with
 | some [v]=>some v
 | some l=>some (.tup l)
 | none=>none
mutual
def V.frz (hp:List (Option Row)):V→Option V
 | .t x=>some (.t x)
 | .lst id=>match hp.getD id none with
   | some (.list _ _ rows)=>some (.t (.slc rows))
   | _=>none
 | .agg cs=>match frzL hp cs with
   | some l=>if l.all V.cellB then some (.agg l) else none
   | none=>none
 | .tup cs=>match frzL hp cs with
   | some l=>some (.tup l)
   | none=>none
 | .ipt c o=>some (.ipt c o)
 | .fn f cs=>match frzL hp cs with
   | some l=>some (.fn f l)
   | none=>none
 | .ifc t v=>match V.frz hp v with
   | some v=>some (.ifc t v)
   | none=>none
 | _=>none
def frzL (hp:List (Option Row)):List V→Option (List V)
 | []=>some []
 | v::r=>match V.frz hp v,frzL hp r with
   | some x,some l=>some (x::l)
   | _,_=>none
def V.bare:V→Bool
 | .t (.flat _)=>true
 | .agg cs=>bareL cs
 | .tup cs=>bareL cs
 | .ifc _ v=>V.bare v
 | .fn _ cs=>bareL cs
 | _=>false
def bareL:List V→Bool
 | []=>true
 | v::r=>V.bare v&&bareL r
end
def V.calm (hp:List (Option Row)):V→V
 | .lst _=>.junk
 | .elt _ _ _=>.junk
 | .ptr id off=>match hp.getD id none with
   | some (.list _ _ _)=>.junk
   | _=>.ptr id off
 | .t x=>.t x
 | .ipt c o=>.ipt c o
 | .fn f cs=>.fn f (calmL cs)
 | .agg cs=>if calmB cs then .agg cs else .junk
 | .tup cs=>.tup (calmL cs)
 | _=>.junk
where
 calmL:List V→List V
  | []=>[]
  | v::r=>V.calm hp v::calmL r
 calmB:List V→Bool
  | []=>true
  | .t _::r=>calmB r
  | _::_=>false
section
variable {P:Program} {A:Run} {L:TypeId→Option Lt}
theorem bareL_get:∀{l:List V},bareL l=true→∀(i:Nat) (c:V),l[i]?=some c→c.bare=true
 | [],_,i,c,h=>by simp at h
 | v::r,hn,i,c,h=>by
   simp only [bareL,Bool.and_eq_true] at hn
   cases i with
   | zero=>simp at h;subst h;exact hn.1
   | succ i=>exact bareL_get hn.2 i c (by simpa using h)
theorem VRep.of_bare {cx cx':Cx} {w w':World} {v:V} {u:Value} (h:VRep cx w v u):v.bare=true→VRep cx' w' v u:=by
 induction h with
 | t x v h=>
   intro hb
   cases h with
   | flat v h=>exact .t _ _ (.flat v h)
   | slc=>simp [V.bare] at hb
 | agg cs vs hn hcb hr ih=>intro hb;exact .agg cs vs hn hcb fun i c u h1 h2=>ih i c u h1 h2 (bareL_get hb i c h1)
 | tup cs vs hn hr ih=>intro hb;exact .tup cs vs hn fun i c u h1 h2=>ih i c u h1 h2 (bareL_get hb i c h1)
 | lstN=>intro hb;simp [V.bare] at hb
 | lst=>intro hb;simp [V.bare] at hb
 | ptr=>intro hb;simp [V.bare] at hb
 | elt=>intro hb;simp [V.bare] at hb
 | win=>intro hb;simp [V.bare] at hb
 | mp=>intro hb;simp [V.bare] at hb
 | pre=>intro hb;simp [V.bare] at hb
 | ipt=>intro hb;simp [V.bare] at hb
 | fn f cs vs hn hr ih=>intro hb;exact .fn f cs vs hn fun i c u h1 h2=>ih i c u h1 h2 (bareL_get hb i c h1)
 | ifc t v u h ih=>intro hb;exact .ifc t v u (ih hb)
 | junk=>intro hb;simp [V.bare] at hb
theorem frzL_get {hp:List (Option Row)}:∀{l m:List V},frzL hp l=some m→m.length=l.length∧∀(i:Nat) (c:V),m[i]?=some c→∃c0,l[i]?=some c0∧c0.frz hp=some c
 | [],m,h=>by simp only [frzL,Option.some.injEq] at h;subst h;exact ⟨rfl,fun i c h=>by simp at h⟩
 | v ::r,m,h=>by
   simp only [frzL] at h
   split at h
   · rename_i x l hx hl
     cases h
     obtain ⟨h1,h2⟩:=frzL_get hl
     refine ⟨by simp [h1],fun i c hc=>?_⟩
     cases i with
     | zero=>simp at hc;subst hc;exact ⟨v,rfl,hx⟩
     | succ i=>exact h2 i c (by simpa using hc)
   · cases h
def listBlk (cx:Cx) (heap:List (Option Row)) (b:Nat):Prop:=∃(id:Nat) (ty es:Nat) (rows:Rows) (cap es' len:Nat),heap[id]?=some (some (.list ty es rows))∧cx.at_ id=some (.at b cap es' len)
theorem frz_rep {cx:Cx} {heap:List (Option Row)} {w:World} (hH:HRep cx heap w) {v:V} {u:Value} (h:VRep cx w v u):∀{v'},v.frz heap=some v'→VRep (Cx.none fun b=>cx.G b∨listBlk cx heap b) w v' u:=by
 have hg:∀b,cx.G b→(cx.G b∨listBlk cx heap b):=fun b h=>.inl h
 induction h with
 | t x v h=>intro v' e;cases e;exact .t x v (h.mono (Same.refl _ _) hg)
 | agg cs vs hn hcb hr ih=>
   intro v' e
   simp only [V.frz] at e
   split at e
   · rename_i l hl
     split at e
     · rename_i hall
       cases e
       obtain ⟨h1,h2⟩:=frzL_get hl
       refine .agg l vs (by rw [hn,h1]) (fun c hc=>List.all_eq_true.1 hall c hc) fun i c u q1 q2=>?_
       obtain ⟨c0,q3,q4⟩:=h2 i c q1
       exact ih i c0 u q3 q2 q4
     · cases e
   · cases e
 | tup cs vs hn hr ih=>
   intro v' e
   simp only [V.frz] at e
   split at e
   · rename_i l hl
     cases e
     obtain ⟨h1,h2⟩:=frzL_get hl
     refine .tup l vs (by rw [hn,h1]) fun i c u q1 q2=>?_
     obtain ⟨c0,q3,q4⟩:=h2 i c q1
     exact ih i c0 u q3 q2 q4
   · cases e
 | lstN id a0 z0 h hz0=>
   intro v' e
   simp only [V.frz] at e
   split at e
   · rename_i ty es rows hrow
     cases e
     have hR:=hH.row id _ (getD_row hrow)
     cases hR with
     | listN=>exact .t _ _ (.slc [] a0 0 0 0 0 (fun _ _=>undef) (Nat.zero_le _) (fun _=>rfl) (fun h=>absurd rfl h) (fun row h=>by cases h) (fun i j t h=>by simp at h) (fun i j t h=>by simp at h))
     | list ty es rows b cap vs hat=>rw [hat] at h;cases h
   · cases e
 | lst id b cap es len h=>
   intro v' e
   simp only [V.frz] at e
   split at e
   · rename_i ty es' rows hrow
     cases e
     have hrow':=getD_row hrow
     have hR:=hH.row id _ hrow'
     cases hR with
     | listN ty es z1 hat hz1=>rw [hat] at h;cases h
     | list ty es rows b' cap' vs hat hbl hn hcap hmax hsz hes hr=>
       have hh:=h
       rw [hat] at h
       cases h
       refine .t _ _ (.slc rows (some ⟨b,0,none⟩) b 0 es cap (fun i j=>vs.getD (i*es+j) undef) hcap (fun h=>by cases h) (fun _=>⟨rfl,.inr ⟨id,_,_,_,_,_,_,hrow',hh⟩⟩) hes (fun i j t ht=>?_) (fun i j t ht=>?_))
       · obtain ⟨u,h1,h2⟩:=hr i j t ht
         rw [cell_of_block hbl,Nat.zero_add,h1]
         congr 1
         rw [Array.getD_eq_getD_getElem?,h1]
         rfl
       · obtain ⟨u,h1,h2⟩:=hr i j t ht
         have:vs.getD (i*es+j) undef=u:=by rw [Array.getD_eq_getD_getElem?,h1];rfl
         rw [this]
         exact h2.mono (Same.refl _ _) hg
   · cases e
 | ptr=>intro v' e;cases e
 | elt=>intro v' e;cases e
 | win=>intro v' e;cases e
 | mp=>intro v' e;cases e
 | pre=>intro v' e;cases e
 | ipt cells off b o u hb hc hr=>intro v' e;cases e;exact .ipt cells off b o u (.inl hb) hc fun j t h=>(hr j t h).mono (Same.refl _ _) hg
 | fn f cs vs hn hr ih=>
   intro v' e
   simp only [V.frz] at e
   split at e
   · rename_i l hl
     cases e
     obtain ⟨h1,h2⟩:=frzL_get hl
     refine .fn f l vs (by rw [hn,h1]) fun i c u q1 q2=>?_
     obtain ⟨c0,q3,q4⟩:=h2 i c q1
     exact ih i c0 u q3 q2 q4
   · cases e
 | ifc t v u h ih=>
   intro v' e
   simp only [V.frz] at e
   split at e
   · rename_i x hx
     cases e
     exact .ifc t x u (ih hx)
   · cases e
 | junk=>intro v' e;cases e
theorem frz_reps {cx:Cx} {heap:List (Option Row)} {w:World} (hH:HRep cx heap w) {cs cs':List V} {vs:Array Value} (h:VReps cx w cs vs) (e:frzL heap cs=some cs'):VReps (Cx.none fun b=>cx.G b∨listBlk cx heap b) w cs' vs:=by
 obtain ⟨h1,h2⟩:=frzL_get e
 refine ⟨by rw [h.1,h1],fun i c u q1 q2=>?_⟩
 obtain ⟨c0,q3,q4⟩:=h2 i c q1
 exact frz_rep hH (h.2 i c0 u q3 q2) q4
def resF (tmps:Array Value):ResultVar→Sem Value
 | .tmp t=>pure (tmps.getD t undef)
 | .cell a t=>do loadVar t (←asAddr (tmps.getD a undef))
theorem results_eq (fn:Func) (tmps:Array Value):results fn tmps=(do
 let vs ←fn.results.mapM (resF tmps)
 pure (if h:vs.size=1 then vs[0] else .tuple vs)):=by
 unfold results
 congr 1
theorem run_results_list (hL:LayOk P L) {cx:Cx} {w:World} {s:St} {a:Act} (R:VReps cx w s.tmps a.tmps) (hrow:∀id r,s.heap.getD id none=some r→RowRep cx w id r):∀(rs:List ResultVar) (l:List V),resT L s rs=some l→
 ∃us:List Value,(rs.mapM (resF a.tmps)).run P w=.ok us w∧us.length=l.length∧∀(i:Nat) (c:V) (u:Value),l[i]?=some c→us[i]?=some u→VRep cx w c u:=by
 intro rs
 induction rs with
 | nil=>intro l h;simp only [resT,Option.some.injEq] at h;subst h;exact ⟨[],by simp,rfl,fun i c u h=>by simp at h⟩
 | cons x rs ih=>
   intro l h
   have put:∀{v:V} {u:Value} {r:List V},(resF a.tmps x).run P w=.ok u w→VRep cx w v u→resT L s rs=some r→v::r=l→
    ∃us:List Value,((x::rs).mapM (resF a.tmps)).run P w=.ok us w∧us.length=l.length∧∀(i:Nat) (c:V) (u:Value),l[i]?=some c→us[i]?=some u→VRep cx w c u:=fun {v u r} h0 hv hr e=>by
    subst e
    obtain ⟨us,h1,h2,h3⟩:=ih r hr
    refine ⟨u::us,?_,by simp [h2],fun i c u' q1 q2=>?_⟩
    · rw [List.mapM_cons]
      simp only [Sem.run_bind,h0,Sem.run_pure,Result.andThen_ok,h1]
    · cases i with
      | zero=>simp at q1 q2;subst q1;subst q2;exact hv
      | succ i=>exact h3 i c u' (by simpa using q1) (by simpa using q2)
   cases x with
   | cell b t=>
     simp only [resT] at h
     split at h
     · rename_i lt id off hlt hb
       split at h
       · rename_i ty cs hrw
         split at h
         · rename_i v r hv hr
           injection h with h
           have hlt2:b<a.tmps.size:=by rw [R.1];exact (List.getElem?_eq_some_iff.1 hb).1
           have hp:=R.2 _ _ _ hb (Array.getElem?_eq_getElem hlt2)
           obtain ⟨g,hat,hc⟩:=(hrow id _ hrw).boxCells
           generalize hu:a.tmps[b]=u at hp
           cases hp with
           | ptr id off g' cap es len h'=>
             rw [hat] at h'
             cases h'
             obtain ⟨u,h1,h2⟩:=hc.load hL hlt hv
             refine put ?_ h2 hr h
             simp only [resF,Array.getD_eq_getD_getElem?,Array.getElem?_eq_getElem hlt2,Option.getD_some,hu,asAddr,Sem.run_bind,Sem.run_pure,Result.andThen_ok]
             rw [Nat.zero_add] at h1
             exact h1
         · cases h
       · cases h
     · cases h
   | tmp t=>
     simp only [resT] at h
     split at h
     · rename_i v r hv hr
       injection h with h
       have hlt:t<a.tmps.size:=by rw [R.1];exact (List.getElem?_eq_some_iff.1 hv).1
       refine put (u:=a.tmps[t]) ?_ (R.2 _ _ _ hv (Array.getElem?_eq_getElem hlt)) hr h
       simp only [resF,Sem.run_pure,Array.getD_eq_getD_getElem?,Array.getElem?_eq_getElem hlt,Option.getD_some]
     · cases h
theorem run_results (hL:LayOk P L) {cx:Cx} {w:World} {s:St} {a:Act} {fn:Func} (R:VReps cx w s.tmps a.tmps) (hrow:∀id r,s.heap.getD id none=some r→RowRep cx w id r) {r:V} (h:resV L fn.results.toList s=some r):∃u,(results fn a.tmps).run P w=.ok u w∧VRep cx w r u:=by
 unfold resV at h
 have key:∀l,resT L s fn.results.toList=some l→∃us:List Value,(fn.results.mapM (resF a.tmps)).run P w=.ok us.toArray w∧us.length=l.length∧∀(i:Nat) (c:V) (u:Value),l[i]?=some c→us[i]?=some u→VRep cx w c u:=fun l hl=>by
  obtain ⟨us,h1,h2,h3⟩:=run_results_list hL R hrow _ _ hl
  refine ⟨us,?_,h2,h3⟩
  rw [Array.mapM_eq_mapM_toList]
  simp only [Sem.run_map,h1]
  rfl
 split at h
 · rename_i v hl
   cases h
   obtain ⟨us,h1,h2,h3⟩:=key _ hl
   obtain ⟨u,rfl⟩:∃u,us=[u]:=by
    cases us with
    | nil=>simp at h2
    | cons u t=>cases t with
      | nil=>exact ⟨u,rfl⟩
      | cons=>simp at h2
   refine ⟨u,?_,h3 0 _ u rfl rfl⟩
   rw [results_eq]
   simp only [Sem.run_bind,h1,Result.andThen_ok,Sem.run_pure]
   rfl
 · rename_i l hne hl
   cases h
   obtain ⟨us,h1,h2,h3⟩:=key _ hl
   refine ⟨.tuple us.toArray,?_,.tup _ _ (by simpa using h2) fun i c u q1 q2=>h3 i c u q1 (by simpa using q2)⟩
   have hs:us.toArray.size≠1:=by
    intro e
    have:l.length=1:=by rw [←h2];simpa using e
    obtain ⟨v,rfl⟩:=List.length_eq_one_iff.1 this
    exact hne v rfl
   rw [results_eq]
   simp only [Sem.run_bind,h1,Result.andThen_ok,Sem.run_pure]
   rw [dif_neg hs]
 · cases h
theorem args_tmps {cx:Cx} {w:World} {args:List V} {cargs:Array Value} (h:VReps cx w args cargs) (n:Nat):VReps cx w (args++List.replicate (n-args.length) .junk) (cargs++Array.replicate (n-cargs.size) undef):=by
 refine ⟨by simp [h.1],fun i c u q1 q2=>?_⟩
 by_cases hi:i<args.length
 · rw [List.getElem?_append_left hi] at q1
   rw [Array.getElem?_append_left (by rw [h.1];exact hi)] at q2
   exact h.2 i c u q1 q2
 · rw [List.getElem?_append_right (by omega),List.getElem?_replicate] at q1
   split at q1
   · cases q1;exact .junk u
   · cases q1
def VLe (v v':V):Prop:=∀(cx:Cx) (w:World) (u:Value),VRep cx w v u→VRep cx w v' u
theorem body_calls (hL:LayOk P L) {f:FuncId} {fn:Func} {c:Code} {args:List V} {cargs:Array Value} {cx:Cx} {w:World} {heap:List (Option Row)} {base:Nat} {K:V→St→Prop} (hf:P.funcs[f]?=some fn) (hb:fn.body=some c)
 (R0:Rel A cx ⟨args++List.replicate (fn.ntmps-args.length) .junk,heap,base⟩ {tmps:=cargs++Array.replicate (fn.ntmps-cargs.size) undef,defers:=[]} w)
 (h:∀Q:Ex→St→Prop,(∀s r,resV L fn.results.toList s=some r→K r s→Q .ret s∧Q .normal s)→AW P A c ⟨args++List.replicate (fn.ntmps-args.length) .junk,heap,base⟩ Q):
 Calls P f cargs w fun e w'=>(∃u r s cx' a',e=.returned u∧K r s∧VRep cx' w' r u∧Rel A cx' s a' w')∨∃ch a',e=.panicked ch∧PanAt A a' ch w':=by
 refine calls_of_wp hf hb ?_
 have key:=h (fun e s=>(e=.ret∨e=.normal)∧∃r,resV L fn.results.toList s=some r∧K r s) (fun s r h1 h2=>⟨⟨.inl rfl,r,h1,h2⟩,⟨.inr rfl,r,h1,h2⟩⟩) _ _ _ R0
 refine wp_mono key fun e a w' h=>?_
 rcases h with ⟨e',s',cx',h1,⟨h2,r,h3,hK⟩,h4⟩ | ⟨ch,rfl,hp⟩
 · obtain ⟨u,g1,g2⟩:=run_results (P:=P) hL h4.tm (fun id r hr=>h4.hp.row id r (getD_row hr)) h3
   rcases h2 with rfl | rfl
   · cases e<;>first | exact h1.elim | exact ⟨h4.df.trans R0.df.symm,u,g1,.inl ⟨u,r,s',cx',a,rfl,hK,g2,h4⟩⟩
   · cases e<;>first | exact h1.elim | exact ⟨h4.df.trans R0.df.symm,u,g1,.inl ⟨u,r,s',cx',a,rfl,hK,g2,h4⟩⟩
 · obtain ⟨v,u,s,cx',hch,hcl,hpan,hrep,hR⟩:=hp
   exact ⟨hR.df.trans R0.df.symm,.inr ⟨ch,a,rfl,v,u,s,cx',hch,hcl,hpan,hrep,hR⟩⟩
theorem Kept.frzG {A:Run} {cx:Cx} {heap:List (Option Row)} {w:World} (h:Kept A cx heap w) (hH:HRep cx heap w) (hM:∀(id:Nat) ty es rows b cap es' len,heap[id]?=some (some (.list ty es rows))→cx.at_ id=some (.at b cap es' len)→¬ A.M b) (hMG:∀b,cx.G b→¬ A.M b) (b:Nat) (hb:cx.G b∨listBlk cx heap b):
 A.G b∨(A.w.heap.size≤b∧b<w.heap.size):=by
 rcases hb with hb | ⟨id,ty,es,rows,cap,es',len,g1,g2⟩
 · rcases h.G2 b hb with h1 | h1 | h1
   · exact .inl h1
   · exact absurd h1 (hMG b hb)
   · exact .inr ⟨h1,h.G1 b hb⟩
 · rcases h.live _ _ _ _ _ _ g1 g2 with h1 | h1
   · exact absurd h1 (hM _ _ _ _ _ _ _ _ g1 g2)
   · exact .inr ⟨h1,(hH.live_lt g1 g2).1⟩
theorem start_rel {args:List V} {cargs:Array Value} {fn:Func} {G:Nat→Prop} {w:World} {pan:V→St→Prop} (hG:∀b,G b→b<w.heap.size) (hT:Tab G w) (hargs:VReps (Cx.none G) w args cargs):
 Rel ⟨w,fun _=>False,G,fun _=>none,0,pan,[]⟩ (Cx.none G) ⟨args++List.replicate (fn.ntmps-args.length) .junk,[],0⟩ {tmps:=cargs++Array.replicate (fn.ntmps-cargs.size) undef,defers:=[]} w:=by
 refine ⟨args_tmps hargs _,rfl,⟨fun id r h=>by simp at h,fun id id' r r' b cap es len cap' es' len' h=>by simp at h,fun _ _=>rfl⟩,?_,rfl⟩
 exact ⟨rfl,rfl,rfl,Nat.le_refl _,fun _ _ _=>rfl,fun id r b cap es len h=>by simp at h,fun b h=>h,hG,fun b h=>.inl h,(fun id B h=>by cases h),Nat.zero_le _,hT⟩
theorem Fun_of (hL:LayOk P L) {f:FuncId} {fn:Func} {c:Code} {args:List V} {v:V} (hcall:Callable P f) (hf:P.funcs[f]?=some fn) (hb:fn.body=some c)
 (h:∀(A:Run) (Q:Ex→St→Prop),(∀id,A.pin id=none)→(∀s r v',resV L fn.results.toList s=some r→r.frz s.heap=some v'→VLe v' v→Q .ret s∧Q .normal s)→AW P A c ⟨args++List.replicate (fn.ntmps-args.length) .junk,[],0⟩ Q):Fun P f args v:=by
 refine ⟨hcall,fun G w cargs hG hT hargs=>?_⟩
 refine (body_calls hL (K:=fun r s=>∃v',r.frz s.heap=some v'∧VLe v' v) hf hb (start_rel (fn:=fn) (pan:=fun _ _=>False) hG hT hargs) fun Q hQ=>h _ Q (fun _=>rfl) fun s r v' h1 h2 h3=>hQ s r h1 ⟨v',h2,h3⟩).mono fun e w' h=>?_
 rcases h with ⟨u,r,s,cx,a,rfl,⟨v',h2,hle⟩,h4,R⟩ | ⟨ch,a,rfl,v',u,s,cx,hch,hcl,hpan,hrep,R⟩
 · refine ⟨u,rfl,⟨R.kp.os,R.kp.tape,R.kp.output,R.kp.size,fun b hb=>R.kp.block b hb (fun h=>h)⟩,?_⟩
   exact (hle _ _ _ (frz_rep R.hp h4 h2)).mono (Same.refl _ _) (none_le _ _ fun b hb=>R.kp.frzG R.hp (fun _ _ _ _ _ _ _ _ _ _ h=>h) (fun _ _ h=>h) b hb)
 · exact hpan.elim
theorem Thr_of (hL:LayOk P L) {f:FuncId} {fn:Func} {c:Code} {args:List V} {v:V} (hcall:Callable P f) (hf:P.funcs[f]?=some fn) (hb:fn.body=some c)
 (h:∀(A:Run) (Q:Ex→St→Prop),(∀id,A.pin id=none)→(∀v' t,VLe v' v→A.pan v' t)→AW P A c ⟨args++List.replicate (fn.ntmps-args.length) .junk,[],0⟩ Q):Thr P f args v:=by
 refine ⟨hcall,fun G w cargs hG hT hargs=>?_⟩
 refine (body_calls hL (K:=fun _ _=>False) hf hb (start_rel (fn:=fn) (pan:=fun v' _=>VLe v' v) hG hT hargs) fun Q hQ=>h _ Q (fun _=>rfl) fun v' _ h=>h).mono fun e w' h=>?_
 rcases h with ⟨u,r,s,cx,a,rfl,hK,h4,R⟩ | ⟨ch,a,rfl,v',u,s,cx,rfl,hcl,hpan,hrep,R⟩
 · exact hK.elim
 · refine ⟨u,rfl,⟨R.kp.os,R.kp.tape,R.kp.output,R.kp.size,fun b hb=>R.kp.block b hb (fun h=>h)⟩,?_⟩
   exact (hpan _ _ _ (closed_rep hrep hcl)).mono (Same.refl _ _) (none_le _ _ fun b hb=>R.kp.frzG R.hp (fun _ _ _ _ _ _ _ _ _ _ h=>h) (fun _ _ h=>h) b (.inl hb))
theorem VReps.cons {cx:Cx} {w:World} {v:V} {u:Value} {vs:List V} {us:Array Value} (h:VRep cx w v u) (hr:VReps cx w vs us):VReps cx w (v::vs) (#[u]++us):=by
 refine ⟨by simp [hr.1];omega,fun i c x h1 h2=>?_⟩
 cases i with
 | zero=>
   rw [Array.getElem?_append_left (by simp)] at h2
   simp at h1 h2
   subst h1
   subst h2
   exact h
 | succ i=>
   rw [Array.getElem?_append_right (by simp)] at h2
   exact hr.2 i c x (by simpa using h1) (by simpa using h2)
theorem VReps.uncons {cx:Cx} {w:World} {v:V} {vs:List V} {us:Array Value} (h:VReps cx w (v::vs) us):∃u r,us=#[u]++r∧VRep cx w v u∧VReps cx w vs r:=by
 obtain ⟨l⟩:=us
 cases l with
 | nil=>have:=h.1;simp at this
 | cons u r=>exact ⟨u,⟨r⟩,by simp,h.2 0 v u rfl rfl,by have:=h.1;simpa using this,fun i c x h1 h2=>h.2 (i+1) c x (by simpa using h1) (by simpa using h2)⟩
def VLes (cs cs':List V):Prop:=∀(cx:Cx) (w:World) (us:Array Value),VReps cx w cs us→VReps cx w cs' us
theorem Meth_of (hL:LayOk P L) {f:FuncId} {fn:Func} {c:Code} {ty:TypeId} {cells args:List V} {o:Out} (hcall:Callable P f) (hf:P.funcs[f]?=some fn) (hb:fn.body=some c)
 (h:∀(A:Run) (Q:Ex→St→Prop),(∀id,1≤id→A.pin id=none)→(match o with
  | .ret v cells'=>∀s r v' cs cs',resV L fn.results.toList s=some r→r.frz s.heap=some v'→s.heap.getD 0 none=some (.box ty cs)→frzL s.heap cs=some cs'→VLe v' v→VLes cs' cells'→Q .ret s∧Q .normal s
  | .pan v=>∀v' (t:St) cs,t.heap.getD 0 none=some (.box ty cs)→VLe v' v→A.pan v' t)→
  AW P A c ⟨(.ptr 0 0::args)++List.replicate (fn.ntmps-(V.ptr 0 0::args).length) .junk,[some (.box ty cells)],1⟩ Q):Meth P f ty cells args o:=by
 refine ⟨hcall,fun G w b vs cargs hG hT hnG hbl hcells hargs=>?_⟩
 let at0:Nat→Option Blk:=fun i=>if i=0 then some (.at b 1 cells.length 1) else none
 have at00:at0 0=some (.at b 1 cells.length 1):=rfl
 have at0s:∀i B,at0 i=some B→i=0∧B=.at b 1 cells.length 1:=fun i B h=>by
  have h':(if i=0 then some (Blk.at b 1 cells.length 1) else none)=some B:=h
  split at h'
  · rename_i e;cases h';exact ⟨e,rfl⟩
  · cases h'
 let pan:V→St→Prop:=match o with
  | .ret _ _=>fun _ _=>False
  | .pan v=>fun v' t=>VLe v' v∧∃cs,t.heap.getD 0 none=some (.box ty cs)
 let A:Run:=⟨w,fun c=>c=b,G,at0,1,pan,[]⟩
 let cx:Cx:=⟨at0,G⟩
 have hlt:=lt_size hbl
 have R0:Rel A cx ⟨(.ptr 0 0::args)++List.replicate (fn.ntmps-(V.ptr 0 0::args).length) .junk,[some (.box ty cells)],1⟩ {tmps:=(#[.pointer (some ⟨b,0,none⟩)]++cargs)++Array.replicate (fn.ntmps-(#[Value.pointer (some ⟨b,0,none⟩)]++cargs).size) undef,defers:=[]} w:=by
  have hle:(Cx.none G).le cx:=none_le cx G fun _ h=>h
  refine ⟨args_tmps (VReps.cons (.ptr 0 0 b 1 cells.length 1 at00) (hargs.mono (Same.refl _ _) hle)) _,rfl,⟨fun id r h=>?_,fun id id' r r' b1 cap es len cap' es' len' h1 h2 h3 h4=>?_,fun id hid=>?_⟩,?_,rfl⟩
  · cases id with
    | zero=>simp at h;subst h;exact .box ty cells b vs at00 hbl hnG (hcells.mono (Same.refl _ _) hle)
    | succ i=>simp at h
  · rw [(at0s _ _ h3).1,(at0s _ _ h4).1]
  · show at0 id=none
    simp only [List.length_cons,List.length_nil] at hid
    exact if_neg (by omega)
  · refine ⟨rfl,rfl,rfl,Nat.le_refl _,fun _ _ _=>rfl,fun id r b1 cap es len h1 h2=>.inl ?_,fun b h=>h,hG,fun b h=>.inl h,fun id B h=>⟨h,?_⟩,Nat.le_refl _,hT⟩
    · have:=(at0s _ _ h2).2;cases this;rfl
    · rw [(at0s _ _ h).1];exact Nat.lt_succ_self 0
 have hfree:∀id,1≤id→A.pin id=none:=fun id h=>if_neg (by omega)
 have fin:∀{cx':Cx} {s:St} {a':Act} {w':World} {cs:List V},Rel A cx' s a' w'→s.heap.getD 0 none=some (.box ty cs)→BelowBut b w w'∧(∀c,(cx'.G c∨listBlk cx' s.heap c)→G c∨(w.heap.size≤c∧c<w'.heap.size))∧∃vs',w'.heap[b]?=some (.cells vs' ty (0,0))∧vs'.size=vs.size∧VReps cx' w' cs vs':=fun {cx' s a' w' cs} R hrow=>by
  refine ⟨⟨R.kp.os,R.kp.tape,R.kp.output,R.kp.size,fun k h1 h2=>R.kp.block k h1 h2⟩,?_,?_⟩
  · refine R.kp.frzG R.hp (fun id ty' es rows b1 cap es' len h1 h2 hM=>?_) (fun b1 hb1 hM=>?_)
    · obtain rfl:b1=b:=hM
      have h0:=(R.kp.pin 0 _ at00).1
      obtain rfl:=R.hp.inj _ _ _ _ _ _ _ _ _ _ _ h1 (getD_row hrow) h2 h0
      rw [getD_row hrow] at h1
      cases h1
    · obtain rfl:b1=b:=hM
      exact (R.hp.live_lt (getD_row hrow) (R.kp.pin 0 _ at00).1).2 hb1
  · have hR:=R.hp.row 0 _ (getD_row hrow)
    have h0:=(R.kp.pin 0 _ at00).1
    cases hR with
    | box ty cs b1 vs1 hat hbl1 hn1 hr1=>
      rw [hat] at h0
      injection h0 with h0
      injection h0 with e1 _ e2 _
      subst e1
      exact ⟨vs1,hbl1,by rw [hr1.1,e2,hcells.1],hr1⟩
 cases o with
 | ret v cells'=>
   refine (body_calls hL (K:=fun r s=>∃v' cs cs',r.frz s.heap=some v'∧s.heap.getD 0 none=some (.box ty cs)∧frzL s.heap cs=some cs'∧VLe v' v∧VLes cs' cells') hf hb R0 fun Q hQ=>h A Q hfree fun s r v' cs cs' h1 h2 h3 h4 h5 h6=>hQ s r h1 ⟨v',cs,cs',h2,h3,h4,h5,h6⟩).mono fun e w' h=>?_
   rcases h with ⟨u,r,s,cx',a',rfl,⟨v',cs,cs',h2,h3,h4,h5,h6⟩,hrep,R⟩ | ⟨ch,a',rfl,v',u,s,cx',hch,hcl,hpan,hrep,R⟩
   · obtain ⟨f1,f2,vs',f3,f4,f5⟩:=fin R h3
     exact ⟨f1,u,vs',f3,f4,rfl,(h6 _ _ _ (frz_reps R.hp f5 h4)).mono (Same.refl _ _) (none_le _ _ f2),(h5 _ _ _ (frz_rep R.hp hrep h2)).mono (Same.refl _ _) (none_le _ _ f2)⟩
   · exact hpan.elim
 | pan v=>
   refine (body_calls hL (K:=fun r s=>False) hf hb R0 fun Q hQ=>h A Q hfree fun v' heap cs h1 h2=>⟨h2,cs,h1⟩).mono fun e w' h=>?_
   rcases h with ⟨u,r,s,cx',a',rfl,hK,hrep,R⟩ | ⟨ch,a',rfl,v',u,s,cx',rfl,hcl,⟨hle,cs,hrow⟩,hrep,R⟩
   · exact hK.elim
   · obtain ⟨f1,f2,vs',f3,f4,f5⟩:=fin R hrow
     exact ⟨f1,u,vs',f3,f4,rfl,(hle _ _ _ (closed_rep hrep hcl)).mono (Same.refl _ _) (none_le _ _ fun c hc=>f2 c (.inl hc))⟩
theorem RowRep.ren {cx cx':Cx} {w:World} {id id':Nat} {r:Row} (h:RowRep cx w id r) (hat:cx'.at_ id'=cx.at_ id) (hG:cx'.G=cx.G) (hr:∃ty es rows,r=.list ty es rows):RowRep cx' w id' r:=by
 obtain ⟨ty,es,rows,rfl⟩:=hr
 cases h with
 | listN ty es z h hz=>exact .listN _ _ z (by rw [hat];exact h) hz
 | list ty es rows b cap vs h hbl hn hcap hmax hsz hes hr=>exact .list _ _ _ b cap vs (by rw [hat];exact h) hbl (by rw [hG];exact hn) hcap hmax hsz hes (by rw [hG];exact hr)
def ownV (s:St) (r:V) (ty es:Nat) (rows:Rows):Prop:=(∃id,r=.lst id∧s.heap.getD id none=some (.list ty es rows))∨(r=vNil∧rows=[])
theorem FunL_of (hL:LayOk P L) {f:FuncId} {fn:Func} {c:Code} {args:List V} {ty es:Nat} {rows:Rows} (hcall:Callable P f) (hf:P.funcs[f]?=some fn) (hb:fn.body=some c)
 (h:∀(A:Run) (Q:Ex→St→Prop),(∀id,A.pin id=none)→(∀s r,resV L fn.results.toList s=some r→ownV s r ty es rows→Q .ret s∧Q .normal s)→AW P A c ⟨args++List.replicate (fn.ntmps-args.length) .junk,[],0⟩ Q):FunL P f args ty es rows:=by
 refine ⟨hcall,fun G w cargs hG hT hargs=>?_⟩
 refine (body_calls hL (K:=fun r s=>ownV s r ty es rows) hf hb (start_rel (fn:=fn) (pan:=fun _ _=>False) hG hT hargs) fun Q hQ=>h _ Q (fun _=>rfl) fun s r h1 h2=>hQ s r h1 h2).mono fun e w' h=>?_
 rcases h with ⟨u,r,s,cx,a,rfl,hown,h4,R⟩ | ⟨ch,a,rfl,v',u,s,cx,hch,hcl,hpan,hrep,R⟩
 · refine ⟨⟨R.kp.os,R.kp.tape,R.kp.output,R.kp.size,fun b hb=>R.kp.block b hb (fun h=>h)⟩,?_⟩
   have hG':∀b,cx.G b→G b∨(w.heap.size≤b∧b<w'.heap.size):=fun b hb=>R.kp.frzG R.hp (fun _ _ _ _ _ _ _ _ _ _ h=>h) (fun _ _ h=>h) b (.inl hb)
   rcases hown with ⟨id,rfl,hrow⟩ | ⟨rfl,rfl⟩
   · have hR:=R.hp.row id _ (getD_row hrow)
     refine ⟨⟨fun _=>cx.at_ id,cx.G⟩,u,rfl,hG',R.kp.G0,?_,hR.ren rfl rfl ⟨_,_,_,rfl⟩,fun b cap es len hat=>?_⟩
     · cases h4 with
       | lstN id a0 z0 h hz0=>exact .lstN _ _ z0 h hz0
       | lst id b cap es len h=>exact .lst _ _ _ _ _ h
     · rcases R.kp.live _ _ _ _ _ _ (getD_row hrow) hat with h | h
       · exact h.elim
       · exact h
   · have:=inv_flat h4
     subst this
     exact ⟨⟨fun _=>some (.nil true),cx.G⟩,_,rfl,hG',R.kp.G0,.lstN _ none true rfl (fun _=>rfl),.listN _ _ true rfl (fun h=>by cases h),fun b cap es len hat=>by cases hat⟩
 · exact hpan.elim
end
end Ab
end Go.Proofs.YtbpihhelojjedaaDoor
