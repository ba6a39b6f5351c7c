/- Texts that the proof leans on. -/
import Derived.Test.YtbpihhelojjedaaDoorK312
set_option linter.unusedVariables false
set_option linter.unusedSimpArgs false
set_option maxRecDepth 100000
set_option maxHeartbeats 4000000
namespace Go.Proofs.YtbpihhelojjedaaDoor
open Go Go.RowKit
namespace Ab
theorem blt_false {i n:Nat}:Nat.blt i n=false↔n≤i:=by rw [←Bool.not_eq_true,Nat.blt_eq];omega
mutual
def V.ren (ρ:Nat→Option Nat):V→V
 | .t x=>.t x
 | .agg cs=>match renL ρ cs with
   | l=>if l.all V.cellB then .agg l else .junk
 | .tup cs=>.tup (renL ρ cs)
 | .lst id=>match ρ id with
   | some j=>.lst j
   | none=>.junk
 | .ptr id off=>match ρ id with
   | some j=>.ptr j off
   | none=>.junk
 | .elt id r off=>match ρ id with
   | some j=>.elt j r off
   | none=>.junk
 | .win id lo=>match ρ id with
   | some j=>.win j lo
   | none=>.junk
 | .mp id=>match ρ id with
   | some j=>.mp j
   | none=>.junk
 | .pre id h=>match ρ id with
   | some j=>.pre j h
   | none=>.junk
 | .ipt c o=>.ipt c o
 | .fn f cs=>.fn f (renL ρ cs)
 | .ifc t v=>.ifc t (V.ren ρ v)
 | .junk=>.junk
def renL (ρ:Nat→Option Nat):List V→List V
 | []=>[]
 | v::r=>V.ren ρ v::renL ρ r
end
def Row.ren (ρ:Nat→Option Nat):Row→Row
 | .box ty cs=>.box ty (renL ρ cs)
 | .hole ty rows r kid=>.hole ty rows r (kid.bind ρ)
 | r=>r
mutual
def V.frzP (n:Nat) (hp:List (Option Row)):V→Option V
 | .t x=>some (.t x)
 | .lst id=>match Nat.blt id n with
   | true=>some (.lst id)
   | false=>match hp.getD id none with
     | some (.list _ _ rows)=>some (.t (.slc rows))
     | _=>none
 | .ptr id off=>match Nat.blt id n with
   | true=>some (.ptr id off)
   | false=>none
 | .mp id=>match Nat.blt id n with
   | true=>some (.mp id)
   | false=>none
 | .agg cs=>match frzPL n hp cs with
   | some l=>if l.all V.cellB then some (.agg l) else none
   | none=>none
 | .tup cs=>match frzPL n hp cs with
   | some l=>some (.tup l)
   | none=>none
 | .ipt c o=>some (.ipt c o)
 | .fn f cs=>match frzPL n hp cs with
   | some l=>some (.fn f l)
   | none=>none
 | .ifc t v=>match V.frzP n hp v with
   | some v=>some (.ifc t v)
   | none=>none
 | .junk=>some .junk
 | _=>none
def frzPL (n:Nat) (hp:List (Option Row)):List V→Option (List V)
 | []=>some []
 | v::r=>match V.frzP n hp v,frzPL n hp r with
   | some x,some l=>some (x::l)
   | _,_=>none
end
def rowsQ (n:Nat) (hp:List (Option Row)):List (Option Row)→Option (List Row)
 | []=>some []
 | some (.box ty cs)::r=>match frzPL n hp cs,rowsQ n hp r with
   | some cs',some l=>some (.box ty cs'::l)
   | _,_=>none
 | some (.hole _ _ _ _)::_=>none
 | some x::r=>match rowsQ n hp r with
   | some l=>some (x::l)
   | none=>none
 | none::_=>none
def RowLe (r r':Row):Prop:=r=r'∨∃ty cs cs',r=.box ty cs∧r'=.box ty cs'∧VLes cs cs'
def RowsLe (l l':List Row):Prop:=l.length=l'.length∧∀(i:Nat) r r',l[i]?=some r→l'[i]?=some r'→RowLe r r'
def hblk (cx:Cx) (n b:Nat):Prop:=∃i cap es len,i<n∧cx.at_ i=some (.at b cap es len)
structure HEnd (cx:Cx) (w:World) (H:List Row) (cx':Cx) (w':World) (H':List Row):Prop where
 os:w'.os=w.os
 tape:w'.tape=w.tape
 output:w'.output=w.output
 size:w.heap.size≤w'.heap.size
 len:H'.length=H.length
 block:∀b,b<w.heap.size→¬ hblk cx H.length b→w'.heap[b]?=w.heap[b]?
 G0:∀b,cx.G b→cx'.G b
 G1:∀b,cx'.G b→b<w'.heap.size
 G2:∀b,cx'.G b→cx.G b∨hblk cx H.length b∨w.heap.size≤b
 rep:HRep cx' (H'.map some) w'
 at_:∀i b cap es len,cx'.at_ i=some (.at b cap es len)→hblk cx H.length b∨w.heap.size≤b
 box:∀(i:Nat) ty cs,H[i]?=some (.box ty cs)→cx'.at_ i=cx.at_ i
def HFun (P:Program) (f:FuncId) (args:List V) (H:List Row) (v:V) (H':List Row):Prop:=
 Callable P f∧∀(cx:Cx) (w:World) (cargs:Array Value),(∀b,cx.G b→b<w.heap.size)→Tab cx.G w→HRep cx (H.map some) w→VReps cx w args cargs→
  Calls P f cargs w fun e w'=>∃u cx',e=.returned u∧HEnd cx w H cx' w' H'∧VRep cx' w' v u
theorem renL_map (ρ:Nat→Option Nat):∀l:List V,renL ρ l=l.map (V.ren ρ)
 | []=>rfl
 | v::r=>by rw [renL,renL_map ρ r];rfl
theorem VRep.ren {cx cx':Cx} {w w':World} {ρ:Nat→Option Nat} {v:V} {u:Value} (h:VRep cx w v u) (hs:Same cx.G w w') (hG:∀b,cx.G b→cx'.G b) (hat:∀id j B,ρ id=some j→cx.at_ id=some B→cx'.at_ j=some B):VRep cx' w' (v.ren ρ) u:=by
 induction h with
 | t x v h=>exact .t x v (h.mono hs hG)
 | agg cs vs hn hcb hr ih=>
   rw [V.ren]
   split
   · rename_i hall
     rw [renL_map] at hall ⊢
     refine .agg _ vs (by simpa using hn) (fun c hc=>List.all_eq_true.1 hall c hc) fun i c u h1 h2=>?_
     rw [List.getElem?_map] at h1
     obtain ⟨c',hc',rfl⟩:=Option.map_eq_some_iff.1 h1
     exact ih i c' u hc' h2
   · exact .junk _
 | tup cs vs hn hr ih=>
   rw [V.ren,renL_map]
   refine .tup _ vs (by simpa using hn) fun i c u h1 h2=>?_
   rw [List.getElem?_map] at h1
   obtain ⟨c',hc',rfl⟩:=Option.map_eq_some_iff.1 h1
   exact ih i c' u hc' h2
 | lstN id a0 z0 h hz0=>
   rw [V.ren]
   split
   · exact .lstN _ _ z0 (hat _ _ _ ‹_› h) hz0
   · exact .junk _
 | lst id b cap es len h=>
   rw [V.ren]
   split
   · exact .lst _ _ _ _ _ (hat _ _ _ ‹_› h)
   · exact .junk _
 | ptr id off b cap es len h=>
   rw [V.ren]
   split
   · exact .ptr _ _ _ _ _ _ (hat _ _ _ ‹_› h)
   · exact .junk _
 | elt id row off b cap es len h=>
   rw [V.ren]
   split
   · exact .elt _ _ _ _ _ _ _ (hat _ _ _ ‹_› h)
   · exact .junk _
 | win id lo b cap es len h=>
   rw [V.ren]
   split
   · exact .win _ _ _ _ _ _ (hat _ _ _ ‹_› h)
   · exact .junk _
 | mp id b cap es len h=>
   rw [V.ren]
   split
   · exact .mp _ _ _ _ _ (hat _ _ _ ‹_› h)
   · exact .junk _
 | pre id n b cap es len h=>
   rw [V.ren]
   split
   · exact .pre _ _ _ _ _ _ (hat _ _ _ ‹_› h)
   · exact .junk _
 | ipt cells off b o u hg hc hr=>exact .ipt cells off b o u (hG _ hg) (fun j t h=>by rw [hs.cell hg];exact hc j t h) fun j t h=>(hr j t h).mono hs hG
 | fn f cs vs hn hr ih=>
   rw [V.ren,renL_map]
   refine .fn f _ vs (by simpa using hn) fun i c u h1 h2=>?_
   rw [List.getElem?_map] at h1
   obtain ⟨c',hc',rfl⟩:=Option.map_eq_some_iff.1 h1
   exact ih i c' u hc' h2
 | ifc t v u h ih=>exact .ifc t _ u ih
 | junk v=>exact .junk v
theorem VReps.ren {cx cx':Cx} {w w':World} {ρ:Nat→Option Nat} {vs:List V} {us:Array Value} (h:VReps cx w vs us) (hs:Same cx.G w w') (hG:∀b,cx.G b→cx'.G b) (hat:∀id j B,ρ id=some j→cx.at_ id=some B→cx'.at_ j=some B):VReps cx' w' (renL ρ vs) us:=by
 rw [renL_map]
 refine ⟨by simpa using h.1,fun i c u h1 h2=>?_⟩
 rw [List.getElem?_map] at h1
 obtain ⟨c',hc',rfl⟩:=Option.map_eq_some_iff.1 h1
 exact (h.2 i c' u hc' h2).ren hs hG hat
theorem RowRep.renT {cx cx':Cx} {w w':World} {ρ:Nat→Option Nat} {id j:Nat} {r:Row} (h:RowRep cx w id r) (hj:cx'.at_ j=cx.at_ id) (hb:∀c cap es len,cx.at_ id=some (.at c cap es len)→w'.heap[c]?=w.heap[c]?) (hn:∀c cap es len,cx.at_ id=some (.at c cap es len)→¬ cx'.G c)
 (hs:Same cx.G w w') (hG:∀b,cx.G b→cx'.G b) (hat:∀id j B,ρ id=some j→cx.at_ id=some B→cx'.at_ j=some B):RowRep cx' w' j (r.ren ρ):=by
 cases h with
 | box ty cs c vs h1 h2 h3 h4=>exact .box ty _ c vs (by rw [hj,h1,renL_map,List.length_map]) (by rw [hb _ _ _ _ h1];exact h2) (hn _ _ _ _ h1) (h4.ren hs hG hat)
 | listN ty es z h1 hz=>exact .listN ty es z (hj.trans h1) hz
 | list ty es rows c cap vs h1 h2 h3 hcap hmax hsz hes hr=>
   refine .list ty es rows c cap vs (hj.trans h1) (by rw [hb _ _ _ _ h1];exact h2) (hn _ _ _ _ h1) hcap hmax hsz hes fun i k t ht=>?_
   obtain ⟨u,q1,q2⟩:=hr i k t ht
   exact ⟨u,q1,q2.mono hs hG⟩
 | iter s p c h1 h2 h3 h4=>exact .iter s p c (hj.trans h1) (by rw [hb _ _ _ _ h1];exact h2) (hn _ _ _ _ h1) h4
 | map k rows c es clock h1 h2 h3 h4=>exact .map k rows c es clock (hj.trans h1) (by rw [hb _ _ _ _ h1];exact h2) (hn _ _ _ _ h1) h4
 | hole ty rows r kid c cap vs h1 h2 h3 hcap hmax hsz hes hlt hr hk=>
   refine .hole ty rows r _ c cap vs (hj.trans h1) (by rw [hb _ _ _ _ h1];exact h2) (hn _ _ _ _ h1) hcap hmax hsz hes hlt (fun i t hi ht=>?_) fun k hk'=>?_
   · obtain ⟨u,q1,q2⟩:=hr i t hi ht
     exact ⟨u,q1,q2.mono hs hG⟩
   · cases kid with
     | none=>cases hk'
     | some k0=>
       obtain ⟨u,q1,q2⟩:=hk k0 rfl
       have q3:=q2.ren hs hG hat
       rw [V.ren,show ρ k0=some k from hk'] at q3
       exact ⟨u,q1,q3⟩
theorem RowRep.le {cx:Cx} {w:World} {id:Nat} {r r':Row} (h:RowRep cx w id r) (hl:RowLe r r'):RowRep cx w id r':=by
 rcases hl with rfl | ⟨ty,cs,cs',rfl,rfl,hl⟩
 · exact h
 · cases h with
   | box _ _ c vs h1 h2 h3 h4=>
     have h5:=hl _ _ _ h4
     exact .box ty cs' c vs (by rw [h1,←h4.1,h5.1]) h2 h3 h5
theorem HRep.le {cx:Cx} {w:World} {l l':List Row} (h:HRep cx (l.map some) w) (hl:RowsLe l l'):HRep cx (l'.map some) w:=by
 have get:∀(i:Nat) x,(l'.map some)[i]?=some (some x)→∃r,(l.map some)[i]?=some (some r)∧l'[i]?=some x∧l[i]?=some r:=fun i x hx=>by
  rw [List.getElem?_map] at hx
  obtain ⟨y,hy,e⟩:=Option.map_eq_some_iff.1 hx
  cases e
  have hi:i<l.length:=by rw [hl.1];exact (List.getElem?_eq_some_iff.1 hy).1
  exact ⟨l[i],by rw [List.getElem?_map,List.getElem?_eq_getElem hi];rfl,hy,List.getElem?_eq_getElem hi⟩
 refine ⟨fun i x hx=>?_,fun i i' x x' b cap es len cap' es' len' h1 h2 h3 h4=>?_,fun i hi=>h.dom i (by simpa [hl.1] using hi)⟩
 · obtain ⟨r,h1,h2,h3⟩:=get i x hx
   exact (h.row i r h1).le (hl.2 i r x h3 h2)
 · obtain ⟨r,q1,-,-⟩:=get i x h1
   obtain ⟨r',q2,-,-⟩:=get i' x' h2
   exact h.inj i i' r r' b cap es len cap' es' len' q1 q2 h3 h4
def tailBlk (cx:Cx) (heap:List (Option Row)) (n b:Nat):Prop:=∃(id:Nat) (ty es:Nat) (rows:Rows) (cap es' len:Nat),n≤id∧heap[id]?=some (some (.list ty es rows))∧cx.at_ id=some (.at b cap es' len)
def cxE (cx:Cx) (heap:List (Option Row)) (n:Nat):Cx:=⟨fun i=>match Nat.blt i n with | true=>cx.at_ i | false=>none,fun b=>cx.G b∨tailBlk cx heap n b⟩
theorem cxE_lt {cx:Cx} {heap:List (Option Row)} {n i:Nat} (h:i<n):(cxE cx heap n).at_ i=cx.at_ i:=by
 show (match Nat.blt i n with | true=>cx.at_ i | false=>none)=_
 rw [show Nat.blt i n=true from by simpa using h]
theorem cxE_ge {cx:Cx} {heap:List (Option Row)} {n i:Nat} (h:n≤i):(cxE cx heap n).at_ i=none:=by
 show (match Nat.blt i n with | true=>cx.at_ i | false=>none)=_
 rw [show Nat.blt i n=false from blt_false.2 h]
theorem frzPL_get {n:Nat} {hp:List (Option Row)}:∀{l m:List V},frzPL n hp l=some m→m.length=l.length∧∀(i:Nat) (c:V),m[i]?=some c→∃c0,l[i]?=some c0∧c0.frzP n hp=some c
 | [],m,h=>by simp only [frzPL,Option.some.injEq] at h;subst h;exact ⟨rfl,fun i c h=>by simp at h⟩
 | v ::r,m,h=>by
   simp only [frzPL] at h
   split at h
   · rename_i x l hx hl
     cases h
     obtain ⟨h1,h2⟩:=frzPL_get hl
     refine ⟨by simp [h1],fun i c hc=>?_⟩
     cases i with
     | zero=>simp at hc;subst hc;exact ⟨v,rfl,hx⟩
     | succ i=>exact h2 i c (by simpa using hc)
   · cases h
theorem frzP_rep {cx:Cx} {heap:List (Option Row)} {w:World} {n:Nat} (hH:HRep cx heap w) {v:V} {u:Value} (h:VRep cx w v u):∀{v'},v.frzP n heap=some v'→VRep (cxE cx heap n) w v' u:=by
 have hg:∀b,cx.G b→(cxE cx heap n).G b:=fun b h=>.inl h
 induction h with
 | t x v h=>intro v' e;cases e;exact .t x v (h.mono (Same.refl _ _) hg)
 | agg cs vs hn hcb hr ih=>
   intro v' e
   simp only [V.frzP] at e
   split at e
   · rename_i l hl
     split at e
     · rename_i hall
       cases e
       obtain ⟨h1,h2⟩:=frzPL_get hl
       refine .agg l vs (by rw [hn,h1]) (fun c hc=>List.all_eq_true.1 hall c hc) fun i c u q1 q2=>?_
       obtain ⟨c0,q3,q4⟩:=h2 i c q1
       exact ih i c0 u q3 q2 q4
     · cases e
   · cases e
 | tup cs vs hn hr ih=>
   intro v' e
   simp only [V.frzP] at e
   split at e
   · rename_i l hl
     cases e
     obtain ⟨h1,h2⟩:=frzPL_get hl
     refine .tup l vs (by rw [hn,h1]) fun i c u q1 q2=>?_
     obtain ⟨c0,q3,q4⟩:=h2 i c q1
     exact ih i c0 u q3 q2 q4
   · cases e
 | lstN id a0 z0 h hz0=>
   intro v' e
   simp only [V.frzP] at e
   split at e
   · rename_i hb
     cases e
     exact .lstN _ _ z0 ((cxE_lt (by simpa using hb)).trans h) hz0
   · split at e
     · rename_i ty es rows hrow
       cases e
       have hR:=hH.row id _ (getD_row hrow)
       cases hR with
       | listN=>exact .t _ _ (.slc [] a0 0 0 0 0 (fun _ _=>undef) (Nat.zero_le _) (fun _=>rfl) (fun h=>absurd rfl h) (fun row h=>by cases h) (fun i j t h=>by simp at h) (fun i j t h=>by simp at h))
       | list ty es rows b cap vs hat=>rw [hat] at h;cases h
     · cases e
 | lst id b cap es len h=>
   intro v' e
   simp only [V.frzP] at e
   split at e
   · rename_i hb
     cases e
     exact .lst _ _ _ _ _ ((cxE_lt (by simpa using hb)).trans h)
   · rename_i hb
     split at e
     · rename_i ty es' rows hrow
       cases e
       have hrow':=getD_row hrow
       have hR:=hH.row id _ hrow'
       cases hR with
       | listN ty es z1 hat hz1=>rw [hat] at h;cases h
       | list ty es rows b' cap' vs hat hbl hn hcap hmax hsz hes hr=>
         have hh:=h
         rw [hat] at h
         cases h
         refine .t _ _ (.slc rows (some ⟨b,0,none⟩) b 0 es cap (fun i j=>vs.getD (i*es+j) undef) hcap (fun h=>by cases h) (fun _=>⟨rfl,.inr ⟨id,_,_,_,_,_,_,blt_false.1 hb,hrow',hh⟩⟩) hes (fun i j t ht=>?_) (fun i j t ht=>?_))
         · obtain ⟨u,h1,h2⟩:=hr i j t ht
           rw [cell_of_block hbl,Nat.zero_add,h1]
           congr 1
           rw [Array.getD_eq_getD_getElem?,h1]
           rfl
         · obtain ⟨u,h1,h2⟩:=hr i j t ht
           have:vs.getD (i*es+j) undef=u:=by rw [Array.getD_eq_getD_getElem?,h1];rfl
           rw [this]
           exact h2.mono (Same.refl _ _) hg
     · cases e
 | ptr id off b cap es len h=>
   intro v' e
   simp only [V.frzP] at e
   split at e
   · rename_i hb
     cases e
     exact .ptr _ _ _ _ _ _ ((cxE_lt (by simpa using hb)).trans h)
   · cases e
 | mp id b cap es len h=>
   intro v' e
   simp only [V.frzP] at e
   split at e
   · rename_i hb
     cases e
     exact .mp _ _ _ _ _ ((cxE_lt (by simpa using hb)).trans h)
   · cases e
 | elt=>intro v' e;cases e
 | win=>intro v' e;cases e
 | pre=>intro v' e;cases e
 | ipt cells off b o u hb hc hr=>intro v' e;cases e;exact .ipt cells off b o u (.inl hb) hc fun j t h=>(hr j t h).mono (Same.refl _ _) hg
 | fn f cs vs hn hr ih=>
   intro v' e
   simp only [V.frzP] at e
   split at e
   · rename_i l hl
     cases e
     obtain ⟨h1,h2⟩:=frzPL_get hl
     refine .fn f l vs (by rw [hn,h1]) fun i c u q1 q2=>?_
     obtain ⟨c0,q3,q4⟩:=h2 i c q1
     exact ih i c0 u q3 q2 q4
   · cases e
 | ifc t v u h ih=>
   intro v' e
   simp only [V.frzP] at e
   split at e
   · rename_i x hx
     cases e
     exact .ifc t x u (ih hx)
   · cases e
 | junk=>intro v' e;cases e;exact .junk _
theorem frzPL_reps {cx:Cx} {heap:List (Option Row)} {w:World} {n:Nat} (hH:HRep cx heap w) {cs cs':List V} {vs:Array Value} (h:VReps cx w cs vs) (e:frzPL n heap cs=some cs'):VReps (cxE cx heap n) w cs' vs:=by
 obtain ⟨h1,h2⟩:=frzPL_get e
 refine ⟨by rw [h.1,h1],fun i c u q1 q2=>?_⟩
 obtain ⟨c0,q3,q4⟩:=h2 i c q1
 exact frzP_rep hH (h.2 i c0 u q3 q2) q4
theorem rowsQ_get {n:Nat} {hp:List (Option Row)}:∀{l:List (Option Row)} {m:List Row},rowsQ n hp l=some m→m.length=l.length∧∀(i:Nat) x,m[i]?=some x→∃r,l[i]?=some (some r)∧((r=x∧(∀ty cs,r≠.box ty cs)∧∀ty rows q kid,r≠.hole ty rows q kid)∨∃ty cs cs',r=.box ty cs∧x=.box ty cs'∧frzPL n hp cs=some cs')
 | [],m,h=>by simp only [rowsQ,Option.some.injEq] at h;subst h;exact ⟨rfl,fun i c h=>by simp at h⟩
 | none::r,m,h=>by simp [rowsQ] at h
 | some (.box ty cs)::r,m,h=>by
   simp only [rowsQ] at h
   split at h
   · rename_i cs' l hx hl
     cases h
     obtain ⟨h1,h2⟩:=rowsQ_get hl
     refine ⟨by simp [h1],fun i c hc=>?_⟩
     cases i with
     | zero=>simp at hc;subst hc;exact ⟨_,rfl,.inr ⟨ty,cs,cs',rfl,rfl,hx⟩⟩
     | succ i=>exact h2 i c (by simpa using hc)
   · cases h
 | some (.list ty es rows)::r,m,h=>by
   simp only [rowsQ] at h
   split at h
   · rename_i l hl
     cases h
     obtain ⟨h1,h2⟩:=rowsQ_get hl
     refine ⟨by simp [h1],fun i c hc=>?_⟩
     cases i with
     | zero=>simp at hc;subst hc;exact ⟨_,rfl,.inl ⟨rfl,(fun _ _ e=>by cases e),(fun _ _ _ _ e=>by cases e)⟩⟩
     | succ i=>exact h2 i c (by simpa using hc)
   · cases h
 | some (.hole ty rows q kid)::r,m,h=>by simp [rowsQ] at h
 | some (.map c es)::r,m,h=>by
   simp only [rowsQ] at h
   split at h
   · rename_i l hl
     cases h
     obtain ⟨h1,h2⟩:=rowsQ_get hl
     refine ⟨by simp [h1],fun i c hc=>?_⟩
     cases i with
     | zero=>simp at hc;subst hc;exact ⟨_,rfl,.inl ⟨rfl,(fun _ _ e=>by cases e),(fun _ _ _ _ e=>by cases e)⟩⟩
     | succ i=>exact h2 i c (by simpa using hc)
   · cases h
 | some (.iter s p)::r,m,h=>by
   simp only [rowsQ] at h
   split at h
   · rename_i l hl
     cases h
     obtain ⟨h1,h2⟩:=rowsQ_get hl
     refine ⟨by simp [h1],fun i c hc=>?_⟩
     cases i with
     | zero=>simp at hc;subst hc;exact ⟨_,rfl,.inl ⟨rfl,(fun _ _ e=>by cases e),(fun _ _ _ _ e=>by cases e)⟩⟩
     | succ i=>exact h2 i c (by simpa using hc)
   · cases h
theorem rows_rep {cx:Cx} {heap:List (Option Row)} {w:World} {n:Nat} {m:List Row} (hH:HRep cx heap w) (hn:n≤heap.length) (e:rowsQ n heap (heap.take n)=some m):HRep (cxE cx heap n) (m.map some) w:=by
 obtain ⟨h1,h2⟩:=rowsQ_get e
 have hlen:m.length=n:=by rw [h1,List.length_take];omega
 have get:∀(i:Nat) x,(m.map some)[i]?=some (some x)→i<n∧∃r,heap[i]?=some (some r)∧((r=x∧(∀ty cs,r≠.box ty cs)∧∀ty rows q kid,r≠.hole ty rows q kid)∨∃ty cs cs',r=.box ty cs∧x=.box ty cs'∧frzPL n heap cs=some cs'):=fun i x hx=>by
  rw [List.getElem?_map] at hx
  obtain ⟨y,hy,e⟩:=Option.map_eq_some_iff.1 hx
  cases e
  have hi:i<n:=by rw [←hlen];exact (List.getElem?_eq_some_iff.1 hy).1
  obtain ⟨r,q1,q2⟩:=h2 i _ hy
  rw [List.getElem?_take_of_lt hi] at q1
  exact ⟨hi,r,q1,q2⟩
 have noG:∀(i:Nat) r c cap es len,i<n→heap[i]?=some (some r)→cx.at_ i=some (.at c cap es len)→¬(cxE cx heap n).G c:=fun i r c cap es len hi hr hc hG=>by
  rcases hG with hG | ⟨id,ty,es',rows,cap',es2,len',q1,q2,q3⟩
  · exact (hH.live_lt hr hc).2 hG
  · have:=hH.inj _ _ _ _ _ _ _ _ _ _ _ hr q2 hc q3
    omega
 refine ⟨fun i x hx=>?_,fun i i' x x' b cap es len cap' es' len' g1 g2 g3 g4=>?_,fun i hi=>cxE_ge (by simpa [hlen] using hi)⟩
 · obtain ⟨hi,r,q1,q2⟩:=get i x hx
   have hR:=hH.row i r q1
   have ha:(cxE cx heap n).at_ i=cx.at_ i:=cxE_lt hi
   rcases q2 with ⟨rfl,hnb,hnh⟩ | ⟨ty,cs,cs',rfl,rfl,hf⟩
   · cases hR with
     | box ty cs=>exact absurd rfl (hnb ty cs)
     | listN ty es z h hz=>exact .listN ty es z (ha.trans h) hz
     | list ty es rows c cap vs k1 k2 k3 hcap hmax hsz hes hr=>
       refine .list ty es rows c cap vs (ha.trans k1) k2 (noG i _ _ _ _ _ hi q1 k1) hcap hmax hsz hes fun a k t ht=>?_
       obtain ⟨u,z1,z2⟩:=hr a k t ht
       exact ⟨u,z1,z2.mono (Same.refl _ _) fun _ h=>.inl h⟩
     | iter s p c k1 k2 k3 k4=>exact .iter s p c (ha.trans k1) k2 (noG i _ _ _ _ _ hi q1 k1) k4
     | map k rows c es clock k1 k2 k3 k4=>exact .map k rows c es clock (ha.trans k1) k2 (noG i _ _ _ _ _ hi q1 k1) k4
     | hole=>exact absurd rfl (hnh _ _ _ _)
   · cases hR with
     | box ty cs c vs k1 k2 k3 k4=>
       have k5:=frzPL_reps hH k4 hf
       exact .box ty cs' c vs (by rw [ha,k1,←k4.1,k5.1]) k2 (noG i _ _ _ _ _ hi q1 k1) k5
 · obtain ⟨hi,r,q1,-⟩:=get i x g1
   obtain ⟨hi',r',q2,-⟩:=get i' x' g2
   rw [cxE_lt hi] at g3
   rw [cxE_lt hi'] at g4
   exact hH.inj _ _ _ _ _ _ _ _ _ _ _ q1 q2 g3 g4
section
variable {P:Program} {A:Run} {L:TypeId→Option Lt}
theorem HFun_of (hL:LayOk P L) {f:FuncId} {fn:Func} {c:Code} {args:List V} {v:V} {H H':List Row} (hcall:Callable P f) (hf:P.funcs[f]?=some fn) (hb:fn.body=some c)
 (h:∀(A:Run) (Q:Ex→St→Prop),(∀id,(∀ty cs,H[id]?≠some (.box ty cs))→A.pin id=none)→(∀s r v' H2,resV L fn.results.toList s=some r→r.frzP H.length s.heap=some v'→rowsQ H.length s.heap (s.heap.take H.length)=some H2→VLe v' v→RowsLe H2 H'→Q .ret s∧Q .normal s)→
  AW P A c ⟨args++List.replicate (fn.ntmps-args.length) .junk,H.map some,H.length⟩ Q):HFun P f args H v H':=by
 refine ⟨hcall,fun cx w cargs hG hT hH hargs=>?_⟩
 let pin:Nat→Option Blk:=fun id=>match H[id]? with
  | some (.box _ _)=>cx.at_ id
  | _=>none
 have pin1:∀id B,pin id=some B→cx.at_ id=some B∧id<H.length:=fun id B hB=>by
  have hB':(match H[id]? with
   | some (.box _ _)=>cx.at_ id
   | _=>none)=some B:=hB
  split at hB'
  · rename_i hx;exact ⟨hB',(List.getElem?_eq_some_iff.1 hx).1⟩
  · cases hB'
 have pin2:∀id ty cs,H[id]?=some (.box ty cs)→pin id=cx.at_ id:=fun id ty cs hx=>by
  show (match H[id]? with
   | some (.box _ _)=>cx.at_ id
   | _=>none)=_
  rw [hx]
 have pin3:∀id,(∀ty cs,H[id]?≠some (.box ty cs))→pin id=none:=fun id hno=>by
  show (match H[id]? with
   | some (.box _ _)=>cx.at_ id
   | _=>none)=_
  split
  · rename_i hx;exact absurd hx (hno _ _)
  · rfl
 let A:Run:=⟨w,hblk cx H.length,cx.G,pin,H.length,fun _ _=>False,[]⟩
 have hlt:∀(id:Nat) r,(H.map some)[id]?=some r→id<H.length:=fun id r hr=>by
  have:=(List.getElem?_eq_some_iff.1 hr).1
  simpa using this
 have R0:Rel A cx ⟨args++List.replicate (fn.ntmps-args.length) .junk,H.map some,H.length⟩ {tmps:=cargs++Array.replicate (fn.ntmps-cargs.size) undef,defers:=[]} w:=
  ⟨args_tmps hargs _,rfl,hH,⟨rfl,rfl,rfl,Nat.le_refl _,fun _ _ _=>rfl,fun id r b cap es len h1 h2=>.inl ⟨id,cap,es,len,hlt id _ h1,h2⟩,fun b h=>h,hG,fun b h=>.inl h,pin1,by rw [List.length_map];exact Nat.le_refl _,hT⟩,rfl⟩
 refine (body_calls hL (K:=fun r s=>∃v' H2,r.frzP H.length s.heap=some v'∧rowsQ H.length s.heap (s.heap.take H.length)=some H2∧VLe v' v∧RowsLe H2 H') hf hb R0 fun Q hQ=>h A Q pin3 fun s r v' H2 h1 h2 h3 h4 h5=>hQ s r h1 ⟨v',H2,h2,h3,h4,h5⟩).mono fun e w' h=>?_
 rcases h with ⟨u,r,s,cx',a',rfl,⟨v',H2,h2,h3,h4,h5⟩,hrep,R⟩ | ⟨ch,a',rfl,v',u,s,cx',hch,hcl,hpan,hrep,R⟩
 case inr=>exact hpan.elim
 have hnl:H.length≤s.heap.length:=R.kp.base
 have hl2:H2.length=H.length:=by rw [(rowsQ_get h3).1,List.length_take];omega
 refine ⟨u,cxE cx' s.heap H.length,rfl,?_,h4 _ _ _ (frzP_rep R.hp hrep h2)⟩
 refine ⟨R.kp.os,R.kp.tape,R.kp.output,R.kp.size,by rw [←h5.1,hl2],R.kp.block,fun b hb=>.inl (R.kp.G0 b hb),fun b hb=>?_,fun b hb=>?_,(rows_rep R.hp hnl h3).le h5,fun i b cap es len hat=>?_,fun i ty cs hi=>?_⟩
 · rcases hb with hb | ⟨id,ty,es,rows,cap,es',len,q1,q2,q3⟩
   · exact R.kp.G1 b hb
   · exact (R.hp.live_lt q2 q3).1
 · rcases hb with hb | ⟨id,ty,es,rows,cap,es',len,q1,q2,q3⟩
   · exact R.kp.G2 b hb
   · exact .inr (R.kp.live _ _ _ _ _ _ q2 q3)
 · have hi:i<H.length:=by
    rcases Nat.lt_or_ge i H.length with h | h
    · exact h
    · rw [cxE_ge h] at hat;cases hat
   rw [cxE_lt hi] at hat
   obtain ⟨x,hx⟩:∃x,H2[i]?=some x:=⟨_,List.getElem?_eq_getElem (by omega)⟩
   obtain ⟨r',q1,-⟩:=(rowsQ_get h3).2 i x hx
   rw [List.getElem?_take_of_lt hi] at q1
   exact R.kp.live _ _ _ _ _ _ q1 hat
 · have hlt:=(List.getElem?_eq_some_iff.1 hi).1
   rw [cxE_lt hlt]
   have hp:=pin2 i ty cs hi
   have hR:=hH.row i (.box ty cs) (by rw [List.getElem?_map,hi];rfl)
   cases hR with
   | box _ _ b vs hat=>rw [hat];exact (R.kp.pin i _ (hp.trans hat)).1
def pos:List Nat→Nat→Option Nat
 | [],_=>none
 | x ::r,id=>match Nat.beq x id with
   | true=>some 0
   | false=>match pos r id with
     | some i=>some (i+1)
     | none=>none
def back (σ:List Nat) (i:Nat):Option Nat:=σ[i]?
def isBoxB:Row→Bool
 | .box _ _=>true
 | _=>false
def keepN (σ:List Nat) (B:List Bool) (id:Nat):Option Nat:=match pos σ id with
 | none=>some id
 | some i=>match B[i]? with
   | some true=>some id
   | _=>none
def heapH (σ:List Nat) (B:List Bool) (H':List Row):Nat→List (Option Row)→List (Option Row)
 | _,[]=>[]
 | k,r::l=>(match pos σ k with
   | some i=>(match H'[i]? with
     | some x=>some (x.ren (back σ))
     | none=>none)
   | none=>match r with
     | some x=>some (x.ren (keepN σ B))
     | none=>none)::heapH σ B H' (k+1) l
def hrows (σ:List Nat) (hp:List (Option Row)):List Nat→Option (List Row)
 | []=>some []
 | id::l=>match hp.getD id none,hrows σ hp l with
   | some r,some m=>some (r.ren (pos σ)::m)
   | _,_=>none
def nodupB:List Nat→Bool
 | []=>true
 | x::r=>(match pos r x with | some _=>false | none=>true)&&nodupB r
theorem pos_some:∀{σ:List Nat} {id i:Nat},pos σ id=some i→σ[i]?=some id
 | [],id,i,h=>by cases h
 | x ::r,id,i,h=>by
   simp only [pos] at h
   split at h
   · rename_i hb;cases h;simp at hb;simp [hb]
   · split at h
     · rename_i j hj;cases h;simpa using pos_some hj
     · cases h
theorem pos_of:∀{σ:List Nat} {i id:Nat},nodupB σ=true→σ[i]?=some id→pos σ id=some i
 | [],i,id,_,h=>by simp at h
 | x::r,0,id,_,h=>by simp at h;subst h;simp [pos]
 | x::r,i+1,id,hn,h=>by
   simp only [nodupB,Bool.and_eq_true] at hn
   have h':r[i]?=some id:=by simpa using h
   have ih:=pos_of hn.2 h'
   have hne:Nat.beq x id=false:=by
    cases hb:Nat.beq x id with
    | false=>rfl
    | true=>simp at hb;subst hb;rw [ih] at hn;simp at hn
   simp only [pos,hne,ih]
theorem hrows_get {σ:List Nat} {hp:List (Option Row)}:∀{l:List Nat} {m:List Row},hrows σ hp l=some m→m.length=l.length∧∀(i:Nat) x,m[i]?=some x→∃id r,l[i]?=some id∧hp[id]?=some (some r)∧x=r.ren (pos σ)
 | [],m,h=>by simp only [hrows,Option.some.injEq] at h;subst h;exact ⟨rfl,fun i c h=>by simp at h⟩
 | id::l,m,h=>by
   simp only [hrows] at h
   split at h
   · rename_i r m' hr hm
     cases h
     obtain ⟨h1,h2⟩:=hrows_get hm
     refine ⟨by simp [h1],fun i x hx=>?_⟩
     cases i with
     | zero=>simp at hx;subst hx;exact ⟨id,r,rfl,getD_row hr,rfl⟩
     | succ i=>obtain ⟨id',r',q1,q2,q3⟩:=h2 i x (by simpa using hx);exact ⟨id',r',by simpa using q1,q2,q3⟩
   · cases h
theorem heapH_get {σ:List Nat} {B:List Bool} {H':List Row}:∀(l:List (Option Row)) (k i:Nat),(heapH σ B H' k l)[i]?=(l[i]?).map fun r=>(match pos σ (k+i) with
 | some i=>(match H'[i]? with
   | some x=>some (x.ren (back σ))
   | none=>none)
 | none=>(match r with
   | some x=>some (x.ren (keepN σ B))
   | none=>none))
 | [],k,i=>by simp [heapH]
 | r::l,k,0=>by simp [heapH]
 | r::l,k,i+1=>by
   simp only [heapH,List.getElem?_cons_succ]
   rw [heapH_get l (k+1) i,show k+1+i=k+(i+1) by omega]
theorem heapH_len {σ:List Nat} {B:List Bool} {H':List Row}:∀(l:List (Option Row)) (k:Nat),(heapH σ B H' k l).length=l.length
 | [],k=>rfl
 | r::l,k=>by simp [heapH,heapH_len l (k+1)]
theorem call_H {f:FuncId} {args args':List V} {s:St} {v:V} {H H0 H':List Row} {Z:List Bool} {K:V→St→Prop} (σ:List Nat) (hB:H.map isBoxB=Z) (hF:HFun P f args' H v H') (hσ:σ.length=H.length) (hd:nodupB σ=true) (hrow:hrows σ s.heap σ=some H0) (hle0:RowsLe H0 H) (harg:VLes (renL (pos σ) args) args')
 (hfree:∀(i id:Nat),σ[i]?=some id→(∀ty cs,H[i]?≠some (.box ty cs))→A.pin id=none)
 (hK:K (v.ren (back σ)) ⟨renL (keepN σ Z) s.tmps,heapH σ Z H' 0 s.heap,s.base⟩):CallA P A f args s K:=by
 refine ⟨hF.1,fun cx a w cargs R hargs=>?_⟩
 let cx0:Cx:=⟨fun i=>match σ[i]? with
  | some id=>cx.at_ id
  | none=>none,cx.G⟩
 have a0:∀i id,σ[i]?=some id→cx0.at_ i=cx.at_ id:=fun i id h=>by
  show (match σ[i]? with
   | some id=>cx.at_ id
   | none=>none)=_
  rw [h]
 have a0n:∀i,σ[i]?=none→cx0.at_ i=none:=fun i h=>by
  show (match σ[i]? with
   | some id=>cx.at_ id
   | none=>none)=_
  rw [h]
 have row:∀(i:Nat) id,σ[i]?=some id→∃r,s.heap[id]?=some (some r)∧H0[i]?=some (r.ren (pos σ)):=fun i id h=>by
  have hi:i<H0.length:=by rw [(hrows_get hrow).1];exact (List.getElem?_eq_some_iff.1 h).1
  obtain ⟨id',r,q1,q2,q3⟩:=(hrows_get hrow).2 i H0[i] (List.getElem?_eq_getElem hi)
  rw [h] at q1;cases q1
  exact ⟨r,q2,by rw [List.getElem?_eq_getElem hi,q3]⟩
 have hl0:H0.length=σ.length:=(hrows_get hrow).1
 have hposat:∀id j B,pos σ id=some j→cx.at_ id=some B→cx0.at_ j=some B:=fun id j B h1 h2=>(a0 j id (pos_some h1)).trans h2
 have hH0:HRep cx0 (H0.map some) w:=by
  have get:∀(i:Nat) x,(H0.map some)[i]?=some (some x)→∃id r,σ[i]?=some id∧s.heap[id]?=some (some r)∧x=r.ren (pos σ):=fun i x hx=>by
   rw [List.getElem?_map] at hx
   obtain ⟨y,hy,e⟩:=Option.map_eq_some_iff.1 hx
   cases e
   exact (hrows_get hrow).2 i _ hy
  refine ⟨fun i x hx=>?_,fun i i' x x' b cap es len cap' es' len' h1 h2 h3 h4=>?_,fun i hi=>a0n i (List.getElem?_eq_none (by simpa [hl0] using hi))⟩
  · obtain ⟨id,r,q1,q2,rfl⟩:=get i x hx
    exact (R.hp.row id r q2).renT (a0 i id q1) (fun _ _ _ _ _=>rfl) (fun c cap es len h=>(R.hp.live_lt q2 h).2) (Same.refl _ _) (fun _ h=>h) hposat
  · obtain ⟨id,r,q1,q2,-⟩:=get i x h1
    obtain ⟨id',r',q3,q4,-⟩:=get i' x' h2
    rw [a0 _ _ q1] at h3
    rw [a0 _ _ q3] at h4
    have:=R.hp.inj _ _ _ _ _ _ _ _ _ _ _ q2 q4 h3 h4
    subst this
    exact Option.some.inj ((pos_of hd q1).symm.trans (pos_of hd q3))
 have hH:HRep cx0 (H.map some) w:=hH0.le hle0
 have hargs0:VReps cx0 w args' cargs:=harg _ _ _ (hargs.ren (Same.refl _ _) (fun _ h=>h) hposat)
 -- a block of the rows that are given
 have hb1:∀b,hblk cx0 H.length b→∃i id r cap es len,σ[i]?=some id∧s.heap[id]?=some (some r)∧cx.at_ id=some (.at b cap es len):=fun b ⟨i,cap,es,len,hi,hat⟩=>by
  obtain ⟨id,hid⟩:∃id,σ[i]?=some id:=⟨_,List.getElem?_eq_getElem (by omega)⟩
  obtain ⟨r,q1,-⟩:=row i id hid
  rw [a0 _ _ hid] at hat
  exact ⟨i,id,r,cap,es,len,hid,q1,hat⟩
 refine (hF.2 cx0 w cargs R.kp.G1 R.kp.tab hH hargs0).mono ?_
 rintro e w' ⟨u,cx1,rfl,E,hv⟩
 let cx2:Cx:=⟨fun id=>match pos σ id with
  | some i=>cx1.at_ i
  | none=>cx.at_ id,cx1.G⟩
 have b1:∀id i,pos σ id=some i→cx2.at_ id=cx1.at_ i:=fun id i h=>by
  show (match pos σ id with
   | some i=>cx1.at_ i
   | none=>cx.at_ id)=_
  rw [h]
 have b2:∀id,pos σ id=none→cx2.at_ id=cx.at_ id:=fun id h=>by
  show (match pos σ id with
   | some i=>cx1.at_ i
   | none=>cx.at_ id)=_
  rw [h]
 have hs:Same cx.G w w':=fun b hb=>E.block b (R.kp.G1 b hb) fun h=>by
  obtain ⟨i,id,r,cap,es,len,-,q2,q3⟩:=hb1 b h
  exact (R.hp.live_lt q2 q3).2 hb
 have hkeep:∀id j B,keepN σ Z id=some j→cx.at_ id=some B→cx2.at_ j=some B:=fun id j B h1 h2=>by
  unfold keepN at h1
  split at h1
  · rename_i hp
    cases h1
    exact (b2 _ hp).trans h2
  · rename_i i hp
    split at h1
    · rename_i hi
      cases h1
      obtain ⟨ty,cs,hi⟩:∃ty cs,H[i]?=some (.box ty cs):=by
       rw [←hB,List.getElem?_map] at hi
       obtain ⟨y,hy,e⟩:=Option.map_eq_some_iff.1 hi
       cases y with
       | box ty cs=>exact ⟨ty,cs,hy⟩
       | list=>cases e
       | iter=>cases e
       | map=>cases e
       | hole=>cases e
      exact (b1 _ _ hp).trans ((E.box i ty cs hi).trans ((a0 _ _ (pos_some hp)).trans h2))
    · cases h1
 have hback:∀i j B,back σ i=some j→cx1.at_ i=some B→cx2.at_ j=some B:=fun i j B h1 h2=>(b1 j i (pos_of hd h1)).trans h2
 have hget:∀(id:Nat) x,(heapH σ Z H' 0 s.heap)[id]?=some (some x)→(∃i y,pos σ id=some i∧H'[i]?=some y∧x=y.ren (back σ))∨(pos σ id=none∧∃r,s.heap[id]?=some (some r)∧x=r.ren (keepN σ Z)):=fun id x hx=>by
  rw [heapH_get,Nat.zero_add] at hx
  obtain ⟨r,hr,hx⟩:=Option.map_eq_some_iff.1 hx
  split at hx
  · rename_i i hp
    split at hx
    · rename_i y hy;cases hx;exact .inl ⟨i,y,hp,hy,rfl⟩
    · cases hx
  · rename_i hp
    split at hx
    · rename_i y;cases hx;exact .inr ⟨hp,y,hr,rfl⟩
    · cases hx
 have hrow1:∀(i:Nat) y,H'[i]?=some y→(H'.map some)[i]?=some (some y):=fun i y h=>by rw [List.getElem?_map,h];rfl
 -- the blocks of the other rows
 have hoth:∀id r c cap es len,pos σ id=none→s.heap[id]?=some (some r)→cx.at_ id=some (.at c cap es len)→c<w.heap.size∧¬ hblk cx0 H.length c:=fun id r c cap es len hp hr hat=>by
  refine ⟨(R.hp.live_lt hr hat).1,fun h=>?_⟩
  obtain ⟨i,id',r',cap',es',len',q1,q2,q3⟩:=hb1 c h
  have:=R.hp.inj _ _ _ _ _ _ _ _ _ _ _ hr q2 hat q3
  subst this
  rw [pos_of hd q1] at hp
  cases hp
 have R2:Rel A cx2 ⟨renL (keepN σ Z) s.tmps,heapH σ Z H' 0 s.heap,s.base⟩ a w':=by
  refine ⟨R.tm.ren hs E.G0 hkeep,R.df,⟨fun id x hx=>?_,fun id id' x x' b cap es len cap' es' len' h1 h2 h3 h4=>?_,fun id hid=>?_⟩,⟨?_,?_,?_,?_,fun b hb hM=>?_,fun id x b cap es len hx hat=>?_,fun b hb=>E.G0 b (R.kp.G0 b hb),E.G1,fun b hb=>?_,fun id B hB=>?_,?_,R.kp.tab.mono hs E.G0⟩,R.bs⟩
  · rcases hget id x hx with ⟨i,y,hp,hy,rfl⟩ | ⟨hp,r,hr,rfl⟩
    · exact (E.rep.row i y (hrow1 i y hy)).renT (b1 _ _ hp) (fun _ _ _ _ _=>rfl) (fun c cap es len h=>(E.rep.live_lt (hrow1 i y hy) h).2) (Same.refl _ _) (fun _ h=>h) hback
    · refine (R.hp.row id r hr).renT (b2 _ hp) (fun c cap es len h=>?_) (fun c cap es len h hG=>?_) hs E.G0 hkeep
      · obtain ⟨q1,q2⟩:=hoth _ _ _ _ _ _ hp hr h
        exact E.block c q1 q2
      · obtain ⟨q1,q2⟩:=hoth _ _ _ _ _ _ hp hr h
        rcases E.G2 c hG with g | g | g
        · exact (R.hp.live_lt hr h).2 g
        · exact q2 g
        · omega
  · rcases hget id x h1 with ⟨i,y,hp,hy,rfl⟩ | ⟨hp,r,hr,rfl⟩<;>rcases hget id' x' h2 with ⟨i',y',hp',hy',rfl⟩ | ⟨hp',r',hr',rfl⟩
    · rw [b1 _ _ hp] at h3
      rw [b1 _ _ hp'] at h4
      have:=E.rep.inj _ _ _ _ _ _ _ _ _ _ _ (hrow1 _ _ hy) (hrow1 _ _ hy') h3 h4
      subst this
      exact Option.some.inj ((pos_some hp).symm.trans (pos_some hp'))
    · rw [b1 _ _ hp] at h3
      rw [b2 _ hp'] at h4
      obtain ⟨q1,q2⟩:=hoth _ _ _ _ _ _ hp' hr' h4
      rcases E.at_ _ _ _ _ _ h3 with g | g
      · exact absurd g q2
      · omega
    · rw [b2 _ hp] at h3
      rw [b1 _ _ hp'] at h4
      obtain ⟨q1,q2⟩:=hoth _ _ _ _ _ _ hp hr h3
      rcases E.at_ _ _ _ _ _ h4 with g | g
      · exact absurd g q2
      · omega
    · rw [b2 _ hp] at h3
      rw [b2 _ hp'] at h4
      exact R.hp.inj _ _ _ _ _ _ _ _ _ _ _ hr hr' h3 h4
  · have hid':s.heap.length≤id:=by simpa [heapH_len] using hid
    have hp:pos σ id=none:=by
     cases hp:pos σ id with
     | none=>rfl
     | some i=>
       obtain ⟨r,q1,-⟩:=row i id (pos_some hp)
       have:=(List.getElem?_eq_some_iff.1 q1).1
       omega
    rw [b2 _ hp]
    exact R.hp.dom id hid'
  · rw [E.os];exact R.kp.os
  · rw [E.tape];exact R.kp.tape
  · rw [E.output];exact R.kp.output
  · exact Nat.le_trans R.kp.size E.size
  · rw [E.block b (Nat.lt_of_lt_of_le hb R.kp.size) fun h=>?_]
    · exact R.kp.block b hb hM
    · obtain ⟨i,id,r,cap,es,len,-,q2,q3⟩:=hb1 b h
      rcases R.kp.live _ _ _ _ _ _ q2 q3 with g | g
      · exact hM g
      · omega
  · rcases hget id x hx with ⟨i,y,hp,hy,rfl⟩ | ⟨hp,r,hr,rfl⟩
    · rw [b1 _ _ hp] at hat
      rcases E.at_ _ _ _ _ _ hat with g | g
      · obtain ⟨i',id',r',cap',es',len',-,q2,q3⟩:=hb1 b g
        exact R.kp.live _ _ _ _ _ _ q2 q3
      · exact .inr (Nat.le_trans R.kp.size g)
    · rw [b2 _ hp] at hat
      exact R.kp.live _ _ _ _ _ _ hr hat
  · rcases E.G2 b hb with g | g | g
    · exact R.kp.G2 b g
    · obtain ⟨i',id',r',cap',es',len',-,q2,q3⟩:=hb1 b g
      exact .inr (R.kp.live _ _ _ _ _ _ q2 q3)
    · exact .inr (.inr (Nat.le_trans R.kp.size g))
  · obtain ⟨q1,q2⟩:=R.kp.pin id B hB
    refine ⟨?_,q2⟩
    cases hp:pos σ id with
    | none=>rw [b2 _ hp];exact q1
    | some i=>
      rw [b1 _ _ hp]
      by_cases hx:∃ty cs,H[i]?=some (.box ty cs)
      · obtain ⟨ty,cs,hx⟩:=hx
        rw [E.box i ty cs hx,a0 _ _ (pos_some hp)];exact q1
      · rw [hfree i id (pos_some hp) fun ty cs h=>hx ⟨ty,cs,h⟩] at hB
        cases hB
  · rw [heapH_len];exact R.kp.base
 exact .inl ⟨u,_,_,cx2,rfl,hK,hv.ren (Same.refl _ _) (fun _ h=>h) hback,R2⟩
end
end Ab
end Go.Proofs.YtbpihhelojjedaaDoor
