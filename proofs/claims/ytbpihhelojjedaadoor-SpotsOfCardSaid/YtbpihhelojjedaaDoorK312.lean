/- Texts that the proof leans on. -/
import Derived.Test.YtbpihhelojjedaaDoorK311
import Derived.LoopN
set_option linter.unusedVariables false
set_option linter.unusedSimpArgs false
set_option maxRecDepth 100000
set_option maxHeartbeats 4000000
namespace Go.Proofs.YtbpihhelojjedaaDoor
open Go Go.RowKit
namespace Ab
section
variable {P:Program} {A:Run} {L:TypeId→Option Lt} {all:List Oper} {base n:Nat}
def RelD (A:Run) (all:List Oper) (base:Nat) (l:Array Bool) (cx:Cx) (s:St) (a:Act) (w:World):Prop:=
 Rel A cx s a w∧base+all.length≤s.heap.length∧∀i,i<all.length→l.getD i true=false→cx.at_ (base+i)=none
theorem lay_eq {s:St} {d:Option Tmp} {v:V} {aid:Nat} (row:Option Row):s.add d v aid row=⟨(s.put d v).tmps,match row with | some r=>s.heap.set aid (some r) | none=>s.heap,s.base⟩:=by
 unfold St.add
 cases row<;>cases d<;>rfl
theorem AnyD.any (hL:LayOk P L) {md:Region.Mode} {Lq:Array Bool→St→Prop} {Q:Exit→Act→World→Prop} {g:Nat}
 (hend:∀l s cx a w,Lq l s→RelD A all base l cx s a w→wpAny P md all.toArray Q g l a w):
 ∀(f:Nat) (l:Array Bool) (s:St) cx a w,l.size=all.length→RelD A all base l cx s a w→AnyD (dom P A) L md all base n Lq f l s→wpAny P md all.toArray Q (f+g) l a w:=by
 intro f
 induction f with
 | zero=>intro l s cx a w _ R h;rw [Nat.zero_add];exact hend l s cx a w h R
 | succ f ih =>
   intro l s cx a w hsz R h
   rw [show f+1+g=(f+g)+1 by omega]
   refine ⟨fun e=>absurd e h.1,fun i hi=>?_⟩
   have hop:=(h.2 i hi).2
   obtain ⟨hun,oi,hoi,-⟩:=mem_ready.1 hi
   rw [List.getElem?_toArray] at hoi
   have hil:i<all.length:=(List.getElem?_eq_some_iff.1 hoi).1
   have hdi:dstOf all i=oi.dst:=by unfold dstOf gslot;rw [hoi]
   unfold opV at hop
   rw [hoi] at hop
   simp only at hop
   have h0:=R.2.2 i hil hun
   unfold wpOp
   rw [List.getElem?_toArray,hoi]
   simp only
   have other:∀j,j<all.length→(l.setIfInBounds i true).getD j true=false→j≠i∧l.getD j true=false:=fun j hj hl=>by
    by_cases e:i=j
    · subst e
      have hlt:i<l.size:=by omega
      have h1:(l.setIfInBounds i true)[i]?=some true:=Array.getElem?_setIfInBounds_self_of_lt hlt
      rw [Array.getD_eq_getD_getElem?,h1] at hl
      cases hl
    · rw [getD_set_ne true e] at hl;exact ⟨Ne.symm e,hl⟩
   rcases guarded_wp R.1.tm hop with ⟨hw,hc⟩ | ⟨hw,hc⟩
   · rw [if_pos hw]
     refine .inl ?_
     refine evC_wp hL (eyes_of R.1.tm) (fun id r hr=>R.1.hp.row id r ?_) h0 R.1.kp.G1 R.1.kp.tab hc _ _ fun v row u w' cx' hk X=>?_
     · have h1:=getD_row hr
       rw [List.getElem?_take] at h1
       split at h1
       · exact h1
       · cases h1
     · refine ih _ _ cx' _ _ (by simpa using hsz) ⟨?_,?_,?_⟩ hk
       · rw [hdi,lay_eq]
         refine R.1.step X h0 oi.dst _ (fun id r hr=>?_) ?_ ?_
         · cases row with
           | none=>
             simp only at hr
             have hne:id≠base+i:=by
              rintro rfl
              have hR:=R.1.hp.row _ r hr
              cases hR with
              | box ty cs b vs hat=>rw [h0] at hat;cases hat
              | listN ty es z hat hz=>rw [h0] at hat;cases hat
              | list ty es rows b cap vs hat=>rw [h0] at hat;cases hat
              | iter s p b hat=>rw [h0] at hat;cases hat
              | map c rows b es clock hat=>rw [h0] at hat;cases hat
              | hole ty rows r kid b cap vs hat=>rw [h0] at hat;cases hat
             exact .inl ⟨hne,hr⟩
           | some r'=>
             simp only at hr
             by_cases e:base+i=id
             · subst e
               have hlt:base+i<s.heap.length:=by have:=R.2.1;omega
               rw [List.getElem?_set_self hlt] at hr
               cases hr
               exact .inr ⟨rfl,rfl⟩
             · rw [List.getElem?_set_ne e] at hr
               exact .inl ⟨Ne.symm e,hr⟩
         · cases row<;>simp
         · have:=R.2.1
           cases row with
           | none=>simp
           | some r=>intro _;simp only [List.length_set];omega
       · rw [add_len];exact R.2.1
       · intro j hj hl
         obtain ⟨hne,hl'⟩:=other j hj hl
         rw [X.at_ _ (by omega)]
         exact R.2.2 j hj hl'
   · rw [if_neg (by simp [hw])]
     refine ih _ _ cx _ _ (by simpa using hsz) ⟨?_,?_,?_⟩ hc
     · rw [hdi]
       exact R.1.put (rep_undef cx w) oi.dst
     · rw [add_len];exact R.2.1
     · intro j hj hl
       exact R.2.2 j hj (other j hj hl).2
theorem popsD_opV {i:Nat} {o:Oper} {rest:List Oper} {s:St} {K:St→Prop} (ho:all[i]?=some o) (h:popsD (dom P A) L all base i (o::rest) s K):
 opV (dom P A) L all base i s fun v r=>popsD (dom P A) L all base (i+1) rest (s.add (dstOf all i) v (base+i) r) K:=by
 have hdi:dstOf all i=o.dst:=by unfold dstOf gslot;rw [ho]
 unfold opV
 rw [ho,hdi]
 exact h
theorem AnyD.whole {md:Region.Mode} {K:St→Prop} (hns:Region.noSelect all.toArray=true):
 ∀ (rest:List Oper) (k:Nat) (l:Array Bool) (s:St),(∀j,rest[j]?=all[k+j]?)→HeadInv md all.toArray all.length l→Region.lexFrom md all.toArray rest.length k l=true→popsD (dom P A) L all base k rest s K→
   AnyD (dom P A) L md all base all.length (fun l s=>Region.ready md all.toArray l=[]∧K s) rest.length l s:=by
 intro rest
 induction rest with
 | nil=>intro k l s _ _ hB h;exact ⟨by simpa [Region.lexFrom] using hB,h⟩
 | cons o rest ih=>
   intro k l s hl inv hB h
   have h0:all[k]?=some o:=by simpa using (hl 0).symm
   simp only [List.length_cons,Region.lexFrom,Bool.and_eq_true] at hB
   obtain ⟨⟨hr,hf⟩,hB'⟩:=hB
   have hr':k∈Region.ready md all.toArray l:=by simpa using hr
   have hkl:k<all.length:=(List.getElem?_eq_some_iff.1 h0).1
   obtain ⟨v,r,hK,hy⟩:=opV_val (popsD_opV h0 h)
   refine AnyD.first h0 hns hkl (fun l _ _ j hj=>?_) (fun l s hL j hj=>by rw [hL.1] at hj;cases hj) rest.length l s inv (fun j oj hj=>Region.free_spec (by rw [List.getElem?_toArray];exact h0) hf j oj (by rw [List.getElem?_toArray];exact hj)) hr' hy ?_
   · obtain ⟨-,o',ho',-⟩:=mem_ready.1 hj
     rw [List.getElem?_toArray] at ho'
     exact (List.getElem?_eq_some_iff.1 ho').1
   · refine ih (k+1) _ _ (fun j=>?_) (inv.set hr' hkl) hB' hK
     have:=hl (j+1)
     simpa [Nat.add_assoc,Nat.add_comm 1 j] using this
theorem AnyD.head {md:Region.Mode} {K:St→Prop} {g:Nat} (hns:Region.noSelect all.toArray=true) (hs:Region.sinkB md all.toArray n=true) (hc:Region.chainB md all.toArray n=true) (hn:n<all.length):
 ∀ (rest:List Oper) (k:Nat) (l:Array Bool) (s:St),(∀j,j<rest.length→rest[j]?=all[k+j]?)→k+rest.length=n→HeadInv md all.toArray n l→Region.lexHead md all.toArray g rest.length k l=true→
   popsD (dom P A) L all base k rest s K→AnyD (dom P A) L md all base n (fun l s=>Region.seqB md all.toArray g n l=true∧K s) rest.length l s:=by
 have hn':n<all.toArray.size:=by simpa using hn
 intro rest
 induction rest with
 | nil=>
   intro k l s _ hk _ hB h
   obtain rfl:k=n:=by simpa using hk
   exact ⟨by simpa [Region.lexHead] using hB,h⟩
 | cons o rest ih=>
   intro k l s hl hk inv hB h
   have h0:all[k]?=some o:=by simpa using (hl 0 (by simp)).symm
   have hk':k+1+rest.length=n:=by simpa [Nat.add_assoc,Nat.add_comm 1] using hk
   simp only [List.length_cons,Region.lexHead,Bool.and_eq_true] at hB
   obtain ⟨⟨hr,hf⟩,hB'⟩:=hB
   have hr':k∈Region.ready md all.toArray l:=by simpa using hr
   obtain ⟨v,r,hK,hy⟩:=opV_val (popsD_opV h0 h)
   refine AnyD.first h0 hns (by omega) (fun l inv un j hj=>?_) (fun l s hL=>seqB_ready hL.1) rest.length l s inv (fun j oj hj=>Region.free_spec (by rw [List.getElem?_toArray];exact h0) hf j oj (by rw [List.getElem?_toArray];exact hj)) hr' hy ?_
   · exact Nat.lt_of_not_le fun h=>tail_waits hs hc hn' inv _ k rfl (by omega) un j h hj
   · refine ih (k+1) _ _ (fun j hj=>?_) hk' (inv.set hr' (by omega)) hB' hK
     have:=hl (j+1) (by simp;omega)
     simpa [Nat.add_assoc,Nat.add_comm 1 j] using this
theorem Rel.drew {cx:Cx} {s:St} {a:Act} {w:World} (R:Rel A cx s a w) (k:Nat):Rel A cx s a {w with drawn:=k}:=by
 have hs:Same cx.G w {w with drawn:=k}:=fun _ _=>rfl
 refine ⟨R.tm.mono hs (Cx.le.refl _),R.df,⟨fun id r hr=>(R.hp.row id r hr).mono (fun _ _=>rfl) hs (Cx.le.refl _) (fun b h=>.inl h),R.hp.inj,R.hp.dom⟩,?_,R.bs⟩
 exact ⟨R.kp.os,R.kp.tape,R.kp.output,R.kp.size,R.kp.block,R.kp.live,R.kp.G0,R.kp.G1,R.kp.G2,R.kp.pin,R.kp.base,R.kp.tab.mono hs (fun _ h=>h)⟩
theorem Rel.widen {cx:Cx} {s:St} {a:Act} {w:World} (R:Rel A cx s a w) (m:Nat):Rel A cx ⟨s.tmps,s.heap++List.replicate m none,s.base⟩ a w:=by
 have old:∀(id:Nat) r,(s.heap++List.replicate m none)[id]?=some (some r)→s.heap[id]?=some (some r):=fun id r h=>by
  by_cases hl:id<s.heap.length
  · rwa [List.getElem?_append_left hl] at h
  · rw [List.getElem?_append_right (by omega),List.getElem?_replicate] at h
    split at h<;>cases h
 refine ⟨R.tm,R.df,⟨fun id r h=>R.hp.row id r (old id r h),fun id id' r r' b cap es len cap' es' len' h1 h2=>R.hp.inj _ _ _ _ _ _ _ _ _ _ _ (old _ _ h1) (old _ _ h2),fun id h=>R.hp.dom id (by simp only [List.length_append] at h;omega)⟩,?_,R.bs⟩
 exact ⟨R.kp.os,R.kp.tape,R.kp.output,R.kp.size,R.kp.block,fun id r b cap es len h=>R.kp.live id r b cap es len (old _ _ h),R.kp.G0,R.kp.G1,R.kp.G2,R.kp.pin,by
  simp only [List.length_append];have:=R.kp.base;omega,R.kp.tab⟩
def St.wide (s:St) (m:Nat):St:=⟨s.tmps,s.heap++List.replicate m none,s.base⟩
theorem relD_start {cx:Cx} {s:St} {a:Act} {w:World} (R:Rel A cx s a w):RelD A all s.heap.length (Array.replicate all.length false) cx (s.wide all.length) a {w with drawn:=w.drawn+1}:=
 ⟨(R.widen all.length).drew _,by simp [St.wide],fun i _ _=>R.hp.dom _ (by omega)⟩
theorem inv_start {md:Region.Mode} (n:Nat):HeadInv md all.toArray n (Array.replicate all.length false):=by
 constructor
 · simp
 · intro j oj _ hl;rw [getD_replicate_false] at hl;cases hl
 · intro t _ ht;exact getD_in (by simpa using ht) (getD_replicate_false _ _)
theorem draw_whole (hL:LayOk P L) (hm:P.follows .mixedOrders=true) {s:St} {K:St→Prop} (hB:Region.lexB .any all.toArray=true) (h:popsD (dom P A) L all s.heap.length 0 all (s.wide all.length) K):
 (dom P A).draw all s K:=by
 intro id cx a w R
 simp only [Region.lexB,Bool.and_eq_true] at hB
 obtain ⟨hns,hlex⟩:=hB
 refine wp_region_any hm ?_
 have H:=AnyD.whole (md:=.any) hns all 0 _ _ (fun j=>by rw [Nat.zero_add]) (inv_start all.length) (by simpa using hlex) h
 have:=AnyD.any hL (Q:=Post A fun e s'=>e=.normal∧K s') (g:=0) (fun l s cx a w hq R=>⟨hq.1,.inl ⟨.normal,s,cx,trivial,⟨rfl,hq.2⟩,R.1⟩⟩) _ _ _ cx a _ (by simp) (relD_start R) H
 simpa using this
theorem draw_tail (hL:LayOk P L) (hm:P.follows .mixedOrders=true) (n:Nat) {s:St} {K:St→Prop} (hB:Region.lexTailB .any all.toArray n=true)
 (h:popsD (dom P A) L all s.heap.length 0 (all.take n) (s.wide all.length) fun s'=>pops (dom P A) L all [] (all.drop n) s' K):(dom P A).draw all s K:=by
 intro id cx a w R
 simp only [Region.lexTailB,Bool.and_eq_true,decide_eq_true_eq] at hB
 obtain ⟨⟨⟨⟨hns,hn⟩,hs⟩,hc⟩,hlex⟩:=hB
 have hn':n<all.length:=by simpa using hn
 have ht:(all.take n).length=n:=by simp;omega
 have hd:(all.drop n).length=all.toArray.size-n:=by simp
 refine wp_region_any hm ?_
 have H:=AnyD.head (md:=.any) (g:=all.toArray.size-n) hns hs hc hn' (all.take n) 0 _ _ (fun j hj=>by
  rw [ht] at hj
  simp [hj]) (by simpa using ht) (inv_start n) (by rw [ht];simpa using hlex) h
 have:=AnyD.any hL (Q:=Post A fun e s'=>e=.normal∧K s') (g:=all.toArray.size-n) (fun l s cx a w hq R=>by
  have h1:=pops_wp hL (Q:=Post A fun e s'=>e=.normal∧K s') (fun s cx a w hk hR=>.inl ⟨.normal,s,cx,trivial,⟨rfl,hk⟩,hR⟩) (fun ch a w h=>.inr ⟨ch,rfl,h⟩) _ [] s hq.2 cx a w R.1 (kinv_nil a)
  have h2:=wpAny_of_seq (md:=.any) (all.drop n) n l a w (fun j=>by simp [List.getElem?_drop]) (by rw [hd];exact hq.1) h1
  rwa [hd] at h2) _ _ _ cx a _ (by simp) (relD_start R) H
 rw [ht,show n+(all.toArray.size-n)=all.toArray.size by simp;omega] at this
 simpa using this
end
end Ab
end Go.Proofs.YtbpihhelojjedaaDoor
namespace Go.Proofs.YtbpihhelojjedaaDoor
open Go Go.RowKit
namespace Ab
def nrm:V→V
 | .t (.flat (.slice none 0 0))=>.t (.slc [])
 | .agg cs=>.agg (nrmL cs)
 | .tup cs=>.tup (nrmL cs)
 | v=>v
where nrmL:List V→List V
 | []=>[]
 | v::r=>nrm v::nrmL r
theorem nrmL_map:∀l:List V,nrm.nrmL l=l.map nrm
 | []=>rfl
 | v::r=>by rw [nrm.nrmL,nrmL_map r];rfl
theorem nrm_cellB (v:V):(nrm v).cellB=v.cellB:=by
 unfold nrm
 split<;>rfl
theorem nil_rep (G:Nat→Prop) (w:World):TRep G w (.slc []) (.slice none 0 0):=
 .slc [] none 0 0 0 0 (fun _ _=>undef) (Nat.le_refl _) (fun _=>rfl) (fun h=>absurd rfl h) (fun r h=>by simp at h) (fun i j t h=>by simp at h) (fun i j t h=>by simp at h)
theorem nrm_le (v:V):VLe v (nrm v):=by
 intro cx w u h
 induction h with
 | t x u h=>
   unfold nrm
   split
   · rename_i e;cases e;cases h;exact .t _ _ (nil_rep _ _)
   · rename_i e;cases e
   · rename_i e;cases e
   · exact .t _ _ h
 | agg cs vs hn hc hr ih=>
   rw [nrm,nrmL_map]
   refine .agg _ _ (by simpa using hn) (fun c hc'=>?_) (fun i c u h1 h2=>?_)
   · obtain ⟨d,hd,rfl⟩:=List.mem_map.1 hc'
     rw [nrm_cellB];exact hc d hd
   · rw [List.getElem?_map] at h1
     obtain ⟨d,hd,rfl⟩:=Option.map_eq_some_iff.1 h1
     exact ih i d u hd h2
 | tup cs vs hn hr ih=>
   rw [nrm,nrmL_map]
   refine .tup _ _ (by simpa using hn) (fun i c u h1 h2=>?_)
   rw [List.getElem?_map] at h1
   obtain ⟨d,hd,rfl⟩:=Option.map_eq_some_iff.1 h1
   exact ih i d u hd h2
 | lstN id a z h hz=>exact .lstN id a z h hz
 | lst id b cap es len h=>exact .lst id b cap es len h
 | ptr id off b cap es len h=>exact .ptr id off b cap es len h
 | elt id row off b cap es len h=>exact .elt id row off b cap es len h
 | win id lo b cap es len h=>exact .win id lo b cap es len h
 | mp id b cap es len h=>exact .mp id b cap es len h
 | pre id n b cap es len h=>exact .pre id n b cap es len h
 | ipt cells off b o u hG hcell hr=>exact .ipt cells off b o u hG hcell hr
 | fn f cs vs hn hr ih=>exact .fn f cs vs hn hr
 | ifc t v u h ih=>exact .ifc t v u h
 | junk v=>exact .junk v
theorem nrm_i {k:IntKind} {n n':Int} (h:n=n'):nrm (fI k n)=fI k n':=by rw [h];rfl
theorem nrms_le (args:List V):VLes args (nrm.nrmL args):=fun cx w us ha=>by
 rw [nrmL_map]
 refine ⟨by simpa using ha.1,fun i c u h1 h2=>?_⟩
 rw [List.getElem?_map] at h1
 obtain ⟨d,hd,rfl⟩:=Option.map_eq_some_iff.1 h1
 exact nrm_le d _ _ _ (ha.2 i d u hd h2)
theorem Fun.args {P:Program} {f:FuncId} {args args':List V} {v:V} (hF:Fun P f args' v) (he:nrm.nrmL args=args'):Fun P f args v:=
 ⟨hF.1,fun G w cargs hG hT ha=>hF.2 G w cargs hG hT (by subst he;exact nrms_le args _ _ _ ha)⟩
theorem Thr.args {P:Program} {f:FuncId} {args args':List V} {v:V} (hF:Thr P f args' v) (he:nrm.nrmL args=args'):Thr P f args v:=
 ⟨hF.1,fun G w cargs hG hT ha=>hF.2 G w cargs hG hT (by subst he;exact nrms_le args _ _ _ ha)⟩
theorem FunL.args {P:Program} {f:FuncId} {args args':List V} {ty es:Nat} {rows:Rows} (hF:FunL P f args' ty es rows) (he:nrm.nrmL args=args'):FunL P f args ty es rows:=
 ⟨hF.1,fun G w cargs hG hT ha=>hF.2 G w cargs hG hT (by subst he;exact nrms_le args _ _ _ ha)⟩
theorem MethL.args {P:Program} {f:FuncId} {ty es:Nat} {rows rows':Rows} {args args':List V} {v:V} (hM:MethL P f ty es rows args' v rows') (he:nrm.nrmL args=args'):MethL P f ty es rows args v rows':=
 ⟨hM.1,fun G w b cap cargs hG hT hr ha=>hM.2 G w b cap cargs hG hT hr (by subst he;exact nrms_le args _ _ _ ha)⟩
theorem Meth.args {P:Program} {f:FuncId} {ty:TypeId} {cells args:List V} {o:Out} (hM:Meth P f ty (nrm.nrmL cells) (nrm.nrmL args) o):Meth P f ty cells args o:=
 ⟨hM.1,fun G w b vs cargs hG hT hn hb hc ha=>hM.2 G w b vs cargs hG hT hn hb (nrms_le cells _ _ _ hc) (nrms_le args _ _ _ ha)⟩
section
variable {P:Program} {A:Run} {E:Env} {L:TypeId→Option Lt}
theorem use_fun (hE:dom P A=E) {f:FuncId} {args:List V} {s:St} {args':List V} {v:V} {K:V→St→Prop} (hF:Fun P f args' v) (he:nrm.nrmL args=args') (hc:args.all V.closedB=true) (hK:K v s):E.call f args s K:=by
 subst hE;exact call_fun (hF.args he) hc hK
theorem use_thr (hE:dom P A=E) {f:FuncId} {args:List V} {s:St} {args':List V} {v:V} {K:V→St→Prop} (hF:Thr P f args' v) (he:nrm.nrmL args=args') (hc:args.all V.closedB=true) (hK:E.pan v s):E.call f args s K:=by
 subst hE;exact call_thr (hF.args he) hc hK.1 hK.2
theorem use_meth (hE:dom P A=E) {f:FuncId} {ty:TypeId} {id:Nat} {cells0 cells args args':List V} {s:St} {v:V} {cells':List V} {K:V→St→Prop} (hM:Meth P f ty cells args' (.ret v cells')) (hrow:s.heap.getD id none=some (.box ty cells0)) (hcs:nrm.nrmL cells0=cells) (he:nrm.nrmL args=args') (hcc:cells0.all V.closedB=true) (hca:args.all V.closedB=true)
 (hK:K v (s.setRow id (.box ty cells'))):E.call f (.ptr id 0::args) s K:=by
 subst hE;subst hcs;subst he;exact call_meth (o:=.ret v cells') hM.args hrow hcc hca hK
theorem use_methP (hE:dom P A=E) {f:FuncId} {ty:TypeId} {id:Nat} {cells0 cells args args':List V} {s:St} {v:V} {K:V→St→Prop} (hM:Meth P f ty cells args' (.pan v)) (hrow:s.heap.getD id none=some (.box ty cells0)) (hcs:nrm.nrmL cells0=cells) (he:nrm.nrmL args=args') (hcc:cells0.all V.closedB=true) (hca:args.all V.closedB=true)
 (hK:E.pan v (s.setRow id (.box ty (List.replicate cells0.length .junk)))):E.call f (.ptr id 0::args) s K:=by
 subst hE;subst hcs;subst he;exact call_meth (o:=.pan v) hM.args hrow hcc hca hK
theorem fun_of (hL:LayOk P L) {f:FuncId} {fn:Func} {c:Code} {args:List V} {v:V} (hcall:Callable P f) (hf:P.funcs[f]?=some fn) (hb:fn.body=some c)
 (h:∀(A:Run) (E:Env) (Q:Ex→St→Prop),dom P A=E→(∀id,E.free id)→(∀s r v',resV L fn.results.toList s=some r→r.frz s.heap=some v'→nrm v'=v→Q .ret s∧Q .normal s)→pwp E L c ⟨args++List.replicate (fn.ntmps-args.length) .junk,[],0⟩ Q):Fun P f args v:=
 Fun_of hL hcall hf hb fun A Q hf hQ=>pwp_sound hL _ _ _ (h A _ Q rfl hf fun s r v' h1 h2 h3=>hQ s r v' h1 h2 (h3▸nrm_le v'))
theorem thr_of (hL:LayOk P L) {f:FuncId} {fn:Func} {c:Code} {args:List V} {v:V} (hcall:Callable P f) (hf:P.funcs[f]?=some fn) (hb:fn.body=some c)
 (h:∀(A:Run) (E:Env) (Q:Ex→St→Prop),dom P A=E→(∀id,E.free id)→(∀v' h,v'.closedB=true→nrm v'=v→E.pan v' h)→pwp E L c ⟨args++List.replicate (fn.ntmps-args.length) .junk,[],0⟩ Q):Thr P f args v:=
 Thr_of hL hcall hf hb fun A Q hf hQ=>pwp_sound hL _ _ _ (h A _ Q rfl hf fun v' h h1 h2=>⟨h1,hQ v' h (h2▸nrm_le v')⟩)
theorem meth_of (hL:LayOk P L) {f:FuncId} {fn:Func} {c:Code} {ty:TypeId} {cells args:List V} {v:V} {cells':List V} (hcall:Callable P f) (hf:P.funcs[f]?=some fn) (hb:fn.body=some c)
 (h:∀(A:Run) (E:Env) (Q:Ex→St→Prop),dom P A=E→(∀id,1≤id→E.free id)→(∀s r v' cs cs',resV L fn.results.toList s=some r→r.frz s.heap=some v'→s.heap.getD 0 none=some (.box ty cs)→frzL s.heap cs=some cs'→nrm v'=v→nrm.nrmL cs'=cells'→Q .ret s∧Q .normal s)→
  pwp E L c ⟨(.ptr 0 0::args)++List.replicate (fn.ntmps-(V.ptr 0 0::args).length) .junk,[some (.box ty cells)],1⟩ Q):Meth P f ty cells args (.ret v cells'):=
 Meth_of (o:=.ret v cells') hL hcall hf hb fun A Q hf hQ=>pwp_sound hL _ _ _ (h A _ Q rfl hf fun s r v' cs cs' h1 h2 h3 h4 h5 h6=>hQ s r v' cs cs' h1 h2 h3 h4 (h5▸nrm_le v') (h6▸nrms_le cs'))
theorem methP_of (hL:LayOk P L) {f:FuncId} {fn:Func} {c:Code} {ty:TypeId} {cells args:List V} {v:V} (hcall:Callable P f) (hf:P.funcs[f]?=some fn) (hb:fn.body=some c)
 (h:∀(A:Run) (E:Env) (Q:Ex→St→Prop),dom P A=E→(∀id,1≤id→E.free id)→(∀v' (t:St) cs,t.heap.getD 0 none=some (.box ty cs)→v'.closedB=true→nrm v'=v→E.pan v' t)→
  pwp E L c ⟨(.ptr 0 0::args)++List.replicate (fn.ntmps-(V.ptr 0 0::args).length) .junk,[some (.box ty cells)],1⟩ Q):Meth P f ty cells args (.pan v):=
 Meth_of (o:=.pan v) hL hcall hf hb fun A Q hf hQ=>pwp_sound hL _ _ _ (h A _ Q rfl hf fun v' heap cs h1 h2 h3=>⟨h2,hQ v' heap cs h1 (h3▸nrm_le v')⟩)
theorem use_loop (hE:dom P A=E) (hL:LayOk P L) {c:Code} {s:St} {Q:Ex→St→Prop} {Γ:Type} (F:Γ→St) (pre:Γ→Prop) (mu:Γ→Nat) (g0:Γ) (h0:pre g0) (hle:s.le (F g0))
 (hstep:∀g,pre g→∀Q':Ex→St→Prop,(∀s' g',pre g'→mu g'<mu g→s'.le (F g')→Q' .normal s')→(∀s',Q .ret s'→Q' .ret s')→(∀i s',Q (.exit i) s'→Q' (.exit i) s')→pwp E L c (F g) Q'):E.other (.loop c) s Q:=by
 subst hE;exact AW_loop hL F pre mu g0 h0 hle fun g hg Q' a b c=>pwp_sound hL _ _ _ (hstep g hg Q' a b c)
theorem use_whole (hE:dom P A=E) (hL:LayOk P L) (hm:P.follows .mixedOrders=true) {all:List Oper} {s:St} {K:St→Prop} (hB:Region.lexB .any all.toArray=true) (h:popsD E L all s.heap.length 0 all (s.wide all.length) K):E.draw all s K:=by
 subst hE;exact draw_whole hL hm hB h
theorem use_tail (hE:dom P A=E) (hL:LayOk P L) (hm:P.follows .mixedOrders=true) (n:Nat) {all:List Oper} {s:St} {K:St→Prop} (hB:Region.lexTailB .any all.toArray n=true)
 (h:popsD E L all s.heap.length 0 (all.take n) (s.wide all.length) fun s'=>pops E L all [] (all.drop n) s' K):E.draw all s K:=by
 subst hE;exact draw_tail hL hm n hB h
theorem use_pcall (hE:dom P A=E) {f:FuncId} {args:List V} {args':List V} {v:V} {k:V→Prop} (hF:Fun P f args' v) (he:nrm.nrmL args=args') (hc:args.all V.closedB=true) (hk:k v):E.pcall f args k:=by
 subst hE;exact ⟨hc,v,hF.args he,hk⟩
def ifaceD:TypeDesc→Bool
 | .interface _=>true
 | _=>false
variable (hE:dom P A=E)
include hE
theorem r_ifc {t:TypeId} {d:TypeDesc} {x:V} {k:V→Prop} (hd:P.underlying t=some d) (hn:ifaceD d=false) (hk:k (.ifc t x)):E.mki t x k:=by
 subst hE
 refine ⟨_,hk,fun cx w u hu=>⟨.iface t u,?_,.ifc t x u hu⟩⟩
 unfold Instr.makeInterface
 rw [Sem.run_bind,run_underlying hd,Result.andThen_ok]
 cases d<;>first | rfl | cases hn
theorem e_add {x y:Int} (h1: -9223372036854775808≤x+y) (h2:x+y≤9223372036854775807):E.ar .add .i64 x y=x+y:=by
 subst hE;show IntKind.i64.wrap (x+y)=_;rw [IntKind.wrap_i64];omega
theorem e_sub {x y:Int} (h1: -9223372036854775808≤x-y) (h2:x-y≤9223372036854775807):E.ar .sub .i64 x y=x-y:=by
 subst hE;show IntKind.i64.wrap (x-y)=_;rw [IntKind.wrap_i64];omega
theorem e_mul {x y:Int} (h1: -9223372036854775808≤x*y) (h2:x*y≤9223372036854775807):E.ar .mul .i64 x y=x*y:=by
 subst hE;show IntKind.i64.wrap (x*y)=_;rw [IntKind.wrap_i64];omega
theorem e_lss (x y:Int):E.cmp .lss x y=decide (x<y):=by subst hE;rfl
theorem e_leq (x y:Int):E.cmp .leq x y=decide (x≤y):=by subst hE;rfl
theorem e_gtr (x y:Int):E.cmp .gtr x y=decide (x>y):=by subst hE;rfl
theorem e_geq (x y:Int):E.cmp .geq x y=decide (x≥y):=by subst hE;rfl
theorem e_eql (x y:Int):E.cmp .eql x y=decide (x=y):=by subst hE;exact Bool.beq_eq_decide_eq x y
theorem e_neq (x y:Int):E.cmp .neq x y= !decide (x=y):=by
 subst hE
 show (!(x==y))=_
 rw [Bool.beq_eq_decide_eq]
theorem y_seql {x y:ByteArray} (h:x=y):E.scmp .eql x y=true:=by subst hE;subst h;show (x.toList==x.toList)=true;exact beq_self_eq_true _
theorem n_seql {x y:ByteArray} (h:¬ x=y):E.scmp .eql x y=false:=by
 subst hE
 show (x.toList==y.toList)=false
 exact beq_eq_false_iff_ne.2 fun e=>h (by rw [ByteArray.toList_eq,ByteArray.toList_eq] at e;obtain ⟨⟨x⟩⟩:=x;obtain ⟨⟨y⟩⟩:=y;simpa using e)
theorem y_sneq {x y:ByteArray} (h:¬ x=y):E.scmp .neq x y=true:=by
 have:=n_seql hE h
 subst hE
 show (!(x.toList==y.toList))=true
 rw [show (x.toList==y.toList)=false from this];rfl
theorem n_sneq {x y:ByteArray} (h:x=y):E.scmp .neq x y=false:=by
 have:=y_seql hE h
 subst hE
 show (!(x.toList==y.toList))=false
 rw [show (x.toList==y.toList)=true from this];rfl
theorem e_slen (s:ByteArray):E.slen s=s.size:=by subst hE;rfl
theorem e_llen (l:Rows):E.llen l=l.length:=by subst hE;rfl
theorem r_row {l:Rows} {i:Int} {r:List T} {k:List T→Prop} (h0:0≤i) (h:l[i.toNat]?=some r) (hk:k r):E.row l i k:=by
 subst hE;exact ⟨r,h0,h,hk⟩
theorem r_true {b:Bool} {p q:Unit→Prop} (h:b=true) (hp:p ()):E.ifb b p q:=by
 subst hE;subst h;exact ⟨fun _=>hp,(fun e=>by cases e)⟩
theorem r_false {b:Bool} {p q:Unit→Prop} (h:b=false) (hp:q ()):E.ifb b p q:=by
 subst hE;subst h;exact ⟨(fun e=>by cases e),fun _=>hp⟩
theorem r_if {b:Bool} {p q:Unit→Prop} (hp:b=true→p ()) (hq:b=false→q ()):E.ifb b p q:=by
 subst hE;exact ⟨hp,hq⟩
theorem e_app (a b:Rows):E.lapp a b=a++b:=by subst hE;rfl
theorem e_room {a b:Rows} {es bytes:Nat} (h1:∀row∈b,row.length=es) (h2:a.length+b.length≤1000000000) (h3:bytes≤1000):E.room a b es bytes:=by
 subst hE
 refine ⟨h1,by unfold maxLen;omega,?_⟩
 have:(a.length+b.length)*bytes≤1000000000*1000:=Nat.mul_le_mul h2 h3
 omega
end
def writes:Code→List Tmp
 | .region _ ops _=>ops.toList.filterMap (·.dst)
 | .seq a b=>writes a++writes b
 | .cond _ a b=>writes a++writes b
 | .block _ c=>writes c
 | .loop c=>writes c
 | .scope c=>writes c
 | .rangeFunc _ ps a b=>ps.toList++(writes a++writes b)
 | _=>[]
def forget:List Tmp→List V→List V
 | [],l=>l
 | t::r,l=>forget r (l.set t .junk)
def setAll:List (Tmp × V)→List V→List V
 | [],l=>l
 | (t,v)::r,l=>setAll r (l.set t v)
def rowsAll:List (Nat × Row)→List (Option Row)→List (Option Row)
 | [],l=>l
 | (i,r)::rest,l=>if i<l.length then rowsAll rest (l.set i (some r)) else rowsAll rest (l++[some r])
def noLst:List V→List V
 | []=>[]
 | .lst _::r=>.junk::noLst r
 | .elt _ _ _::r=>.junk::noLst r
 | .win _ _::r=>.junk::noLst r
 | .pre _ _::r=>.junk::noLst r
 | v::r=>v::noLst r
def headOf (c:Code) (s:St) (n:Nat) (slots:List (Tmp × V)) (rows:List (Nat × Row)):St:=
 ⟨setAll slots (noLst (forget (writes c) s.tmps)),rowsAll rows (s.heap.take n),s.base⟩
theorem use_for {P:Program} {A:Run} {E:Env} {L:TypeId→Option Lt} (hE:dom P A=E) (hL:LayOk P L) {c:Code} {s:St} {Q:Ex→St→Prop} {Γ:Type} (n:Nat) (slots:Γ→List (Tmp × V)) (rows:Γ→List (Nat × Row))
 (pre:Γ→Prop) (mu:Γ→Nat) (g0:Γ) (h0:pre g0) (hle:s.le (headOf c s n (slots g0) (rows g0)))
 (hstep:∀g,pre g→∀Q':Ex→St→Prop,(∀s' g',pre g'→mu g'<mu g→s'.le (headOf c s n (slots g') (rows g'))→Q' .normal s')→(∀s',Q .ret s'→Q' .ret s')→(∀i s',Q (.exit i) s'→Q' (.exit i) s')→
  pwp E L c (headOf c s n (slots g) (rows g)) Q'):E.other (.loop c) s Q:=
 use_loop hE hL (fun g=>headOf c s n (slots g) (rows g)) pre mu g0 h0 hle hstep
end Ab
end Go.Proofs.YtbpihhelojjedaaDoor
namespace Go.Proofs.YtbpihhelojjedaaDoor
open Go Go.RowKit
namespace Ab
theorem cast_nat (n:Nat):(NatCast.natCast n:Int)=Nat.cast n:=rfl
inductive Ord where
 | done
 | one (i:Nat) (r:Ord)
 | two (i j:Nat) (r q:Ord)
def Ord.deep:Ord→Nat
 | .done=>0
 | .one _ r=>r.deep+1
 | .two _ _ r q=>max r.deep q.deep+1
def ordB (ops:Array Oper):Ord→Array Bool→Bool
 | .done,l=>Region.ready .any ops l==[]
 | .one i r,l=>Region.ready .any ops l==[i]&&ordB ops r (l.setIfInBounds i true)
 | .two i j r q,l=>Region.ready .any ops l==[i,j]&&ordB ops r (l.setIfInBounds i true)&&ordB ops q (l.setIfInBounds j true)
def stepO (E:Env) (L:TypeId→Option Lt) (all:List Oper) (i:Nat) (s:St) (K:St→Prop):Prop:=
 match all[i]? with
 | some o=>guarded E all o s (fun _=>pop E L o s K) (fun _=>K (s.put o.dst (.tup [])))
 | none=>False
def runO (E:Env) (L:TypeId→Option Lt) (all:List Oper):Ord→St→(St→Prop)→Prop
 | .done,s,K=>K s
 | .one i r,s,K=>stepO E L all i s fun s'=>runO E L all r s' K
 | .two i j r q,s,K=>(stepO E L all i s fun s'=>runO E L all r s' K)∧stepO E L all j s fun s'=>runO E L all q s' K
section
variable {P:Program} {A:Run} {L:TypeId→Option Lt} {all:List Oper} {K:St→Prop}
theorem stepO_wp (hL:LayOk P L) {i:Nat} {s:St} {cx:Cx} {a:Act} {w:World} {K':St→Prop} {next:Act→World→Prop} {Q:Exit→Act→World→Prop} (R:Rel A cx s a w) (h:stepO (dom P A) L all i s K')
 (hn:∀s' cx' a' w',K' s'→Rel A cx' s' a' w'→next a' w') (hp:∀ch a w,PanAt A a ch w→Q (.panic ch) a w):wpOp P all.toArray Q i next a w:=by
 unfold stepO at h
 split at h
 case h_2=>exact h.elim
 rename_i o ho
 unfold wpOp
 rw [List.getElem?_toArray,ho]
 simp only
 rcases guarded_wp R.tm h with ⟨hw,hc⟩ | ⟨hw,hc⟩
 · rw [if_pos hw]
   exact .inl (pop_wp hL R hc _ _ hn fun ch w' h=>hp ch a w' h)
 · rw [if_neg (by simp [hw])]
   exact hn _ cx _ w hc (R.put (rep_undef cx w) o.dst)
theorem runO_any (hL:LayOk P L) {Q:Exit→Act→World→Prop} (hQ:∀s cx a w,K s→Rel A cx s a w→Q .normal a w) (hp:∀ch a w,PanAt A a ch w→Q (.panic ch) a w):
 ∀(o:Ord) (f:Nat) (l:Array Bool) (s:St) cx a w,Rel A cx s a w→ordB all.toArray o l=true→o.deep≤f→runO (dom P A) L all o s K→wpAny P .any all.toArray Q f l a w:=by
 intro o
 induction o with
 | done=>
   intro f l s cx a w R hB _ h
   have e:Region.ready .any all.toArray l=[]:=by simpa [ordB] using hB
   cases f with
   | zero=>exact ⟨e,hQ s cx a w h R⟩
   | succ f=>exact ⟨fun _=>hQ s cx a w h R,fun i hi=>by rw [e] at hi;cases hi⟩
 | one i r ih=>
   intro f l s cx a w R hB hd h
   simp only [ordB,Bool.and_eq_true,beq_iff_eq] at hB
   obtain ⟨f,rfl⟩:∃g,f=g+1:=⟨f-1,by simp only [Ord.deep] at hd;omega⟩
   refine ⟨fun e=>(by rw [hB.1] at e;cases e),fun k hk=>?_⟩
   rw [hB.1] at hk
   obtain rfl:k=i:=by simpa using hk
   exact stepO_wp hL R h (fun s' cx' a' w' h1 h2=>ih f _ s' cx' a' w' h2 hB.2 (by simp only [Ord.deep] at hd;omega) h1) hp
 | two i j r q ihr ihq=>
   intro f l s cx a w R hB hd h
   simp only [ordB,Bool.and_eq_true,beq_iff_eq] at hB
   obtain ⟨f,rfl⟩:∃g,f=g+1:=⟨f-1,by simp only [Ord.deep] at hd;omega⟩
   refine ⟨fun e=>(by rw [hB.1.1] at e;cases e),fun k hk=>?_⟩
   rw [hB.1.1] at hk
   rcases (show k=i∨k=j by simpa using hk) with rfl | rfl
   · exact stepO_wp hL R h.1 (fun s' cx' a' w' h1 h2=>ihr f _ s' cx' a' w' h2 hB.1.2 (by simp only [Ord.deep] at hd;omega) h1) hp
   · exact stepO_wp hL R h.2 (fun s' cx' a' w' h1 h2=>ihq f _ s' cx' a' w' h2 hB.2 (by simp only [Ord.deep] at hd;omega) h1) hp
end
def FunS {α:Type} (P:Program) (f:FuncId) (args:List V) (sh:α→V) (a:α):Prop:=Fun P f args (sh a)
def shB (b:Bool):V:=fB b
def shI (n:Int):V:=fI .i64 n
theorem methO_of {P:Program} {L:TypeId→Option Lt} (hL:LayOk P L) {f:FuncId} {fn:Func} {c:Code} {ty:TypeId} {cells args:List V} {o:Out} (hcall:Callable P f) (hf:P.funcs[f]?=some fn) (hb:fn.body=some c)
 (h:∀(A:Run) (E:Env) (Q:Ex→St→Prop),dom P A=E→(∀id,1≤id→E.free id)→(∀s r v' cs cs',resV L fn.results.toList s=some r→r.frz s.heap=some v'→s.heap.getD 0 none=some (.box ty cs)→frzL s.heap cs=some cs'→o=.ret (nrm v') (nrm.nrmL cs')→Q .ret s∧Q .normal s)→
  (∀v' (t:St) cs,t.heap.getD 0 none=some (.box ty cs)→v'.closedB=true→o=.pan (nrm v')→E.pan v' t)→
  pwp E L c ⟨(.ptr 0 0::args)++List.replicate (fn.ntmps-(V.ptr 0 0::args).length) .junk,[some (.box ty cells)],1⟩ Q):Meth P f ty cells args o:=by
 cases o with
 | ret v cells'=>
   refine meth_of hL hcall hf hb fun A E Q hE hf hQ=>h A E Q hE hf (fun s r v' cs cs' h1 h2 h3 h4 h5=>?_) (fun v' heap cs h1 h2 h3=>by cases h3)
   injection h5 with e1 e2
   exact hQ s r v' cs cs' h1 h2 h3 h4 e1.symm e2.symm
 | pan v=>
   refine methP_of hL hcall hf hb fun A E Q hE hf hP=>h A E Q hE hf (fun s r v' cs cs' h1 h2 h3 h4 h5=>by cases h5) (fun v' heap cs h1 h2 h3=>?_)
   injection h3 with e1
   exact hP v' heap cs h1 h2 e1.symm
section
variable {P:Program} {A:Run} {E:Env} {L:TypeId→Option Lt} (hE:dom P A=E)
include hE
theorem use_draw (hL:LayOk P L) (hm:P.follows .mixedOrders=true) {all:List Oper} {s:St} {K:St→Prop} (hB:(if headLen all=all.length then Region.lexB .any all.toArray else Region.lexTailB .any all.toArray (headLen all))=true)
 (h:if headLen all=all.length then popsD E L all s.heap.length 0 all (s.wide all.length) K else popsD E L all s.heap.length 0 (all.take (headLen all)) (s.wide all.length) fun s'=>pops E L all [] (all.drop (headLen all)) s' K):E.draw all s K:=by
 split at h
 · rename_i e
   rw [if_pos e] at hB
   exact use_whole hE hL hm hB h
 · rename_i e
   rw [if_neg e] at hB
   exact use_tail hE hL hm _ hB h
theorem use_ord (hL:LayOk P L) (hm:P.follows .mixedOrders=true) {all:List Oper} {s:St} {K:St→Prop} (o:Ord) (hB:ordB all.toArray o (Array.replicate all.toArray.size false)=true) (hd:o.deep≤all.toArray.size) (h:runO E L all o s K):E.draw all s K:=by
 subst hE
 intro id cx a w R
 refine wp_region_any hm ?_
 exact runO_any hL (fun s cx a w hk hR=>.inl ⟨.normal,s,cx,trivial,⟨rfl,hk⟩,hR⟩) (fun ch a w h=>.inr ⟨ch,rfl,h⟩) o _ _ s cx a _ (R.drew _) hB hd h
theorem use_s {α:Type} {f:FuncId} {args args':List V} {sh:α→V} {a:α} {s:St} {K:V→St→Prop} (hF:FunS P f args' sh a) (he:nrm.nrmL args=args') (hc:args.all V.closedB=true) (hK:∀x,x=a→K (sh x) s):E.call f args s K:=
 use_fun hE (v:=sh a) hF he hc (hK a rfl)
theorem use_ps {α:Type} {f:FuncId} {args args':List V} {sh:α→V} {a:α} {k:V→Prop} (hF:FunS P f args' sh a) (he:nrm.nrmL args=args') (hc:args.all V.closedB=true) (hK:∀x,x=a→k (sh x)):E.pcall f args k:=
 use_pcall hE (v:=sh a) hF he hc (hK a rfl)
variable {p q:Unit→Prop} {x y:Int} {s t:ByteArray} {b:Bool}
theorem c_eql (h:x=y→p ()) (h':¬ x=y→q ()):E.ifb (E.cmp .eql x y) p q:=r_if hE (fun e=>h (by rw [e_eql hE] at e;simpa using e)) (fun e=>h' (by rw [e_eql hE] at e;simpa using e))
theorem c_neq (h:¬ x=y→p ()) (h':x=y→q ()):E.ifb (E.cmp .neq x y) p q:=r_if hE (fun e=>h (by rw [e_neq hE] at e;simpa using e)) (fun e=>h' (by rw [e_neq hE] at e;simpa using e))
theorem c_lss (h:x<y→p ()) (h':¬ x<y→q ()):E.ifb (E.cmp .lss x y) p q:=r_if hE (fun e=>h (by rw [e_lss hE] at e;simpa using e)) (fun e=>h' (by rw [e_lss hE] at e;simpa using e))
theorem c_leq (h:x≤y→p ()) (h':¬ x≤y→q ()):E.ifb (E.cmp .leq x y) p q:=r_if hE (fun e=>h (by rw [e_leq hE] at e;simpa using e)) (fun e=>h' (by rw [e_leq hE] at e;simpa using e))
theorem c_gtr (h:y<x→p ()) (h':¬ y<x→q ()):E.ifb (E.cmp .gtr x y) p q:=r_if hE (fun e=>h (by rw [e_gtr hE] at e;simpa using e)) (fun e=>h' (by rw [e_gtr hE] at e;simpa using e))
theorem c_geq (h:y≤x→p ()) (h':¬ y≤x→q ()):E.ifb (E.cmp .geq x y) p q:=r_if hE (fun e=>h (by rw [e_geq hE] at e;simpa using e)) (fun e=>h' (by rw [e_geq hE] at e;simpa using e))
theorem e_seql:E.scmp .eql s t=decide (s=t):=by
 by_cases h:s=t
 · rw [y_seql hE h];simp [h]
 · rw [n_seql hE h];simp [h]
theorem e_sneq:E.scmp .neq s t= !decide (s=t):=by
 by_cases h:s=t
 · rw [n_sneq hE h];simp [h]
 · rw [y_sneq hE h];simp [h]
theorem c_seql (h:s=t→p ()) (h':¬ s=t→q ()):E.ifb (E.scmp .eql s t) p q:=r_if hE (fun e=>h (by rw [e_seql hE] at e;simpa using e)) (fun e=>h' (by rw [e_seql hE] at e;simpa using e))
theorem c_sneq (h:¬ s=t→p ()) (h':s=t→q ()):E.ifb (E.scmp .neq s t) p q:=r_if hE (fun e=>h (by rw [e_sneq hE] at e;simpa using e)) (fun e=>h' (by rw [e_sneq hE] at e;simpa using e))
theorem c_b (h:b=true→p ()) (h':b=false→q ()):E.ifb b p q:=r_if hE h h'
theorem r_sin {i:Int} {c:Prop} (h0:0≤i) (h1:i<s.size) (h:c):E.sin s i∧c:=by subst hE;exact ⟨⟨h0,h1⟩,h⟩
theorem r_ssin {i j:Int} {c:Prop} (h0:0≤i) (h1:i≤j) (h2:j≤s.size) (h:c):E.ssin s i j∧c:=by subst hE;exact ⟨⟨h0,h1,h2⟩,h⟩
theorem r_room {a b:Rows} {es bytes:Nat} {c:Prop} (h1:∀row∈b,row.length=es) (h2:a.length+b.length≤1000000000) (h3:bytes≤1000) (h:c):E.room a b es bytes∧c:=⟨e_room hE h1 h2 h3,h⟩
theorem r_roomz {n m:Int} {bytes:Nat} {c:Prop} (h0:n=m) (h1:0≤n) (h2:n≤1000000000) (h3:bytes≤1000) (h:c):E.roomz n m bytes∧c:=by
 subst hE
 refine ⟨⟨h0,h1,by omega,?_⟩,h⟩
 obtain ⟨k,rfl⟩:=Int.eq_ofNat_of_zero_le h1
 have:bytes*k≤1000*1000000000:=Nat.mul_le_mul h3 (by omega)
 have e:((bytes:Int)*(k:Int))=((bytes*k:Nat):Int):=by simp
 show (bytes:Int)*(k:Int)≤2 ^ 47
 rw [e]
 omega
theorem e_sat (i:Int):E.sat s i=(s.data.getD i.toNat 0).toNat:=by subst hE;rfl
theorem e_conv (k:IntKind) (n:Int):E.conv k n=k.wrap n:=by subst hE;rfl
theorem e_imin:E.imin x y=if y<x then y else x:=by subst hE;rfl
end
end Ab
end Go.Proofs.YtbpihhelojjedaaDoor
namespace Go.Proofs.YtbpihhelojjedaaDoor
open Go Go.RowKit
namespace Ab
def roundsP (E:Env) (L:TypeId→Option Lt) (c:Code) (Q:Ex→St→Prop):Nat→St→Prop
 | 0,_=>False
 | n+1,s=>pwp E L c s fun e s'=>match e with
   | .normal=>roundsP E L c Q n s'
   | .ret=>Q .ret s'
   | .exit i=>Q (.exit i) s'
   | .goto i=>Q (.goto i) s'
theorem use_rounds {P:Program} {A:Run} {E:Env} {L:TypeId→Option Lt} (hE:dom P A=E) (hL:LayOk P L) {c:Code} {s:St} {Q:Ex→St→Prop} (n:Nat) (h:roundsP E L c Q n s):E.other (.loop c) s Q:=by
 subst hE
 refine (?_:AW P A (.loop c) s Q)
 intro cx a w R
 refine wp_loop_rounds n ?_
 induction n generalizing s cx a w with
 | zero=>exact h.elim
 | succ n ih=>
   have:=pwp_sound hL c s _ h cx a w R
   refine wp_mono this fun e a w h=>?_
   rcases h with ⟨e',s',cx',h1,h2,h3⟩ | ⟨ch,rfl,h⟩
   case inr=>exact .inr ⟨ch,rfl,h⟩
   cases e with
   | normal=>
     cases e'<;>first | exact h1.elim | skip
     exact ih h2 cx' a w h3
   | _=>cases e'<;>first | exact h1.elim | exact .inl ⟨_,s',cx',h1,h2,h3⟩
theorem c_lssT {P:Program} {A:Run} {E:Env} (hE:dom P A=E) {x y v:Int} {p q:Unit→Prop} (hx:x=v) (hv:decide (v<y)=true) (k:p ()):E.ifb (E.cmp .lss x y) p q:=c_lss hE (fun _=>k) (fun h=>absurd (hx▸of_decide_eq_true hv) h)
theorem c_lssF {P:Program} {A:Run} {E:Env} (hE:dom P A=E) {x y v:Int} {p q:Unit→Prop} (hx:x=v) (hv:decide (v<y)=false) (k:q ()):E.ifb (E.cmp .lss x y) p q:=c_lss hE (fun h=>absurd (hx▸h) (of_decide_eq_false hv)) (fun _=>k)
end Ab
end Go.Proofs.YtbpihhelojjedaaDoor
