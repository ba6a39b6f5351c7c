/- Texts that the proof leans on. -/
import Derived.Test.YtjhbgkakhaonaaaGreatDoorK339
import Derived.ProofKit
import Derived.ShutString
import Derived.Carry
import Derived.LaidMore
import Derived.Deep.DeepHandedRow
set_option linter.unusedVariables false
set_option linter.unusedSimpArgs false
set_option maxRecDepth 100000
set_option maxHeartbeats 4000000
namespace Go.Proofs.YtjhbgkakhaonaaaGreatDoor
open Go Go.RowKit Go.ChangeShapes Go.WideShapes
open Ab
namespace Op2
variable {H:Type} {enc:TypeId × Value→H} {P:Program} {W:World} {sp:Nat→Bool} {held:Bool}
theorem rows_openF {α:Type} {T e:TypeId} {n:Nat} {R:α→List Value→Prop} (hT:P.underlying T=some (.slice e)) (hn:P.cellsOf e=n) (hn0:0<n)
 {fuel:Nat} (hR:∀(f2:Nat) (cs:List Value) (x:DataW H × List MemPlace),f2<fuel→DataW.trod enc P W 0 sp held f2 e cs=some x→∃a,R a cs∧cs.length=n) {v:Value} {x:DataW H × List MemPlace}
 (h:DataW.trod enc P W 0 sp held fuel T [v]=some x):∃(A:Option Addr) (xs:List α) (cap:Nat),v=.slice A xs.length cap∧Fits A xs.length cap∧xs.length≤maxLen∧RowsAt n R (fun b=>b<W.heap.size) W A xs:=by
 rcases DataW.trod_slice hT h with ⟨e5,-⟩ | ⟨a,len,cap,elems,rest,m,rfl,e5,-,-,hlc,hcm,hel,hat,-,-⟩
 · injection e5 with e5 _
   exact ⟨none,[],0,e5,Fits.none_,Nat.zero_le _,rows_nil⟩
 · injection e5 with e5 _
   rw [hn] at hat
   have key:∀i,i≤len→∃(xs:List α),xs.length=i∧∀(k:Nat) (hk:k<xs.length),∃cs,R xs[k] cs∧cs.length=n∧∀j u,cs[j]?=some u→W.cell? (a.add (k*n+j))=some u:=by
    intro i
    induction i with
    | zero=>intro _;exact ⟨[],rfl,fun k hk=>absurd hk (by simp)⟩
    | succ i ih=>
      intro hi
      obtain ⟨xs,hl,hc⟩:=ih (by omega)
      have h1:=hat i (by omega)
      rw [List.getElem?_eq_getElem (by omega)] at h1
      obtain ⟨cs',h2,h3⟩:=Option.bind_eq_some_iff.1 h1
      obtain ⟨y,hy,hyl⟩:=hR m cs' _ (Nat.lt_succ_self _) h3
      obtain ⟨_,_,h4⟩:=World.cells?_some h2
      refine ⟨xs++[y],by rw [List.length_append,hl];rfl,fun k hk=>?_⟩
      rcases Nat.lt_or_ge k xs.length with hlt | hge
      · obtain ⟨cs,h5,h6,h7⟩:=hc k hlt
        refine ⟨cs,?_,h6,h7⟩
        rw [List.getElem_append_left hlt]
        exact h5
      · have hkl:k<xs.length+1:=by simpa using hk
        obtain rfl:k=xs.length:=by omega
        refine ⟨cs',?_,hyl,fun j u hj=>?_⟩
        · rw [List.getElem_append_right (Nat.le_refl _)]
          simpa using hy
        · have hj':j<n:=by rw [←hyl];exact (List.getElem?_eq_some_iff.1 hj).1
          have h8:=h4 j hj'
          rw [hj,Go.Deep.add_add,←hl] at h8
          exact h8
   obtain ⟨xs,hl,hc⟩:=key len (Nat.le_refl _)
   subst hl
   refine ⟨some a,xs,cap,e5,⟨hlc,fun h=>by cases h⟩,Nat.le_trans hlc hcm,fun hpos=>?_⟩
   obtain ⟨cs0,_,hl0,h0⟩:=hc 0 hpos
   have h1:=h0 0 _ (List.getElem?_eq_getElem (by omega))
   have ha0:a.add (0*n+0)=a:=by unfold Addr.add;simp
   rw [ha0] at h1
   obtain ⟨h2,h3⟩:=cell_place h1
   refine ⟨a.block,a.off,congrArg some h2,h3,fun k hk=>?_⟩
   obtain ⟨cs,h4,_,h5⟩:=hc k hk
   refine ⟨cs,h4,fun j u hj=>?_⟩
   have h6:=h5 j u hj
   rw [h2,addr_off,←Nat.add_assoc] at h6
   exact h6
theorem o_node:∀(fuel:Nat) (cs:List Value) (x:DataW H × List MemPlace),DataW.trod enc Tryz.prog W 0 sp held fuel 48 cs=some x→∃n:Node,Pl.Lens n∧CRep (GW W) W (Sh.nodeLit Sh.rw n) cs:=by
 intro fuel
 induction fuel using Nat.strongRecOn with
 | _ fuel ih=>
   intro cs x h
   obtain ⟨xs,m,rfl,hx,hl,hxl,hf⟩:=DataW.trod_struct Tryz.underlying48 h
   have hl:cs.length=8:=hl.trans (by kernel_rfl)
   obtain ⟨y0,e0⟩:=fld hxl hf 0 _ rfl
   obtain ⟨y1,e1⟩:=fld hxl hf 1 _ rfl
   obtain ⟨y2,e2⟩:=fld hxl hf 2 _ rfl
   obtain ⟨y3,e3⟩:=fld hxl hf 3 _ rfl
   obtain ⟨y4,e4⟩:=fld hxl hf 4 _ rfl
   have e0:DataW.trod enc Tryz.prog W 0 sp held m 3 ((cs.drop 0).take (Tryz.prog.cellsOf 3))=some y0:=e0
   have e1:DataW.trod enc Tryz.prog W 0 sp held m 45 ((cs.drop 1).take (Tryz.prog.cellsOf 45))=some y1:=e1
   have e2:DataW.trod enc Tryz.prog W 0 sp held m 46 ((cs.drop 5).take (Tryz.prog.cellsOf 46))=some y2:=e2
   have e3:DataW.trod enc Tryz.prog W 0 sp held m 3 ((cs.drop 6).take (Tryz.prog.cellsOf 3))=some y3:=e3
   have e4:DataW.trod enc Tryz.prog W 0 sp held m 3 ((cs.drop 7).take (Tryz.prog.cellsOf 3))=some y4:=e4
   rw [show Tryz.prog.cellsOf 3=1 by kernel_rfl] at e0 e3 e4
   rw [show Tryz.prog.cellsOf 45=4 by kernel_rfl] at e1
   rw [show Tryz.prog.cellsOf 46=1 by kernel_rfl] at e2
   match cs,hl with
   | [v0,v1,v2,v3,v4,v5,v6,v7],_=>
   obtain ⟨a0,k0⟩:=o_int Tryz.underlying3 e0
   obtain ⟨S,k1⟩:=o_set Tryz.underlying45 Tryz.underlying43 (by kernel_rfl) (by kernel_rfl) e1
   obtain ⟨a3,k3⟩:=o_int Tryz.underlying3 e3
   obtain ⟨a4,k4⟩:=o_int Tryz.underlying3 e4
   have e2:DataW.trod enc Tryz.prog W 0 sp held m 46 [v5]=some y2:=e2
   obtain ⟨A,ns,cap,hv,hfit,hmax,hrows⟩:=rows_openF (α:={n:Node // Pl.Lens n}) (R:=fun n cs=>CRep (GW W) W (Sh.nodeLit Sh.rw n.1) cs) Tryz.underlying46 (show Tryz.prog.cellsOf 48=8 by kernel_rfl) (by decide) (fun f2 cs x hlt h=>by
    obtain ⟨n,h1,h2⟩:=ih f2 (by omega) cs x h
    exact ⟨⟨n,h1⟩,h2,h2.1⟩) e2
   have ks:TRep (GW W) W (.slc (ns.map fun n=>Sh.nodeLit Sh.rw n.1)) v5:=by
    rw [hv]
    exact slc_of (n:=8) (fun x _=>rfl) (fun x cs _ h=>h) hfit hrows
   refine ⟨.mk a0 S (ns.map (·.1)) a3 a4,?_,?_⟩
   · rw [Pl.Lens]
     refine ⟨by rw [List.length_map];exact Nat.le_trans hmax (by decide),Pl.lensL_iff.2 fun n hn=>?_⟩
     obtain ⟨y,-,rfl⟩:=List.mem_map.1 hn
     exact y.2
   · have kk:TRep (GW W) W (.slc (Sh.rw Node nodeRow (ns.map (·.1)))) v5:=by
      have e:Sh.rw Node nodeRow (ns.map (·.1))=ns.map fun n=>Sh.nodeLit Sh.rw n.1:=by
       unfold Sh.rw
       rw [List.map_map]
       exact List.map_congr_left fun n _=>Sh.nodeRow_lit n.1
      rw [e];exact ks
     refine crep_cons (k0.2 0 _ _ rfl rfl) ?_
     refine crep_cons (k1.2 0 _ _ rfl rfl) (crep_cons (k1.2 1 _ _ rfl rfl) (crep_cons (k1.2 2 _ _ rfl rfl) (crep_cons (k1.2 3 _ _ rfl rfl) ?_)))
     exact crep_cons kk (crep_cons (k3.2 0 _ _ rfl rfl) (crep_cons (k4.2 0 _ _ rfl rfl) crep_nil))
end Op2
end Go.Proofs.YtjhbgkakhaonaaaGreatDoor
namespace Go.Proofs.YtjhbgkakhaonaaaGreatDoor
open Go Go.ChangeShapes Go.WideShapes Go.ChangeAt Go.RowKit
section
variable {H:Type} {enc:TypeId × Value→H} {P:Program} {W W':World}
theorem below_all (hl:laidOutB P=true) (hb:Below W.heap.size W W'):∀(ts:List TypeId) (vs:List Value) (ds:List (DataW H)) (ps:List MemPlace),
 (ts.all fun t=>P.readableRec t&&decide (t<P.types.size))=true→DataW.TrodAll enc P W 0 (fun _=>true) true ts vs ds ps→(∀x∈ps,x.block<W.heap.size)→
 DataW.TrodAll enc P W' 0 (fun b=>decide (b<W.heap.size)) true ts vs ds ps
 | [],vs,ds,ps,_,h,_=>by
   obtain ⟨rfl,rfl,rfl⟩:=trodAll_nil h
   exact trodAll_mk0
 | t::ts,vs,ds,ps,hr,h,hlt=>by
   obtain ⟨v,vs',d,ds',p,q,rfl,rfl,rfl,h0,r0⟩:=trodAll_cons h
   simp only [List.all_cons,Bool.and_eq_true,decide_eq_true_eq] at hr
   exact trodAll_cons_mk (Below.trod hl hr.1.1 hr.1.2 h0 hb (fun x hx=>hlt x (List.mem_append_left _ hx)))
    (below_all hl hb ts vs' ds' q (by simpa using hr.2) r0 (fun x hx=>hlt x (List.mem_append_right _ hx)))
theorem law_post {s:ChangeSpec} {f:Func} {args:Array Value} {ds gs:List (DataW H)} {before:List MemPlace} {t:TypeId} (hl:laidOutB P=true)
 (hr:(f.params.toList.all fun t=>P.readableRec t&&decide (t<P.types.size))=true) (hres:f.resultTypes=#[t]) (ht:P.underlying t=some .bool)
 (hv:s.vars=[]) (hfn:s.fn H (ds++gs)={results:=[.lit (.bool true)],args:=ds})
 (hW:DataW.Whole enc P f.params.toList s.vars false W args.toList ds gs before) (hb:Below W.heap.size W W'):s.post enc P f false true false false W args (.bool true) W':=by
 have hW':=hW
 have hlt:=hW.lt
 obtain ⟨p,q,hA,hV,rfl,_,_⟩:=hW
 refine ⟨ds,gs,_,[],p,[],hW',?_,?_,?_,hb.frame _,fun h=>by cases h⟩
 · rw [hfn,hres]
   exact trodAll_mk1 (shut_bool ht _)
 · rw [hfn]
   exact below_all hl hb _ _ _ _ hr hA (fun x hx=>by simpa using hlt x (List.mem_append_left _ hx))
 · rw [hfn,hv]
   exact rfl
end
def flatD:DataW Unit→List Value
 | .lit (.int k n)=>[.int k n]
 | .lit (.string s)=>[.string ⟨s.toArray⟩]
 | .agg ps=>flatDs ps
 | _=>[]
 where flatDs:List (DataW Unit)→List Value
 | []=>[]
 | d::r=>flatD d++flatDs r
end Go.Proofs.YtjhbgkakhaonaaaGreatDoor
