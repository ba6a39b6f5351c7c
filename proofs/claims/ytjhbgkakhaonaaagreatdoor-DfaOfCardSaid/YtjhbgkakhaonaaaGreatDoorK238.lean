/- Texts that the proof leans on. -/
import Derived.Test.YtjhbgkakhaonaaaGreatDoorK237
set_option linter.unusedVariables false
set_option linter.unusedSimpArgs false
set_option maxRecDepth 100000
set_option maxHeartbeats 4000000
namespace Go.Proofs.YtjhbgkakhaonaaaGreatDoor
open Go Go.RowKit Go.ChangeShapes Go.WideShapes
open Ab
namespace Op2
theorem crep_nil {G:Nat→Prop} {w:World}:CRep G w [] []:=⟨rfl,fun j t u h=>by simp at h⟩
theorem agg_rep {cx:Cx} {w:World} {ts:List T} {cs:Array Value} (h:CRep cx.G w ts cs.toList):VRep cx w (.agg (ts.map V.t)) (.agg cs):=by
 refine .agg _ _ (by simpa using h.1) (fun c hc=>by obtain ⟨t,-,rfl⟩:=List.mem_map.1 hc;rfl) (fun i c u h1 h2=>?_)
 rw [List.getElem?_map] at h1
 obtain ⟨t,ht,rfl⟩:=Option.map_eq_some_iff.1 h1
 exact .t _ _ (h.2 i t u ht (by simpa using h2))
theorem slc_of {α:Type} {n:Nat} {row:α→List T} {R:α→List Value→Prop} {G:Nat→Prop} {w:World} {xs:List α} {A:Option Addr} {cap:Nat} (hn:∀x∈xs,(row x).length=n) (hR:∀x cs,x∈xs→R x cs→CRep G w (row x) cs)
 (hf:Fits A xs.length cap) (h:RowsAt n R G w A xs):TRep G w (.slc (xs.map row)) (.slice A xs.length cap):=by
 by_cases hpos:0<xs.length
 · obtain ⟨b,o,rfl,hG,hk⟩:=h hpos
   have key:∀i j t,((xs.map row)[i]?).bind (fun r=>r[j]?)=some t→∃u,w.cell? ⟨b,o+(i*n+j),none⟩=some u∧TRep G w t u:=fun i j t ht=>by
    rw [List.getElem?_map] at ht
    cases hx:xs[i]? with
    | none=>rw [hx] at ht;cases ht
    | some x=>
      rw [hx] at ht
      simp only [Option.map_some,Option.bind_some] at ht
      obtain ⟨hi,rfl⟩:=List.getElem?_eq_some_iff.1 hx
      obtain ⟨cs,h1,h2⟩:=hk i hi
      obtain ⟨g1,g2⟩:=hR _ cs (List.getElem_mem hi) h1
      have hj:j<cs.length:=by have:=(List.getElem?_eq_some_iff.1 ht).1;omega
      refine ⟨cs[j],?_,g2 j t _ ht (List.getElem?_eq_getElem hj)⟩
      have:=h2 j _ (List.getElem?_eq_getElem hj)
      rwa [show o+i*n+j=o+(i*n+j) by omega] at this
   have hlen:(xs.map row).length=xs.length:=List.length_map ..
   rw [←hlen]
   refine .slc _ _ b o n cap (fun i j=>(w.cell? ⟨b,o+(i*n+j),none⟩).getD undef) (by rw [hlen];exact hf.1) (fun e=>by cases e) (fun _=>⟨rfl,hG⟩) (fun r hr=>?_) (fun i j t ht=>?_) (fun i j t ht=>?_)
   · obtain ⟨x,hx,rfl⟩:=List.mem_map.1 hr
     exact hn x hx
   · obtain ⟨u,h1,-⟩:=key i j t ht
     rw [h1]
     rfl
   · obtain ⟨u,h1,h2⟩:=key i j t ht
     rw [h1]
     exact h2
 · obtain rfl:xs=[]:=List.eq_nil_of_length_eq_zero (by omega)
   exact .slc [] A 0 0 0 cap (fun _ _=>undef) (Nat.zero_le _) hf.2 (fun h=>absurd rfl h) (fun r h=>by simp at h) (fun i j t h=>by simp at h) (fun i j t h=>by simp at h)
section
variable {H:Type} {enc:TypeId × Value→H} {P:Program} {W:World} {sp:Nat→Bool} {held:Bool} {fuel:Nat} {x:DataW H × List MemPlace}
abbrev GW (W:World):Nat→Prop:=fun b=>b<W.heap.size
theorem o_int {t:TypeId} {k:IntKind} {cs:List Value} (ht:P.underlying t=some (.int k)) (h:DataW.trod enc P W 0 sp held fuel t cs=some x):∃a:Int,CRep (GW W) W [.flat (.int k a)] cs:=by
 obtain ⟨n,rfl,-,-⟩:=DataW.trod_int ht h
 exact ⟨n,crep_cons (.flat _ rfl) crep_nil⟩
theorem o_bool {t:TypeId} {cs:List Value} (ht:P.underlying t=some .bool) (h:DataW.trod enc P W 0 sp held fuel t cs=some x):∃a:Bool,CRep (GW W) W [.flat (.bool a)] cs:=by
 obtain ⟨n,rfl,-⟩:=DataW.trod_bool ht h
 exact ⟨n,crep_cons (.flat _ rfl) crep_nil⟩
theorem o_slc {α:Type} {t e:TypeId} {n:Nat} {c:α→List T} {cs:List Value} (hT:P.underlying t=some (.slice e)) (hn:P.cellsOf e=n) (hn0:0<n) (hc:∀a,(c a).length=n)
 (hR:∀(fuel:Nat) (cs:List Value) (x:DataW H × List MemPlace),DataW.trod enc P W 0 sp held fuel e cs=some x→∃a,CRep (GW W) W (c a) cs) (hl:cs.length=1)
 (h:DataW.trod enc P W 0 sp held fuel t cs=some x):∃l:List α,CRep (GW W) W [.slc (l.map c)] cs∧l.length≤maxLen:=by
 match cs,hl with
 | [v],_=>
 obtain ⟨A,xs,cap,rfl,hf,hm,hr⟩:=rows_open (α:=α) (R:=fun a cs=>CRep (GW W) W (c a) cs) hT hn hn0 (fun fuel cs x h=>by
  obtain ⟨a,ha⟩:=hR fuel cs x h
  exact ⟨a,ha,by rw [ha.1,hc]⟩) h
 exact ⟨xs,crep_cons (slc_of (fun a _=>hc a) (fun a cs _ h=>h) hf hr) crep_nil,hm⟩
theorem part_end {G:Nat→Prop} {cs:List Value} {o s:Nat} {ts:List T} (hl:cs.length=o+s) (h:CRep G W ts ((cs.drop o).take s)):CRep G W ts (cs.drop o):=by
 rwa [List.take_of_length_le (by rw [List.length_drop];omega)] at h
end
theorem v_agg {cx:Cx} {w:World} {ts:List T} {cs:Array Value} (h:CRep cx.G w ts cs.toList):VRep cx w (.agg (ts.map V.t)) (.agg cs):=agg_rep h
end Op2
end Go.Proofs.YtjhbgkakhaonaaaGreatDoor
namespace Go.Proofs.YtjhbgkakhaonaaaGreatDoor
open Go Go.RowKit Go.ChangeShapes Go.WideShapes
open Ab
namespace Op2
variable {H:Type} {enc:TypeId × Value→H} {P:Program} {W:World} {sp:Nat→Bool} {held:Bool} {fuel:Nat} {x:DataW H × List MemPlace}
theorem o_u64 {t:TypeId} {cs:List Value} (ht:P.underlying t=some (.int .u64)) (h:DataW.trod enc P W 0 sp held fuel t cs=some x):∃a:BitVec 64,cs=[.int .u64 (a.toNat:Int)]:=by
 obtain ⟨n,rfl,-,h⟩:=DataW.trod_int ht h
 simp only [Lit.wf,Bool.and_eq_true,decide_eq_true_eq] at h
 have h1:(0:Int)≤n:=h.1
 have h2:n≤18446744073709551615:=h.2
 refine ⟨BitVec.ofNat 64 n.toNat,?_⟩
 rw [BitVec.toNat_ofNat,Nat.mod_eq_of_lt (by omega),Int.toNat_of_nonneg h1]
theorem o_set {t e:TypeId} {cs:List Value} (ht:P.underlying t=some (.array 4 e)) (he:P.underlying e=some (.int .u64)) (hce:P.cellsOf e=1) (hct:P.cellsOf t=4) (h:DataW.trod enc P W 0 sp held fuel t cs=some x):∃S:CSet,CRep (GW W) W (Sh.cSet S) cs:=by
 obtain ⟨ys,m,-,-,hl,hy4,hy⟩:=DataW.trod_array ht h
 rw [hct] at hl
 match cs,hl with
 | [v1,v2,v3,v4],_=>
 have y0:=hy 0 (by decide)
 have y1:=hy 1 (by decide)
 have y2:=hy 2 (by decide)
 have y3:=hy 3 (by decide)
 rw [List.getElem?_eq_getElem (by omega),hce] at y0 y1 y2 y3
 obtain ⟨a,ea⟩:=o_u64 (cs:=[v1]) he y0
 obtain ⟨b,eb⟩:=o_u64 (cs:=[v2]) he y1
 obtain ⟨c,ec⟩:=o_u64 (cs:=[v3]) he y2
 obtain ⟨d,ed⟩:=o_u64 (cs:=[v4]) he y3
 cases ea;cases eb;cases ec;cases ed
 exact ⟨⟨a,b,c,d⟩,crep_cons (.flat _ rfl) (crep_cons (.flat _ rfl) (crep_cons (.flat _ rfl) (crep_cons (.flat _ rfl) crep_nil)))⟩
end Op2
end Go.Proofs.YtjhbgkakhaonaaaGreatDoor
