/- Texts that the proof leans on. -/
import Derived.Laws.Tables
import Derived.Laws.MakeOwn
import Derived.Maps.AppendAt
import Derived.Test.YtbpihhelojjedaaDoorK303
set_option linter.unusedVariables false
set_option linter.unusedSimpArgs false
set_option maxRecDepth 100000
set_option maxHeartbeats 4000000
namespace Go.Proofs.YtbpihhelojjedaaDoor
open Go Go.RowKit
namespace Ab
theorem patch_get {α:Type} {cs vs:List α} {off:Nat} (h:off+vs.length≤cs.length) (j:Nat):
 (cs.take off++(vs++cs.drop (off+vs.length)))[j]?=if off≤j∧j<off+vs.length then vs[j-off]? else cs[j]?:=by
 have hl:(cs.take off).length=off:=by rw [List.length_take];omega
 by_cases h1:j<off
 · rw [List.getElem?_append_left (by omega),List.getElem?_take,if_pos h1,if_neg (by omega)]
 · rw [List.getElem?_append_right (by omega),hl]
   by_cases h2:j<off+vs.length
   · rw [List.getElem?_append_left (by omega),if_pos (by omega)]
   · rw [List.getElem?_append_right (by omega),List.getElem?_drop,if_neg (by omega)]
     congr 1
     omega
theorem patch_len {α:Type} {cs vs:List α} {off:Nat} (h:off+vs.length≤cs.length):(cs.take off++(vs++cs.drop (off+vs.length))).length=cs.length:=by
 simp only [List.length_append,List.length_take,List.length_drop]
 omega
theorem fold_set:∀(vs:List Value) (off k:Nat) (arr:Array Value),off+k+vs.length≤arr.size→
 ((vs.zipIdx k).foldl (fun cs (x:Value × Nat)=>cs.setIfInBounds (off+x.2) x.1) arr).size=arr.size∧
 ∀j,((vs.zipIdx k).foldl (fun cs (x:Value × Nat)=>cs.setIfInBounds (off+x.2) x.1) arr)[j]?=if off+k≤j∧j<off+k+vs.length then vs[j-(off+k)]? else arr[j]?:=by
 intro vs
 induction vs with
 | nil=>
   intro off k arr h
   refine ⟨rfl,fun j=>?_⟩
   rw [if_neg (by simp only [List.length_nil];omega)]
   rfl
 | cons v r ih=>
   intro off k arr h
   simp only [List.length_cons] at h
   simp only [List.zipIdx_cons,List.foldl_cons]
   obtain ⟨h1,h2⟩:=ih off (k+1) (arr.setIfInBounds (off+k) v) (by rw [Array.size_setIfInBounds];omega)
   refine ⟨by rw [h1,Array.size_setIfInBounds],fun j=>?_⟩
   rw [h2]
   by_cases e:j=off+k
   · subst e
     rw [if_neg (by omega),if_pos (by simp only [List.length_cons];omega),Array.getElem?_setIfInBounds_self_of_lt (by omega),Nat.sub_self]
     rfl
   · rw [Array.getElem?_setIfInBounds_ne (by omega)]
     by_cases e2:off+(k+1)≤j∧j<off+(k+1)+r.length
     · rw [if_pos e2,if_pos (by simp only [List.length_cons];omega),show j-(off+k)=(j-(off+(k+1)))+1 by omega,List.getElem?_cons_succ]
     · rw [if_neg e2,if_neg (by simp only [List.length_cons];omega)]
section
variable {P:Program} {A:Run} {L:TypeId→Option Lt} {cx:Cx} {w:World} {e:Operand→Value} {o:Oper} {ρ:Operand→V} {hp:List (Option Row)} {aid:Nat} {k:V→Option Row→Prop}
theorem VReps.patch {cs vs:List V} {ccs cvs arr:Array Value} {off:Nat} (h:VReps cx w cs ccs) (hv:VReps cx w vs cvs) (hle:off+vs.length≤cs.length) (hn:arr.size=ccs.size)
 (ha:∀j,arr[j]?=if off≤j∧j<off+cvs.size then cvs[j-off]? else ccs[j]?):VReps cx w (Ab.patch cs off vs) arr:=by
 unfold Ab.patch
 refine ⟨by rw [patch_len hle,hn,h.1],fun i c u h1 h2=>?_⟩
 rw [patch_get hle] at h1
 rw [ha,hv.1] at h2
 split at h1
 · rename_i hc
   rw [if_pos hc] at h2
   exact hv.2 _ _ _ h1 h2
 · rename_i hc
   rw [if_neg hc] at h2
   exact h.2 _ _ _ h1 h2
theorem patch_cellB {cs vs:List V} {off:Nat} (h:∀c∈cs,c.cellB=true) (hv:∀c∈vs,c.cellB=true):∀c∈Ab.patch cs off vs,c.cellB=true:=fun c hc=>by
 unfold Ab.patch at hc
 simp only [List.mem_append] at hc
 rcases hc with hc | hc | hc
 · exact h c (List.mem_of_mem_take hc)
 · exact hv c hc
 · exact h c (List.mem_of_mem_drop hc)
theorem fill_rep {parts:List (Nat × Nat × Bool)} {places:List (Nat × Nat)} (hp:places=parts.map fun p=>(p.1,p.2.1)):∀(l:List (Nat × Operand)) (cs:List V) (ccs:Array Value) (r:List V),
 Eyes cx w ρ e→VReps cx w cs ccs→(∀c∈cs,c.cellB=true)→fillV parts cs (l.map fun p=>(p.1,ρ p.2))=some r→
 ∃ccr,Instr.fill (places.toArray[·]?) ccs (l.map fun p=>(p.1,e p.2))=some ccr∧VReps cx w r ccr∧∀c∈r,c.cellB=true:=by
 intro l
 induction l with
 | nil=>
   intro cs ccs r he hr hc h
   simp only [List.map_nil,fillV,Option.some.injEq] at h
   subst h
   exact ⟨ccs,rfl,hr,hc⟩
 | cons x l ih=>
   intro cs ccs r he hr hc h
   simp only [List.map_cons,fillV] at h
   split at h
   · cases h
   · rename_i off size b hx
     split at h
     · rename_i hsz
       split at h
       · rename_i hle
         split at h
         · rename_i hall
           obtain ⟨hv,hone⟩:=(he x.2).cells hall
           have hpl:places.toArray[x.1]?=some (off,size):=by subst hp;simp [hx]
           have hcs:(e x.2).cells.size=size:=by rw [hv.1,hsz]
           have hsz2:ccs.size=cs.length:=hr.1
           obtain ⟨f1,f2⟩:=fold_set (e x.2).cells.toList off 0 ccs (by rw [Array.length_toList];omega)
           have hfold:((e x.2).cells.zipIdx.foldl (fun cs (c,j)=>cs.setIfInBounds (off+j) c) ccs)=(((e x.2).cells.toList.zipIdx 0).foldl (fun cs (x:Value × Nat)=>cs.setIfInBounds (off+x.2) x.1) ccs):=by
            rw [←Array.foldl_toList,Array.toList_zipIdx]
           obtain ⟨ccr,h1,h2,h3⟩:=ih _ _ r he (VReps.patch (arr:=(((e x.2).cells.toList.zipIdx 0).foldl (fun cs (x:Value × Nat)=>cs.setIfInBounds (off+x.2) x.1) ccs)) hr hv (by omega) f1 (fun j=>by
            rw [f2 j]
            simp only [Array.length_toList,Nat.add_zero,Array.getElem?_toList])) (patch_cellB hc (fun c hc=>List.all_eq_true.1 hall c hc)) h
           refine ⟨ccr,?_,h2,h3⟩
           simp only [List.map_cons,Instr.fill,hpl]
           rw [if_neg (by simp [hcs];omega)]
           rw [hfold]
           exact h1
         · cases h
       · cases h
     · cases h
theorem places_of {fs:List Field} (h:∀f∈fs,∃i,P.info? f.type=some i):fs.mapM (fun f=>(P.info? f.type).map fun i=>(f.offset,i.size))=some ((fs.map (partOf P)).map fun p=>(p.1,p.2.1)):=by
 induction fs with
 | nil=>rfl
 | cons f r ih=>
   obtain ⟨i,hi⟩:=h f (by simp)
   rw [List.mapM_cons,ih (fun f hf=>h f (by simp [hf]))]
   simp [hi,partOf,Program.cellsOf]
theorem zero_reps {lt:Lt} {z:Value} (hzl:z.cells.toList=lt.zero) (hone:∀v∈lt.zero,oneV v=true):VReps cx w (lt.zero.map fun v=>.t (.flat v)) z.cells:=by
 refine ⟨by simp [←hzl],fun i c u h1 h2=>?_⟩
 rw [List.getElem?_map] at h1
 obtain ⟨v,hv,rfl⟩:=Option.map_eq_some_iff.1 h1
 rw [←hzl,Array.getElem?_toList,h2] at hv
 cases hv
 exact rep_flat (hone _ (by rw [←hzl];exact Array.mem_toList_iff.2 (Array.mem_of_getElem? h2)))
theorem fill_more {p1 p2:Nat→Option (Nat × Nat)} (hp:∀i p,p1 i=some p→p2 i=some p):∀(l:List (Nat × Value)) (cs r:Array Value),Instr.fill p1 cs l=some r→Instr.fill p2 cs l=some r
 | [],cs,r,h=>h
 | (i, v)::l,cs,r,h=>by
   unfold Instr.fill at h ⊢
   cases e:p1 i with
   | none=>rw [e] at h;cases h
   | some p=>
     rw [e] at h
     rw [hp i p e]
     simp only at h ⊢
     split at h
     · cases h
     · rename_i g
       rw [if_neg g]
       exact fill_more hp _ _ _ h
theorem ev_build {t:TypeId} {ps:Array (Nat × Operand)} (hL:LayOk P L) (hop:o.op=.build t ps) (he:Eyes cx w ρ e) (h:evC (dom P A) L o ρ hp aid k):Does P cx w e o aid k:=by
 simp only [evC,hop] at h
 split at h
 · rename_i lt ht
   split at h
   · rename_i hk
     obtain ⟨info,d,z,hi,hd,hsz,hby,hz,hzl,hone,hlen,⟨hk1,-⟩,-⟩:=hL t lt ht
     obtain ⟨fs,rfl,hparts,hfs⟩:=hk1 hk
     split at h
     · rename_i cs hcs
       obtain ⟨ccr,h1,h2,h3⟩:=fill_rep (parts:=lt.parts) (places:=lt.parts.map fun p=>(p.1,p.2.1)) rfl ps.toList _ z.cells cs he (zero_reps hzl hone) (by
        intro c hc
        simp only [List.mem_map] at hc
        obtain ⟨v,-,rfl⟩:=hc
        rfl) hcs
       have hbuilt:P.built t (ps.map fun (x:Nat × Operand)=>(x.1,e x.2)).toList=some ccr:=by
        unfold Program.built
        rw [hi,hd]
        simp only [hz]
        rw [places_of (fun f hf=>(hfs f (by simpa using hf)).1),hparts,Array.toList_map]
        exact h1
       exact Does.val h (by simp only [execOp,hop,Sem.run_bind,run_build w t _ ccr hbuilt,Result.andThen_ok,Sem.run_pure]) (.agg _ _ h2.1 h3 h2.2)
     · exact h.elim
   · split at h
     case isFalse=>exact h.elim
     rename_i hk
     obtain ⟨info,d,z,hi,hd,hsz,hby,hz,hzl,hone,hlen,⟨-,hk2,-⟩,-⟩:=hL t lt ht
     have hd2:=hk2 hk
     subst hd2
     split at h
     case h_2=>exact h.elim
     rename_i le hle
     obtain ⟨info2,d2,z2,hi2,hd3,hsz2,-⟩:=hL _ le hle
     split at h
     case h_2=>exact h.elim
     rename_i cs hcs
     obtain ⟨ccr,h1,h2,h3⟩:=fill_rep (parts:=arrParts lt.len le.size) (places:=(arrParts lt.len le.size).map fun p=>(p.1,p.2.1)) rfl ps.toList _ z.cells cs he (zero_reps hzl hone) (by
      intro c hc
      simp only [List.mem_map] at hc
      obtain ⟨v,-,rfl⟩:=hc
      rfl) hcs
     have hbuilt:P.built t (ps.map fun (x:Nat × Operand)=>(x.1,e x.2)).toList=some ccr:=by
      unfold Program.built
      rw [hi,hd]
      simp only [hz,hi2]
      rw [hsz2,Array.toList_map]
      exact fill_more (fun i p hp=>by
       unfold arrParts at hp
       simp only [List.map_map,List.getElem?_toArray,List.getElem?_map] at hp
       obtain ⟨j,hj,e⟩:=Option.map_eq_some_iff.1 hp
       have hj':=List.getElem?_eq_some_iff.1 hj
       obtain ⟨hlt,hj'⟩:=hj'
       simp at hj'
       subst hj'
       exact congrArg some e) _ _ _ h1
     exact Does.val h (by simp only [execOp,hop,Sem.run_bind,run_build w t _ ccr hbuilt,Result.andThen_ok,Sem.run_pure]) (.agg _ _ h2.1 h3 h2.2)
 · exact h.elim
theorem ev_load {t:TypeId} {x:Operand} (hL:LayOk P L) (hop:o.op=.load t x) (he:Eyes cx w ρ e) (hrow:∀id r,hp.getD id none=some r→RowRep cx w id r) (h:evC (dom P A) L o ρ hp aid k):Does P cx w e o aid k:=by
 simp only [evC,hop] at h
 split at h
 case h_2=>exact h.elim
 rename_i lt ht
 have hx:=he x
 split at h
 · rename_i id off hid
   rw [hid] at hx
   split at h
   · rename_i ty cs hr
     obtain ⟨b,hat,hc⟩:=(hrow _ _ hr).boxCells
     split at h
     · rename_i v hv
       obtain ⟨u,h1,h2⟩:=hc.load (P:=P) hL ht hv
       rw [Nat.zero_add] at h1
       have hu:e x=.pointer (some ⟨b,off,none⟩):=by
        generalize e x=y at hx
        cases hx with
        | ptr id off b' cap es len h'=>rw [hat] at h';cases h';rfl
       refine Does.val h ?_ h2
       simp only [execOp,hop,hu,Instr.loadAt,Instr.sureAddr,Sem.run_bind,Sem.run_pure,Result.andThen_ok,h1]
     · exact h.elim
   · exact h.elim
 · rename_i id r off hid
   rw [hid] at hx
   split at h
   · rename_i ty es rows hr
     obtain ⟨cs,-,hcs',h⟩:=h
     · split at h
       · rename_i v hv
         obtain ⟨b,cap,hat,hc⟩:=(hrow _ _ hr).listCells hcs'
         obtain ⟨u,h1,h2⟩:=hc.load (P:=P) hL ht hv
         have hu:e x=.pointer (some ⟨b,r.toNat*es+off,none⟩):=by
          generalize e x=y at hx
          cases hx with
          | elt id row off b' cap' es' len h'=>rw [hat] at h';cases h';rfl
         refine Does.val h ?_ h2
         simp only [execOp,hop,hu,Instr.loadAt,Instr.sureAddr,Sem.run_bind,Sem.run_pure,Result.andThen_ok,h1]
       · exact h.elim
   · rename_i ty rows rr j hr
     split at h
     case h_2=>exact h.elim
     rename_i hk3
     obtain ⟨rfl,h⟩:=h
     have hk3':lt.kind=3:=Nat.eq_of_beq_eq_true hk3
     have hR:=hrow _ _ hr
     cases hR with
     | hole _ _ _ _ b cap vs hat hb hG hcap hmax hsz hes2 hlt2 hr2 hk2=>
       obtain ⟨u0,g1,g2⟩:=hk2 j rfl
       have hc:CellsAt cx w b (r.toNat*1) [.lst j]:=fun i c hic=>by
        cases i with
        | zero=>
          cases hic
          exact ⟨u0,by rw [cell_of_block hb,Nat.mul_one];exact g1,g2⟩
        | succ i=>simp at hic
       obtain ⟨u,h1,h2⟩:=hc.load (P:=P) hL ht (off:=0) (v:=.lst j) (by simp [loadV,hk3'])
       have hu:e x=.pointer (some ⟨b,r.toNat*1+0,none⟩):=by
        generalize e x=y at hx
        cases hx with
        | elt id row off b' cap' es' len' h'=>rw [hat] at h';cases h';rfl
       refine Does.val h ?_ h2
       simp only [execOp,hop,hu,Instr.loadAt,Instr.sureAddr,Sem.run_bind,Sem.run_pure,Result.andThen_ok,h1]
   · exact h.elim
 · rename_i cs off hid
   rw [hid] at hx
   split at h
   · rename_i v hv
     have hu:∃u,(Instr.loadAt t (e x)).run P w=.ok u w∧VRep cx w v u:=by
      generalize e x=y at hx
      cases hx with
      | ipt cells off b o u hG hc hr=>
        obtain ⟨u,h1,h2⟩:=(CellsAt.of_closed hc hr).load (P:=P) hL ht hv
        exact ⟨u,by simp only [Instr.loadAt,Instr.sureAddr,Sem.run_bind,Sem.run_pure,Result.andThen_ok,h1],h2⟩
     obtain ⟨u,h1,h2⟩:=hu
     exact Does.val h (by simp only [execOp,hop,Sem.run_bind,h1,Result.andThen_ok,Sem.run_pure]) h2
   · exact h.elim
 · exact h.elim
theorem ev_nilCheck {x:Operand} (hop:o.op=.nilCheck x) (he:Eyes cx w ρ e) (h:evC (dom P A) L o ρ hp aid k):Does P cx w e o aid k:=by
 simp only [evC,hop] at h
 have hx:=he x
 split at h
 · rename_i hid
   rw [hid] at hx
   refine Does.val h ?_ hx
   generalize hy:e x=y at hx
   cases hx
   simp only [execOp,hop,hy,Sem.run_pure]
 · rename_i hid
   rw [hid] at hx
   refine Does.val h ?_ hx
   generalize hy:e x=y at hx
   cases hx
   simp only [execOp,hop,hy,Sem.run_pure]
 · rename_i hid
   rw [hid] at hx
   refine Does.val h ?_ hx
   generalize hy:e x=y at hx
   cases hx
   simp only [execOp,hop,hy,Sem.run_pure]
 · rename_i hid
   rw [hid] at hx
   refine Does.val h ?_ hx
   generalize hy:e x=y at hx
   cases hx
   simp only [execOp,hop,hy,Sem.run_pure]
 · exact h.elim
theorem ev_fieldAddr {t:TypeId} {x:Operand} {f:Nat} (hL:LayOk P L) (hop:o.op=.fieldAddr t x f) (he:Eyes cx w ρ e) (h:evC (dom P A) L o ρ hp aid k):Does P cx w e o aid k:=by
 simp only [evC,hop] at h
 split at h
 case h_2=>exact h.elim
 rename_i lt ht
 split at h
 case isFalse=>exact h.elim
 rename_i hk
 obtain ⟨info,d,z,hi,hd,hsz,hby,hz,hzl,hone,hlen,⟨hk1,-⟩,-⟩:=hL t lt ht
 obtain ⟨fs,rfl,hparts,hfs⟩:=hk1 hk
 split at h
 case h_2=>exact h.elim
 rename_i dd size ag hp'
 split at h
 case isFalse=>exact h.elim
 rename_i hpos
 have hfld:∃fld,fs[f]?=some fld∧partOf P fld=(dd,size,ag):=by
  rw [←hparts,List.getElem?_map] at hp'
  obtain ⟨fld,h1,h2⟩:=Option.map_eq_some_iff.1 hp'
  exact ⟨fld,by rwa [Array.getElem?_toList] at h1,h2⟩
 obtain ⟨fld,hf,hpt⟩:=hfld
 obtain ⟨⟨fi,hfi⟩,-⟩:=hfs fld (Array.mem_of_getElem? hf)
 have hoff:fld.offset=dd:=by have:=congrArg (·.1) hpt;exact this
 have hfsz:fi.size=size:=by have:=congrArg (·.2.1) hpt;simpa [partOf,Program.cellsOf,hfi] using this
 have hx:=he x
 split at h
 · rename_i id off hid
   rw [hid] at hx
   generalize hy:e x=y at hx
   cases hx with
   | ptr id off b cap es len h'=>
     refine Does.val h ?_ (.ptr _ _ _ _ _ _ h')
     simp only [execOp,hop,hy,Sem.run_bind,run_fieldAt hd hf hfi (by omega),Result.andThen_ok,Sem.run_pure,hoff]
 · rename_i id r off hid
   rw [hid] at hx
   generalize hy:e x=y at hx
   cases hx with
   | elt id row off b cap es len h'=>
     refine Does.val h ?_ (.elt _ _ _ _ _ _ _ h')
     simp only [execOp,hop,hy,Sem.run_bind,run_fieldAt hd hf hfi (by omega),Result.andThen_ok,Sem.run_pure,hoff,Nat.add_assoc]
 · rename_i cs off hid
   rw [hid] at hx
   generalize hy:e x=y at hx
   cases hx with
   | ipt cells off b o' u hG hc hr=>
     refine Does.val h ?_ (.ipt _ _ _ _ u hG hc hr)
     simp only [execOp,hop,hy,Sem.run_bind,run_fieldAt hd hf hfi (by omega),Result.andThen_ok,Sem.run_pure,hoff,Nat.add_assoc]
 · exact h.elim
theorem ev_field {t:TypeId} {x:Operand} {f:Nat} (hL:LayOk P L) (hop:o.op=.field t x f) (he:Eyes cx w ρ e) (h:evC (dom P A) L o ρ hp aid k):Does P cx w e o aid k:=by
 simp only [evC,hop] at h
 split at h
 case h_2=>exact h.elim
 rename_i lt ht
 split at h
 case isFalse=>exact h.elim
 rename_i hk
 obtain ⟨info,d,z,hi,hd,hsz,hby,hz,hzl,hone,hlen,⟨hk1,-⟩,-⟩:=hL t lt ht
 obtain ⟨fs,rfl,hparts,hfs⟩:=hk1 hk
 split at h
 case h_2=>exact h.elim
 rename_i dd size ag cs hp' hid
 have hfld:∃fld,fs[f]?=some fld∧partOf P fld=(dd,size,ag):=by
  rw [←hparts,List.getElem?_map] at hp'
  obtain ⟨fld,h1,h2⟩:=Option.map_eq_some_iff.1 hp'
  exact ⟨fld,by rwa [Array.getElem?_toList] at h1,h2⟩
 obtain ⟨fld,hf,hpt⟩:=hfld
 obtain ⟨⟨fi,hfi⟩,d',hd'⟩:=hfs fld (Array.mem_of_getElem? hf)
 have hoff:fld.offset=dd:=by have:=congrArg (·.1) hpt;exact this
 have hfsz:fi.size=size:=by have:=congrArg (·.2.1) hpt;simpa [partOf,Program.cellsOf,hfi] using this
 have hag:aggD d'=ag:=by have:=congrArg (·.2.2) hpt;simpa [partOf,hd'] using this
 have hx:=he x
 rw [hid] at hx
 generalize hy:e x=y at hx
 cases hx with
 | agg cs vs hn hcb hr=>
   split at h
   · split at h
     case isFalse=>exact h.elim
     rename_i hle
     refine Does.val (u:=.agg (vs.extract dd (dd+size))) h ?_ (.agg _ _ ?_ (fun c hc=>hcb c (List.mem_of_mem_drop (List.mem_of_mem_take hc))) (fun i c u h1 h2=>?_))
     · simp only [execOp,hop,hy,Instr.field,Sem.run_bind,run_underlying hd,Result.andThen_ok,hf,asAgg,Sem.run_pure,part,run_isAgg hd',hag,if_true,run_sizeOf hfi,hoff,hfsz]
     · simp only [Array.size_extract,List.length_take,List.length_drop];omega
     · rw [List.getElem?_take] at h1
       split at h1
       · rw [List.getElem?_drop] at h1
         rw [Array.getElem?_extract] at h2
         split at h2
         · exact hr _ _ _ h1 h2
         · cases h2
       · cases h1
   · split at h
     · rename_i v hv
       have hlt:dd<vs.size:=by have:=(List.getElem?_eq_some_iff.1 hv).1;omega
       refine Does.val (u:=vs[dd]) h ?_ (hr _ _ _ hv (Array.getElem?_eq_getElem hlt))
       simp only [execOp,hop,hy,Instr.field,Sem.run_bind,run_underlying hd,Result.andThen_ok,hf,asAgg,Sem.run_pure,part,run_isAgg hd',hag,hoff,Bool.false_eq_true,if_false,Array.getElem?_eq_getElem hlt]
     · exact h.elim
theorem ev_extract {x:Operand} {i:Nat} (hop:o.op=.extract x i) (he:Eyes cx w ρ e) (h:evC (dom P A) L o ρ hp aid k):Does P cx w e o aid k:=by
 simp only [evC,hop] at h
 have hx:=he x
 split at h
 · rename_i vs hid
   rw [hid] at hx
   split at h
   · rename_i v hv
     generalize hy:e x=y at hx
     cases hx with
     | tup cs us hn hr=>
       have hlt:i<us.size:=by have:=(List.getElem?_eq_some_iff.1 hv).1;omega
       refine Does.val (u:=us[i]) h ?_ (hr _ _ _ hv (Array.getElem?_eq_getElem hlt))
       simp only [execOp,hop,hy,Instr.extract,Sem.run_bind,Array.getElem?_eq_getElem hlt,Sem.run_pure,Result.andThen_ok]
   · exact h.elim
 · exact h.elim
theorem ev_makeFunc {fn:Fn} {first caps:Array Operand} (hop:o.op=.makeFunc fn first caps) (he:Eyes cx w ρ e) (h:evC (dom P A) L o ρ hp aid k):Does P cx w e o aid k:=by
 simp only [evC,hop] at h
 cases fn with
 | func f=>
   obtain ⟨fl⟩:=first
   cases fl with
   | nil=>
     refine Does.val (u:=.func (.func f) #[] (caps.map e)) h (by simp [execOp,hop,Instr.makeFunc]) (.fn _ _ _ (by simp) (fun i c u h1 h2=>?_))
     rw [List.getElem?_map,Array.getElem?_toList] at h1
     rw [Array.getElem?_map] at h2
     obtain ⟨x,hx,rfl⟩:=Option.map_eq_some_iff.1 h1
     rw [hx] at h2
     cases h2
     exact he x
   | cons=>exact h.elim
 | _=>exact h.elim
end
end Ab
end Go.Proofs.YtbpihhelojjedaaDoor
