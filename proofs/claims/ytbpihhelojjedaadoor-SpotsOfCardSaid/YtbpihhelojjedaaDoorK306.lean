/- Texts that the proof leans on. -/
import Derived.Test.YtbpihhelojjedaaDoorK305
set_option linter.unusedVariables false
set_option linter.unusedSimpArgs false
set_option maxRecDepth 100000
set_option maxHeartbeats 4000000
namespace Go.Proofs.YtbpihhelojjedaaDoor
open Go Go.RowKit
namespace Ab
section
variable {P:Program} {A:Run} {L:TypeId→Option Lt} {cx:Cx} {w:World} {e:Operand→Value} {o:Oper} {ρ:Operand→V} {hp:List (Option Row)} {aid:Nat} {k:V→Option Row→Prop}
theorem toTs_eq:∀{cs:List V} {ts:List T},toTs cs=some ts→cs=ts.map V.t:=by
 intro cs
 induction cs with
 | nil=>intro ts h;simp [toTs] at h;subst h;rfl
 | cons c r ih=>
   intro ts h
   cases c with
   | t x=>
     simp only [toTs] at h
     split at h
     · rename_i l hl
       cases h
       rw [ih hl]
       rfl
     · cases h
   | _=>simp [toTs] at h
theorem mul_lt {i j n es:Nat} (hi:i<n) (hj:j<es):i*es+j<n*es:=by
 have:(i+1)*es≤n*es:=Nat.mul_le_mul_right _ hi
 rw [Nat.succ_mul] at this
 omega
theorem fill_rows {es:Nat} (he:Eyes cx w ρ e):∀(l:List (Nat × Operand)) (k:Nat) (rows:Rows) (arr:Array Value) (N:Nat),arr.size=N*es→k+l.length≤N→rowsOf es k (l.map fun p=>(p.1,ρ p.2))=some rows→
 ∃ arr',Instr.fill (fun i=>some (i*es,es)) arr (l.map fun p=>(p.1,e p.2))=some arr'∧arr'.size=arr.size∧(∀j,j<k*es→arr'[j]?=arr[j]?)∧rows.length=l.length∧(∀row∈rows,row.length=es)∧
   ∀(i j:Nat) (t:T),(rows[i]?).bind (fun r=>r[j]?)=some t→∃u,arr'[(k+i)*es+j]?=some u∧TRep cx.G w t u:=by
 intro l
 induction l with
 | nil=>
   intro k rows arr N hN hk h
   simp only [List.map_nil,rowsOf,Option.some.injEq] at h
   subst h
   exact ⟨arr,rfl,rfl,fun _ _=>rfl,rfl,fun _ h=>by simp at h,fun i j t h=>by simp at h⟩
 | cons x l ih=>
   intro k rows arr N hN hk h
   simp only [List.length_cons] at hk
   simp only [List.map_cons,rowsOf] at h
   split at h
   case isFalse=>cases h
   rename_i hx
   split at h
   case isFalse=>cases h
   rename_i hlen
   split at h
   case h_2=>cases h
   rename_i r hr
   split at h
   case h_2=>cases h
   rename_i rest hrest
   cases h
   have hcells:=toTs_eq hr
   have hall:(ρ x.2).cells.all V.cellB=true:=by
    rw [hcells,List.all_eq_true]
    intro c hc
    obtain ⟨t,-,rfl⟩:=List.mem_map.1 hc
    rfl
   obtain ⟨hv,hone⟩:=(he x.2).cells hall
   have hcs:(e x.2).cells.size=es:=by rw [hv.1,hlen]
   have hrl:r.length=es:=by rw [hcells,List.length_map] at hlen;exact hlen
   have hke:k*es+es≤N*es:=by
    have:(k+1)*es≤N*es:=Nat.mul_le_mul_right _ (by omega)
    rwa [Nat.succ_mul] at this
   obtain ⟨f1,f2⟩:=fold_set (e x.2).cells.toList (k*es) 0 arr (by rw [Array.length_toList];omega)
   have hfold:((e x.2).cells.zipIdx.foldl (fun cs (c,j)=>cs.setIfInBounds (k*es+j) c) arr)=(((e x.2).cells.toList.zipIdx 0).foldl (fun cs (x:Value × Nat)=>cs.setIfInBounds (k*es+x.2) x.1) arr):=by
    rw [←Array.foldl_toList,Array.toList_zipIdx]
   generalize (((e x.2).cells.toList.zipIdx 0).foldl (fun cs (x:Value × Nat)=>cs.setIfInBounds (k*es+x.2) x.1) arr)=arr1 at *
   obtain ⟨arr',g1,g2,g3,g4,g5,g6⟩:=ih (k+1) rest arr1 N (by omega) (by omega) hrest
   refine ⟨arr',?_,by omega,fun j hj=>?_,by simp [g4],fun row hrow=>?_,fun i j t ht=>?_⟩
   · simp only [List.map_cons,Instr.fill,hx]
     rw [if_neg (by simp [hcs];omega),hfold]
     exact g1
   · rw [g3 j (by rw [Nat.succ_mul];omega),f2 j,if_neg (by omega)]
   · simp only [List.mem_cons] at hrow
     rcases hrow with rfl | hrow
     · exact hrl
     · exact g5 row hrow
   · cases i with
     | zero=>
       simp only [List.getElem?_cons_zero,Option.bind_some] at ht
       have hj:j<es:=by have:=(List.getElem?_eq_some_iff.1 ht).1;omega
       have hj2:j<(e x.2).cells.size:=by omega
       refine ⟨(e x.2).cells[j],?_,?_⟩
       · rw [Nat.add_zero,g3 _ (by rw [Nat.succ_mul];omega),f2,if_pos (by rw [Array.length_toList];omega)]
         rw [show k*es+j-(k*es+0)=j by omega,Array.getElem?_toList,Array.getElem?_eq_getElem hj2]
       · have:=hv.2 j (.t t) _ (by rw [hcells,List.getElem?_map,ht];rfl) (Array.getElem?_eq_getElem hj2)
         cases this with | t x v h=>exact h
     | succ i=>
       simp only [List.getElem?_cons_succ] at ht
       obtain ⟨u,h1,h2⟩:=g6 i j t ht
       exact ⟨u,by rw [show k+(i+1)=k+1+i by omega];exact h1,h2⟩
theorem list_res {ty es:Nat} {rows:Rows} {vs:Array Value} (h0:cx.at_ aid=none) (hG:∀b,cx.G b→b<w.heap.size) (hmax:rows.length≤maxLen) (hsz:vs.size=rows.length*es) (hes:∀row∈rows,row.length=es)
 (hr:∀(i j:Nat) (t:T),(rows[i]?).bind (fun r=>r[j]?)=some t→∃u,vs[i*es+j]?=some u∧TRep cx.G w t u):
 ∃cx',Res cx w aid (some (.list ty es rows)) cx' (w.alloc (.cells vs ty)) (.lst aid) (.slice (some ⟨w.heap.size,0,none⟩) rows.length rows.length):=by
 refine Res.fresh (cap:=rows.length) (es:=es) (len:=rows.length) h0 hG fun cx' hle he hg=>?_
 refine ⟨.lst _ _ _ _ _ he,.list ty es rows _ _ vs he (alloc_new _) (by rw [hg];intro h;have:=hG _ h;omega) (Nat.le_refl _) hmax hsz hes (fun i j t ht=>?_)⟩
 obtain ⟨u,h1,h2⟩:=hr i j t ht
 exact ⟨u,h1,h2.mono (alloc_same hG _) (fun b h=>by rw [hg];exact h)⟩
theorem nilIn_rep {le:Lt} {v:V} {u:Value} (h:VRep cx w v u):VRep cx w (nilIn le v) u:=by
 unfold nilIn
 split
 · unfold denilV
   split
   · rw [inv_flat h]
     exact .t _ _ (.slc [] none 0 0 0 0 (fun _ _=>undef) (Nat.zero_le _) (fun _=>rfl) (fun h=>absurd rfl h) (fun row h=>by cases h) (fun i j t h=>by simp at h) (fun i j t h=>by simp at h))
   · exact h
 · exact h
theorem ev_buildSlice {t:TypeId} {n:Nat} {ps:Array (Nat × Operand)} (hL:LayOk P L) (h0:cx.at_ aid=none) (hG:∀b,cx.G b→b<w.heap.size) (hop:o.op=.buildSlice t n ps) (he:Eyes cx w ρ e) (h:evC (dom P A) L o ρ hp aid k):Does P cx w e o aid k:=by
 simp only [evC,hop] at h
 split at h
 case h_2=>exact h.elim
 rename_i lt ht
 split at h
 case isFalse=>exact h.elim
 rename_i hk
 obtain ⟨_,d,_,_,hd,_,_,_,_,_,_,⟨_,_,hk3,_⟩,_⟩:=hL t lt ht
 obtain rfl:=hk3 hk
 split at h
 case h_2=>exact h.elim
 rename_i le hle
 obtain ⟨ei,_,z,hei,_,hesz,_,hz,hzl,hone,hlen,_⟩:=hL lt.elem le hle
 split at h
 case isFalse=>exact h.elim
 rename_i hn
 split at h
 case isFalse=>exact h.elim
 rename_i hpos
 split at h
 case isFalse=>exact h.elim
 rename_i hbig
 split at h
 case h_2=>exact h.elim
 rename_i rows hrows
 have hzs:z.cells.size=le.size:=by rw [←Array.length_toList,hzl,hlen]
 rw [List.map_map] at hrows
 obtain ⟨arr',g1,g2,-,g4,g5,g6⟩:=fill_rows (ρ:=fun x=>nilIn le (ρ x)) (fun x=>nilIn_rep (he x)) ps.toList 0 rows ((Array.range (n*le.size)).map (z.cells[· % z.cells.size]!)) n (by simp) (by omega) hrows
 have hnl:rows.length=n:=by omega
 obtain ⟨cx',hres⟩:=list_res (ty:=lt.elem) (es:=le.size) (rows:=rows) (vs:=arr') h0 hG (by
  have:rows.length≤n*le.size:=by rw [hnl];exact Nat.le_mul_of_pos_right _ hpos
  unfold maxLen
  omega) (by rw [g2,hnl];simp) g5 (fun i j t ht=>by have:=g6 i j t ht;rwa [Nat.zero_add] at this)
 refine ⟨_,_,_,_,cx',h,?_,hres⟩
 have hsmall:¬(n*ei.size>2 ^ 24):=by rw [hesz];omega
 have hfill:Instr.fill (fun i=>some (i*ei.size,ei.size)) ((Array.range (n*ei.size)).map (z.cells[· % z.cells.size]!)) (ps.map fun p=>(p.1,e p.2)).toList=some arr':=by rw [hesz,Array.toList_map];exact g1
 by_cases hz0:n*ei.size=0
 · have hfill0:Instr.fill (fun i=>some (i*ei.size,ei.size)) ((Array.range (n*ei.size)).map ((#[]:Array Value)[· % (#[]:Array Value).size]!)) (ps.map fun p=>(p.1,e p.2)).toList=some arr':=by
    rw [←hfill]
    congr 1
    rw [hz0]
    simp
   simp only [execOp,hop,Instr.buildSlice,Sem.run_bind,run_underlying hd,Result.andThen_ok,run_sizeOf hei]
   rw [if_neg hsmall]
   rw [if_pos hz0]
   simp only [Sem.run_bind,Sem.run_pure,Result.andThen_ok]
   rw [hfill0]
   simp [newRow,go_sem,hnl]
 · simp only [execOp,hop,Instr.buildSlice,Sem.run_bind,run_underlying hd,Result.andThen_ok,run_sizeOf hei]
   rw [if_neg hsmall]
   rw [if_neg hz0]
   simp only [Sem.run_bind,run_zero hei hz,Result.andThen_ok,Sem.run_pure]
   rw [hfill]
   simp [newRow,go_sem,hnl]
theorem ev_makeSlice {t:TypeId} {l c:Operand} (hL:LayOk P L) (h0:cx.at_ aid=none) (hG:∀b,cx.G b→b<w.heap.size) (hop:o.op=.makeSlice t l c) (he:Eyes cx w ρ e) (h:evC (dom P A) L o ρ hp aid k):Does P cx w e o aid k:=by
 simp only [evC,hop] at h
 split at h
 case h_2=>exact h.elim
 rename_i lt ht
 split at h
 case isFalse=>exact h.elim
 rename_i hk
 obtain ⟨_,d,_,_,hd,_,_,_,_,_,_,⟨_,_,hk3,_⟩,_⟩:=hL t lt ht
 obtain rfl:=hk3 hk
 split at h
 case h_2=>exact h.elim
 rename_i le hle
 obtain ⟨ei,_,z,hei,_,hesz,heby,hz,hzl,hone,hlen,_⟩:=hL lt.elem le hle
 split at h
 case isFalse=>exact h.elim
 rename_i hpos
 have hl:=he l
 have hc:=he c
 split at h
 case h_2=>exact h.elim
 rename_i k1 n k2 m hlv hcv
 rw [hlv] at hl
 rw [hcv] at hc
 have el:=inv_int hl
 have ec:=inv_int hc
 obtain ⟨⟨hnm,r1,r2,r3⟩,h⟩:=h
 subst hnm
 have hzs:z.cells.size=le.size:=by rw [←Array.length_toList,hzl,hlen]
 have hlz:(List.replicate n.toNat (le.zero.map T.flat)).length=n.toNat:=List.length_replicate
 obtain ⟨cx',hres⟩:=list_res (w:=w) (ty:=lt.elem) (es:=le.size) (rows:=List.replicate n.toNat (le.zero.map T.flat)) (vs:=madeCells z.cells (n.toNat*ei.size)) h0 hG (by rw [hlz];unfold maxLen;omega)
  (by rw [size_madeCells,hlz,hesz]) (fun row hr=>by obtain ⟨-,rfl⟩:=List.mem_replicate.1 hr;simp [hlen]) (fun i j t' ht'=>by
   rw [List.getElem?_replicate] at ht'
   split at ht'
   · rename_i hi
     simp only [Option.bind_some,List.getElem?_map] at ht'
     obtain ⟨v,hv,rfl⟩:=Option.map_eq_some_iff.1 ht'
     have hj:j<le.size:=by have:=(List.getElem?_eq_some_iff.1 hv).1;omega
     refine ⟨v,?_,.flat _ (hone _ (List.mem_of_getElem? hv))⟩
     have hb:i*le.size+j<n.toNat*ei.size:=by rw [hesz];exact mul_lt hi hj
     rw [madeCells,Array.getElem?_map,Array.getElem?_range]
     rw [if_pos hb]
     simp only [Option.map_some,hzs]
     have hm:(i*le.size+j) % le.size=j:=by rw [Nat.mul_comm,Nat.mul_add_mod];exact Nat.mod_eq_of_lt hj
     rw [hm]
     rw [←hzl,Array.getElem?_toList] at hv
     obtain ⟨hj2,hv⟩:=Array.getElem?_eq_some_iff.1 hv
     rw [getElem!_pos z.cells j hj2,hv]
   · simp at ht')
 rw [hlz] at hres
 refine ⟨_,_,_,_,cx',h,?_,hres⟩
 simp only [execOp,hop,el,ec,Sem.run_bind,run_make w t lt.elem ei z hd hei hz k1 k2 n n r1 (Int.le_refl _) (by rw [heby];omega) (by omega),Result.andThen_ok,Sem.run_pure]
theorem run_bound {x:Value} {i:IntKind} {n:Int} {y:Nat} {code:BoundsCode} (hx:x=.int i n) (h0:0≤n) (h1:n≤y):(Instr.sliceBound x y code).run P w=.ok n.toNat w:=by
 subst hx
 simp only [Instr.sliceBound,asIntOf,Sem.run_bind,Sem.run_pure,Result.andThen_ok]
 rw [if_pos ⟨h0,h1⟩]
 simp only [Sem.run_pure]
theorem run_bounds {b:Bool} {len cap:Nat} {lo hi:Option Operand} {l h:Int} (he:Eyes cx w ρ e) (hl:numV ρ lo 0=some l) (hh:numV ρ hi len=some h) (h0:0≤l) (h1:l≤h) (h2:h≤len) (h3:len≤cap):
 (Instr.sliceBounds b len cap (lo.map e) (hi.map e) none).run P w=.ok (l.toNat,h.toNat,cap) w:=by
 have hhi:∀c,hi=none∧h=(len:Int)∨∃z,hi=some z∧(Instr.sliceBound (e z) cap c).run P w=.ok h.toNat w:=by
  intro c
  cases hi with
  | none=>simp [numV] at hh;exact .inl ⟨rfl,hh.symm⟩
  | some z=>
    simp only [numV] at hh
    split at hh
    · rename_i k n hz
      cases hh
      exact .inr ⟨z,rfl,run_bound (inv_int (by have:=he z;rw [hz] at this;exact this)) (by omega) (by omega)⟩
    · cases hh
 have hlo:lo=none∧l=0∨∃z,lo=some z∧(Instr.sliceBound (e z) h.toNat .sliceB).run P w=.ok l.toNat w:=by
  cases lo with
  | none=>simp [numV] at hl;exact .inl ⟨rfl,hl.symm⟩
  | some z=>
    simp only [numV] at hl
    split at hl
    · rename_i k n hz
      cases hl
      exact .inr ⟨z,rfl,run_bound (inv_int (by have:=he z;rw [hz] at this;exact this)) (by omega) (by omega)⟩
    · cases hl
 rcases hhi (if b then .sliceAcap else .sliceAlen) with ⟨rfl,hh'⟩ | ⟨zh,rfl,hzh⟩<;>rcases hlo with ⟨rfl,hl'⟩ | ⟨zl,rfl,hzl⟩
 · have e1:h.toNat=len:=by omega
   have e2:l.toNat=0:=by omega
   simp only [Instr.sliceBounds,Option.map_none,Sem.run_bind,Sem.run_pure,Result.andThen_ok,e1,e2]
 · have e1:h.toNat=len:=by omega
   rw [e1] at hzl
   simp [Instr.sliceBounds,hzl,e1]
 · have e2:l.toNat=0:=by omega
   simp only [Instr.sliceBounds,Option.map_none,Option.map_some,Sem.run_bind,Sem.run_pure,Result.andThen_ok,hzh,e2]
 · simp [Instr.sliceBounds,hzh,hzl]
theorem ev_slice {t:TypeId} {x:Operand} {lo hi mx:Option Operand} (hL:LayOk P L) (hT:Tab cx.G w) (hop:o.op=.slice t x lo hi mx) (he:Eyes cx w ρ e) (hrow:∀id r,hp.getD id none=some r→RowRep cx w id r) (h:evC (dom P A) L o ρ hp aid k):Does P cx w e o aid k:=by
 simp only [evC,hop] at h
 split at h
 case h_3=>exact h.elim
 case h_2=>
  rename_i lt m ht
  obtain ⟨_,d,_,_,hd,_,_,_,_,_,_,⟨_,hk2,hk3,hk4,_⟩,_⟩:=hL t lt ht
  split at h
  case isFalse=>exact h.elim
  rename_i hk
  obtain rfl:=hk3 hk
  split at h
  case h_2=>exact h.elim
  rename_i le z hle
  obtain ⟨ei,_,_,hei,_,hesz,_⟩:=hL lt.elem le hle
  split at h
  case h_2=>exact h.elim
  rename_i k1 n1 k2 n2 hz hm
  split at h
  case isFalse=>exact h.elim
  rename_i h00
  obtain ⟨rfl,rfl⟩:=h00
  split at h
  case h_2=>exact h.elim
  rename_i hbt hsb
  have ez:e z=.int k1 0:=inv_int (by have:=he z;rw [hz] at this;exact this)
  have em:e m=.int k2 0:=inv_int (by have:=he m;rw [hm] at this;exact this)
  obtain ⟨a0,n0,c0,hv⟩:∃a0 n0 c0,e x=.slice a0 n0 c0:=by
   have hx:=he x
   generalize ρ x=v at hx hsb
   generalize e x=u at hx
   cases hx with
   | t x u hT=>
     cases hT with
     | flat u hu=>
       unfold sliceB at hsb
       split at hsb
       · rename_i e1;cases e1
       · rename_i e1;cases e1;exact ⟨_,_,_,rfl⟩
       · rename_i e1;cases e1
       · cases hsb
     | slc=>exact ⟨_,_,_,rfl⟩
   | lstN=>exact ⟨_,_,_,rfl⟩
   | lst=>exact ⟨_,_,_,rfl⟩
   | _=>cases hsb
  have hrun:(execOp e o).run P w=.ok (.value (.slice a0 0 0)) w:=by
   simp [execOp,hop,Instr.sliceAt,Instr.slice,run_underlying hd,hv,ez,em,Instr.sliceBounds,Instr.sliceBound,asIntOf,sizeOf,typeInfo,hei]
  let cx':Cx:=⟨fun i=>if i=aid then some (.nil false) else cx.at_ i,cx.G⟩
  refine ⟨_,_,_,w,cx',h,hrun,⟨Below.refl _ _,fun id hid=>if_neg hid,(fun e=>by cases e),fun _ h=>h,fun _ h=>.inl h,.lstN aid a0 false (if_pos rfl) (fun h=>by cases h),fun r e=>?_⟩⟩
  cases e
  exact ⟨.listN _ _ false (if_pos rfl) (fun _ e=>by rw [e] at hbt;simp at hbt),fun b cap es len e=>by have:some (Blk.nil false)=some (Blk.at b cap es len):=(if_pos rfl).symm.trans e;cases this⟩
 rename_i lt ht
 obtain ⟨_,d,_,_,hd,_,_,_,_,_,_,⟨_,hk2,hk3,hk4,_⟩,_⟩:=hL t lt ht
 have hx:=he x
 split at h
 · rename_i s hxv
   rw [hxv] at hx
   have hs:=inv_flat hx
   split at h
   case isFalse=>exact h.elim
   rename_i hk
   obtain rfl:=hk4 hk
   split at h
   case h_2=>exact h.elim
   rename_i l hh hl1 hh1
   have hl2:numV ρ lo 0=some l:=hl1
   have hh2:numV ρ hi s.size=some hh:=hh1
   obtain ⟨hb,h⟩:=h
   have h':k (fS (s.extract l.toNat hh.toNat)) none:=h
   refine Does.val h' ?_ (rep_flat rfl)
   have hbd:=run_bounds (P:=P) (b:=false) (cap:=s.size) he hl2 hh2 hb.1 hb.2.1 hb.2.2 (Nat.le_refl _)
   simp only [execOp,hop,Instr.sliceAt,Sem.run_bind,run_underlying hd,Result.andThen_ok,Instr.slice,hs,Option.map_none,Option.isSome_none,Bool.false_eq_true,if_false,Sem.run_pure,hbd]
 · rename_i rows hxv
   rw [hxv] at hx
   split at h
   case isFalse=>exact h.elim
   rename_i hk
   obtain rfl:=hk3 hk
   split at h
   case h_2=>exact h.elim
   rename_i le hle
   obtain ⟨ei,_,_,hei,_,hesz,_⟩:=hL lt.elem le hle
   split at h
   case h_2=>exact h.elim
   rename_i l hh hl1 hh1
   have hl2:numV ρ lo 0=some l:=hl1
   have hh2:numV ρ hi rows.length=some hh:=hh1
   obtain ⟨⟨hb0,hb1,hb2,hfit⟩,h⟩:=h
   have h':k (.t (.slc ((rows.take hh.toNat).drop l.toNat))) none:=h
   generalize hy:e x=y at hx
   cases hx with
   | t x v hT =>
     cases hT with
     | slc rows a b oo es cap u hcap hnil ha hes hc hr=>
       have hbd:=run_bounds (P:=P) (b:=true) (cap:=cap) he hl2 hh2 hb0 hb1 hb2 hcap
       have hlen:((rows.take hh.toNat).drop l.toNat).length=hh.toNat-l.toNat:=by rw [List.length_drop,List.length_take];omega
       have hml:ei.size=es∨rows=[]:=by
        cases rows with
        | nil=>exact .inr rfl
        | cons row rest=>exact .inl (by rw [hesz,←hfit row (by simp),hes row (by simp)])
       · refine Does.val (u:=.slice (if cap=l.toNat then a else a.map (·.add (l.toNat*ei.size))) (hh.toNat-l.toNat) (cap-l.toNat)) h' ?_ ?_
         · simp only [execOp,hop,Instr.sliceAt,Sem.run_bind,run_underlying hd,Result.andThen_ok,Instr.slice,hy,Option.map_none,hbd,run_sizeOf hei,Sem.run_pure]
         · rw [←hlen]
           refine .t _ _ (.slc _ _ b (oo+l.toNat*es) es _ (fun i j=>u (l.toNat+i) j) (by rw [hlen];omega) (fun hn=>?_) (fun hne=>?_) (fun row hrow=>hes row (List.mem_of_mem_take (List.mem_of_mem_drop hrow))) (fun i j t' ht'=>?_) (fun i j t' ht'=>?_))
           · have ha0:a=none:=by
              split at hn
              · exact hn
              · cases a<;>simp_all
             have:=hnil ha0
             omega
           · have hne':rows≠[]:=by rintro rfl;simp at hne
             have hpos:0<((rows.take hh.toNat).drop l.toNat).length:=List.length_pos_iff.2 hne
             obtain ⟨rfl,hG⟩:=ha hne'
             rw [if_neg (by omega)]
             refine ⟨?_,hG⟩
             have:ei.size=es:=by rcases hml with h | h;exact h;exact absurd h hne'
             simp [add_none,this]
           · rw [List.getElem?_drop,List.getElem?_take] at ht'
             split at ht'
             · have:=hc (l.toNat+i) j t' ht'
               rw [Nat.add_mul] at this
               rw [show oo+l.toNat*es+(i*es+j)=oo+(l.toNat*es+i*es+j) by omega]
               exact this
             · simp at ht'
           · rw [List.getElem?_drop,List.getElem?_take] at ht'
             split at ht'
             · exact hr (l.toNat+i) j t' ht'
             · simp at ht'
 · rename_i id hxv
   rw [hxv] at hx
   split at h
   case isFalse=>exact h.elim
   rename_i hk
   obtain rfl:=hk3 hk
   split at h
   case h_3=>exact h.elim
   case h_2=>
    rename_i le z hle
    obtain ⟨ei,_,_,hei,_,hesz,_⟩:=hL lt.elem le hle
    split at h
    case h_2=>exact h.elim
    rename_i ty es rows kk l hrw hz
    split at h
    case isFalse=>exact h.elim
    rename_i hes
    obtain ⟨⟨hne,h0,h1,hfit⟩,h⟩:=h
    have hR:=hrow _ _ hrw
    generalize hy:e x=y at hx
    cases hR with
    | listN=>exact absurd rfl hne
    | list ty es rows b cap vs hat hb hG hcap hmax hsz hes2 hr2=>
      cases hx with
      | lstN id a0 z0 h' hz0=>rw [hat] at h';cases h'
      | lst id b' cap' es' len' h'=>
        rw [hat] at h'
        cases h'
        have hl2:numV ρ (some z) (rows.length:Int)=some l:=by simp only [numV,hz]
        have hbd:=run_bounds (P:=P) (w:=w) (b:=true) (lo:=none) (hi:=some z) (len:=rows.length) (cap:=cap) (l:=0) (h:=l) he rfl hl2 (Int.le_refl _) h0 (by omega) hcap
        rw [Option.map_none] at hbd
        have hs2:ei.size=es:=by rw [hesz,hes]
        have hc0:¬ cap=0:=fun e=>hne (List.eq_nil_of_length_eq_zero (by omega))
        refine Does.val (u:=.slice (some ⟨b,0,none⟩) l.toNat cap) h ?_ (.pre _ _ _ _ _ _ hat)
        simp only [execOp,hop,Instr.sliceAt,Sem.run_bind,run_underlying hd,Result.andThen_ok,Instr.slice,hy,Option.map_none,hbd,run_sizeOf hei,Sem.run_pure,Int.toNat_natCast]
        simp [hc0,add_none]
   rename_i le z hle
   obtain ⟨ei,_,_,hei,_,hesz,_⟩:=hL lt.elem le hle
   split at h
   case h_2=>exact h.elim
   rename_i ty es rows kk l hrw hz
   split at h
   case isFalse=>exact h.elim
   rename_i hes
   obtain ⟨⟨hne,h0,h1,hfit⟩,h⟩:=h
   have hR:=hrow _ _ hrw
   generalize hy:e x=y at hx
   cases hR with
   | listN=>exact absurd rfl hne
   | list ty es rows b cap vs hat hb hG hcap hmax hsz hes2 hr2=>
     cases hx with
     | lstN id a0 z0 h' hz0=>rw [hat] at h';cases h'
     | lst id b' cap' es' len' h'=>
       rw [hat] at h'
       cases h'
       have hl2:numV ρ (some z) 0=some l:=by simp only [numV,hz]
       have hbd:=run_bounds (P:=P) (w:=w) (b:=true) (lo:=some z) (hi:=none) (len:=rows.length) (cap:=cap) (l:=l) (h:=(rows.length:Int)) he hl2 rfl h0 h1 (by omega) hcap
       rw [Option.map_none] at hbd
       have hs2:ei.size=es:=by rw [hesz,hes]
       refine Does.val (u:=.slice (some ⟨b,if cap=l.toNat then 0 else l.toNat*es,none⟩) (rows.length-l.toNat) (cap-l.toNat)) h ?_ (.win _ _ _ _ _ _ hat)
       simp only [execOp,hop,Instr.sliceAt,Sem.run_bind,run_underlying hd,Result.andThen_ok,Instr.slice,hy,Option.map_none,hbd,run_sizeOf hei,Sem.run_pure,Int.toNat_natCast]
       by_cases hcl:cap=l.toNat
       · rw [if_pos hcl,if_pos hcl]
       · rw [if_neg hcl,if_neg hcl,Option.map_some,add_none,hs2,Nat.zero_add]
 · rename_i g hxv
   rw [hxv] at hx
   have hg:=inv_flat hx
   split at h
   case isFalse=>exact h.elim
   rename_i hk
   obtain rfl:=hk2 hk
   split at h
   case h_2=>exact h.elim
   rename_i le hle
   obtain ⟨ei,_,_,hei,_,hesz,_⟩:=hL lt.elem le hle
   split at h
   case isFalse=>exact h.elim
   rename_i hsz
   obtain ⟨cells,hm,hlen,hone,h⟩:=h
   obtain ⟨hG,hcell⟩:=hT.1 _ hm
   have hbd:=run_bounds (P:=P) (b:=false) (cap:=lt.len) (lo:=none) (hi:=none) (l:=0) (h:=lt.len) he rfl rfl (Int.le_refl _) (by omega) (Int.le_refl _) (Nat.le_refl _)
   refine Does.val (u:=.slice (some ⟨g,0,none⟩) lt.len lt.len) h ?_ ?_
   · simp only [Option.map_none,Int.toNat_zero,Int.toNat_natCast] at hbd
     simp only [execOp,hop,Instr.sliceAt,Sem.run_bind,run_underlying hd,Result.andThen_ok,Instr.sureAddr,hg,Option.map_none,hbd,run_sizeOf hei,Sem.run_pure,Nat.zero_mul,Nat.sub_zero,add_none,Nat.add_zero,ite_self]
   · have hl:(cells.map fun v=>([.flat v]:List T)).length=lt.len:=by rw [List.length_map];exact hlen
     rw [←hl]
     refine .t _ _ (.slc _ _ g 0 1 _ (fun i _=>cells.getD i .nilFunc) (Nat.le_refl _) (fun hn=>by cases hn) (fun _=>⟨rfl,hG⟩) (fun row hrow=>?_) (fun i j t' ht'=>?_) (fun i j t' ht'=>?_))
     · obtain ⟨v,-,rfl⟩:=List.mem_map.1 hrow
       rfl
     · rw [List.getElem?_map] at ht'
       cases hv:cells[i]? with
       | none=>simp [hv] at ht'
       | some v=>
         cases j with
         | zero=>
           have:=hcell i v hv
           simpa [List.getD_eq_getElem?_getD,hv] using this
         | succ j=>simp [hv] at ht'
     · rw [List.getElem?_map] at ht'
       cases hv:cells[i]? with
       | none=>simp [hv] at ht'
       | some v=>
         cases j with
         | zero=>
           simp [hv] at ht'
           subst ht'
           simp only [List.getD_eq_getElem?_getD,hv,Option.getD_some]
           exact .flat _ (List.all_eq_true.1 hone _ (List.mem_of_getElem? hv))
         | succ j=>simp [hv] at ht'
 · exact h.elim
theorem ev_len {c:Call} (hL:LayOk P L) (hop:o.op=.call c) (hc:c.callee=.builtin .len) (he:Eyes cx w ρ e) (hrow:∀id r,hp.getD id none=some r→RowRep cx w id r) (h:evC (dom P A) L o ρ hp aid k):Does P cx w e o aid k:=by
 simp only [evC,hop,hc] at h
 split at h
 case h_2=>exact h.elim
 rename_i t x ht hx'
 have e1:c.argTypes=#[t]:=by cases hh:c.argTypes;simp_all
 have e2:c.args=#[x]:=by cases hh:c.args;simp_all
 split at h
 case h_2=>exact h.elim
 rename_i lt hlt
 obtain ⟨_,d,_,_,hd,_,_,_,_,_,_,⟨_,_,hk3,hk4,_,_,_,hk7,_⟩,_⟩:=hL t lt hlt
 have hx:=he x
 have key:∀(u:Value) (n:Int),(Builtin.len_ #[t] o.type #[e x]).run P w=.ok (goInt n) w→(execOp e o).run P w=.ok (.value (.int .i64 n)) w:=by
  intro u n hr
  simp only [execOp,hop,resolve,hc,Sem.run_bind,Sem.run_pure,Result.andThen_ok,invoke,builtin,e1,e2,List.map_toArray,List.map_cons,List.map_nil,hr,goInt]
 split at h
 · rename_i s hxv
   rw [hxv] at hx
   have hs:=inv_flat hx
   split at h
   case isFalse=>exact h.elim
   rename_i hk
   obtain rfl:=hk4 hk
   exact Does.val h (key undef _ (by simp [Builtin.len_,run_underlying hd,hs,dom])) (rep_flat rfl)
 · rename_i rows hxv
   rw [hxv] at hx
   split at h
   case isFalse=>exact h.elim
   rename_i hk
   obtain rfl:=hk3 hk
   generalize hy:e x=y at hx
   cases hx with
   | t x v hT=>
     cases hT with
     | slc rows a b oo es cap u hcap hnil ha hes hc hr=>
       exact Does.val h (key undef _ (by simp [Builtin.len_,run_underlying hd,hy,dom])) (rep_flat rfl)
 · rename_i n m hxv
   rw [hxv] at hx
   have hs:=inv_flat hx
   split at h
   case isFalse=>exact h.elim
   rename_i hk
   obtain rfl:=hk3 hk
   exact Does.val h (key undef _ (by simp [Builtin.len_,run_underlying hd,hs,dom])) (rep_flat rfl)
 · rename_i id hxv
   rw [hxv] at hx
   split at h
   case isFalse=>exact h.elim
   rename_i hk
   obtain rfl:=hk3 hk
   split at h
   case h_2=>exact h.elim
   rename_i ty es rows hr
   have hR:=hrow _ _ hr
   generalize hy:e x=y at hx
   cases hx with
   | lstN id a0 z0 h' hz0=>
     cases hR with
     | listN=>exact Does.val h (key undef _ (by simp [Builtin.len_,run_underlying hd,hy,dom])) (rep_flat rfl)
     | list ty es rows b cap vs hat=>rw [hat] at h';cases h'
   | lst id b cap es' len h'=>
     cases hR with
     | listN ty es z1 hat hz1=>rw [hat] at h';cases h'
     | list ty es rows b' cap' vs hat=>
       rw [hat] at h'
       cases h'
       exact Does.val h (key undef _ (by simp [Builtin.len_,run_underlying hd,hy,dom])) (rep_flat rfl)
 · rename_i id lo hxv
   rw [hxv] at hx
   split at h
   case isFalse=>exact h.elim
   rename_i hk
   obtain rfl:=hk3 hk
   split at h
   case h_2=>exact h.elim
   rename_i ty es rows hr
   obtain ⟨⟨hne,h0,h1,hfit⟩,h⟩:=h
   have hR:=hrow _ _ hr
   generalize hy:e x=y at hx
   cases hR with
   | listN=>exact absurd rfl hne
   | list ty es rows b cap vs hat hb hG hcap hmax hsz hes2 hr2=>
     cases hx with
     | win id lo b' cap' es' len' h'=>
       rw [hat] at h'
       cases h'
       have hml:(maxLen:Int)≤9223372036854775807:=by decide
       have e2:(dom P A).ar .sub .i64 ((dom P A).llen rows) lo=((rows.length-lo.toNat:Nat):Int):=by
        show IntKind.i64.wrap ((rows.length:Int)-lo)=_
        rw [IntKind.wrap_i64]
        omega
       rw [e2] at h
       exact Does.val h (key undef _ (by simp [Builtin.len_,run_underlying hd,hy,dom])) (rep_flat rfl)
 · rename_i id hxv
   rw [hxv] at hx
   split at h
   case isFalse=>exact h.elim
   rename_i hk
   obtain ⟨kt,rfl,-⟩:=hk7 hk
   split at h
   case h_2=>exact h.elim
   rename_i c es hr
   obtain ⟨b,a,clock,hxe,hat,hb,hG,hE⟩:=map_row hx (hrow _ _ hr)
   exact Does.val h (key undef _ (by simp [Builtin.len_,run_underlying hd,hxe,MapKept.run_getObj_map hb,dom,hE.size])) (rep_flat rfl)
 · exact h.elim
end
end Ab
end Go.Proofs.YtbpihhelojjedaaDoor
namespace Go.Proofs.YtbpihhelojjedaaDoor
open Go Go.RowKit
namespace Ab
theorem lt_size {w:World} {b:Nat} {o:Obj} (h:w.heap[b]?=some o):b<w.heap.size:=(Array.getElem?_eq_some_iff.1 h).1
theorem RowRep.mono {cx cx':Cx} {w w':World} {id:Nat} {r:Row} (h:RowRep cx w id r) (hb:∀b,b<w.heap.size→w'.heap[b]?=w.heap[b]?) (hs:Same cx.G w w') (hc:cx.le cx')
 (hG:∀b,cx'.G b→cx.G b∨w.heap.size≤b):RowRep cx' w' id r:=by
 cases h with
 | box ty cs b vs hat hbl hn hr=>
   refine .box ty cs b vs (hc.at_ _ _ hat) (by rw [hb _ (lt_size hbl)];exact hbl) (fun h=>?_) (hr.mono hs hc)
   rcases hG b h with h | h
   · exact hn h
   · have:=lt_size hbl;omega
 | listN ty es z hat hz=>exact .listN ty es z (hc.at_ _ _ hat) hz
 | list ty es rows b cap vs hat hbl hn hcap hmax hsz hes hr=>
   refine .list ty es rows b cap vs (hc.at_ _ _ hat) (by rw [hb _ (lt_size hbl)];exact hbl) (fun h=>?_) hcap hmax hsz hes (fun i j t ht=>?_)
   · rcases hG b h with h | h
     · exact hn h
     · have:=lt_size hbl;omega
   · obtain ⟨u,h1,h2⟩:=hr i j t ht
     exact ⟨u,h1,h2.mono hs hc.G⟩
 | iter s pos b hat hbl hn h0=>
   refine .iter s pos b (hc.at_ _ _ hat) (by rw [hb _ (lt_size hbl)];exact hbl) (fun h=>?_) h0
   rcases hG b h with h | h
   · exact hn h
   · have:=lt_size hbl;omega
 | map c rows b es clock hat hbl hn h0=>
   refine .map c rows b es clock (hc.at_ _ _ hat) (by rw [hb _ (lt_size hbl)];exact hbl) (fun h=>?_) h0
   rcases hG b h with h | h
   · exact hn h
   · have:=lt_size hbl;omega
 | hole ty rows r kid b cap vs hat hbl hn hcap hmax hsz hes hlt hr hk=>
   refine .hole ty rows r kid b cap vs (hc.at_ _ _ hat) (by rw [hb _ (lt_size hbl)];exact hbl) (fun h=>?_) hcap hmax hsz hes hlt (fun i t hi ht=>?_) fun k hk'=>?_
   · rcases hG b h with h | h
     · exact hn h
     · have:=lt_size hbl;omega
   · obtain ⟨u,h1,h2⟩:=hr i t hi ht
     exact ⟨u,h1,h2.mono hs hc.G⟩
   · obtain ⟨u,h1,h2⟩:=hk k hk'
     exact ⟨u,h1,h2.mono hs hc⟩
theorem VReps.set {cx:Cx} {w:World} {cs:List V} {vs:Array Value} (h:VReps cx w cs vs) {v:V} {u:Value} (hv:VRep cx w v u) (d:Nat):VReps cx w (cs.set d v) (vs.setIfInBounds d u):=by
 refine ⟨by simp [h.1],fun i c x h1 h2=>?_⟩
 by_cases e:d=i
 · subst e
   rw [List.getElem?_set] at h1
   rw [if_pos rfl] at h1
   split at h1
   · rename_i hlt
     cases h1
     rw [Array.getElem?_setIfInBounds_self_of_lt (by rw [h.1];exact hlt)] at h2
     cases h2
     exact hv
   · cases h1
 · rw [List.getElem?_set_ne e] at h1
   rw [Array.getElem?_setIfInBounds_ne e] at h2
   exact h.2 i c x h1 h2
theorem VReps.put {cx:Cx} {w:World} {s:St} {a:Act} (h:VReps cx w s.tmps a.tmps) {v:V} {u:Value} (hv:VRep cx w v u) (d:Option Tmp):VReps cx w (s.put d v).tmps (a.put d u).tmps:=by
 cases d with
 | none=>exact h
 | some d=>exact h.set hv d
theorem put_heap (s:St) (d:Option Tmp) (v:V):(s.put d v).heap=s.heap:=by cases d<;>rfl
theorem put_base (s:St) (d:Option Tmp) (v:V):(s.put d v).base=s.base:=by cases d<;>rfl
theorem put_df (a:Act) (d:Option Tmp) (u:Value):(a.put d u).defers=a.defers:=by cases d<;>rfl
section
variable {P:Program} {A:Run} {L:TypeId→Option Lt}
theorem Rel.step {cx cx':Cx} {s:St} {a:Act} {w w':World} {aid:Nat} {row:Option Row} {v:V} {u:Value} (R:Rel A cx s a w) (X:Res cx w aid row cx' w' v u) (h0:cx.at_ aid=none) (d:Option Tmp)
 (heap:List (Option Row)) (hh:∀(id:Nat) r,heap[id]?=some (some r)→(id≠aid∧s.heap[id]?=some (some r))∨(id=aid∧row=some r))
 (hl:s.heap.length≤heap.length) (hl2:row≠none→aid<heap.length):Rel A cx' ⟨(s.put d v).tmps,heap,s.base⟩ (a.put d u) w':=by
 have hle:cx.le cx':=⟨fun id B hB=>by
  have:id≠aid:=by rintro rfl;rw [h0] at hB;cases hB
  rw [X.at_ _ this];exact hB,X.G⟩
 have hsame:Same cx.G w w':=fun b hb=>X.below.block b (R.kp.G1 b hb)
 have hGn:∀b,cx'.G b→cx.G b∨w.heap.size≤b:=fun b h=>(X.G1 b h).imp id (·.1)
 have hblk:∀(id:Nat) r b cap es len,s.heap[id]?=some (some r)→cx.at_ id=some (.at b cap es len)→b<w.heap.size:=fun id r b cap es len hr hat=>by
  have:=R.hp.row id r hr
  cases this with
  | box ty cs b' vs hat' hbl=>rw [hat] at hat';cases hat';exact lt_size hbl
  | listN ty es z hat' hz=>rw [hat] at hat';cases hat'
  | list ty es rows b' cap' vs hat' hbl=>rw [hat] at hat';cases hat';exact lt_size hbl
  | iter s' pos b' hat' hbl=>rw [hat] at hat';cases hat';exact lt_size hbl
  | map c' rows' b' es' clock' hat' hbl=>rw [hat] at hat';cases hat';exact lt_size hbl
  | hole ty' rows' r' kid' b' cap' vs' hat' hbl=>rw [hat] at hat';cases hat';exact lt_size hbl
 constructor
 · exact VReps.put (s:=s) (R.tm.mono hsame hle) X.rep d
 · rw [put_df];exact R.df
 · constructor
   · intro id r hr
     rcases hh id r hr with ⟨hne,hr'⟩ | ⟨rfl,hrow⟩
     · exact (R.hp.row id r hr').mono X.below.block hsame hle hGn
     · exact (X.row r hrow).1
   · intro id id' r r' b cap es len cap' es' len' h1 h2 h3 h4
     rcases hh id r h1 with ⟨hne,hr⟩ | ⟨rfl,hrow⟩<;>rcases hh id' r' h2 with ⟨hne',hr'⟩ | ⟨rfl,hrow'⟩
     · rw [X.at_ _ hne] at h3
       rw [X.at_ _ hne'] at h4
       exact R.hp.inj _ _ _ _ _ _ _ _ _ _ _ hr hr' h3 h4
     · rw [X.at_ _ hne] at h3
       have:=hblk _ _ _ _ _ _ hr h3
       have:=((X.row _ hrow').2 _ _ _ _ h4).1
       omega
     · rw [X.at_ _ hne'] at h4
       have:=hblk _ _ _ _ _ _ hr' h4
       have:=((X.row _ hrow).2 _ _ _ _ h3).1
       omega
     · rfl
   · intro id hid
     by_cases e:id=aid
     · subst e
       cases row with
       | none=>rw [X.aid0 rfl];exact h0
       | some r=>have:=hl2 (by simp);simp only at hid;omega
     · rw [X.at_ _ e]
       exact R.hp.dom id (by simp only at hid;omega)
 · constructor
   · rw [X.below.os];exact R.kp.os
   · rw [X.below.tape];exact R.kp.tape
   · rw [X.below.output];exact R.kp.output
   · exact Nat.le_trans R.kp.size X.below.size
   · intro b hb hM
     rw [X.below.block b (Nat.lt_of_lt_of_le hb R.kp.size)]
     exact R.kp.block b hb hM
   · intro id r b cap es len hr hat
     rcases hh id r hr with ⟨hne,hr'⟩ | ⟨rfl,hrow⟩
     · rw [X.at_ _ hne] at hat
       exact R.kp.live id r b cap es len hr' hat
     · exact .inr (Nat.le_trans R.kp.size ((X.row _ hrow).2 _ _ _ _ hat).1)
   · exact fun b h=>X.G b (R.kp.G0 b h)
   · intro b h
     rcases X.G1 b h with h | h
     · exact Nat.lt_of_lt_of_le (R.kp.G1 b h) X.below.size
     · exact h.2
   · intro b h
     rcases X.G1 b h with h | h
     · exact R.kp.G2 b h
     · exact .inr (.inr (Nat.le_trans R.kp.size h.1))
   · intro id B hB
     obtain ⟨h1,h2⟩:=R.kp.pin id B hB
     exact ⟨hle.at_ _ _ h1,h2⟩
   · exact Nat.le_trans R.kp.base hl
   · exact R.kp.tab.mono hsame X.G
 · exact R.bs
def DoesW (P:Program) (cx:Cx) (w:World) (a:Act) (o:Oper) (aid:Nat) (k:V→Option Row→Prop):Prop:=
 ∀next Q,(∀v row u w' cx',k v row→Res cx w aid row cx' w' v u→next (a.put o.dst u) w')→o.wp P a w next Q
theorem Does.wp {cx:Cx} {w:World} {a:Act} {o:Oper} {aid:Nat} {k:V→Option Row→Prop} (h:Does P cx w a.eval o aid k):DoesW P cx w a o aid k:=fun next Q hn=>by
 obtain ⟨v,row,u,w',cx',hk,hr,hres⟩:=h
 unfold Oper.wp
 rw [hr,Oper.upon_value]
 exact hn v row u w' cx' hk hres
theorem closed_rep {cx:Cx} {w:World} {v:V} {u:Value} (h:VRep cx w v u):v.closedB=true→VRep (Cx.none cx.G) w v u:=by
 have all:∀{cs:List V},V.closedB.allC cs=true→∀(i:Nat) (c:V),cs[i]?=some c→c.closedB=true:=by
  intro cs
  induction cs with
  | nil=>intro _ i c h;simp at h
  | cons x r ih=>
    intro h i c hc
    simp only [V.closedB.allC,Bool.and_eq_true] at h
    cases i with
    | zero=>simp at hc;subst hc;exact h.1
    | succ i=>exact ih h.2 i c (by simpa using hc)
 induction h with
 | t x v h=>intro _;exact .t x v h
 | agg cs vs hn hcb hr ih=>intro hc;exact .agg cs vs hn hcb (fun i c u h1 h2=>ih i c u h1 h2 (all (by simpa [V.closedB] using hc) i c h1))
 | tup cs vs hn hr ih=>intro hc;exact .tup cs vs hn (fun i c u h1 h2=>ih i c u h1 h2 (all (by simpa [V.closedB] using hc) i c h1))
 | lstN id a z h hz=>intro hc;simp [V.closedB] at hc
 | lst=>intro hc;simp [V.closedB] at hc
 | ptr=>intro hc;simp [V.closedB] at hc
 | elt=>intro hc;simp [V.closedB] at hc
 | win=>intro hc;simp [V.closedB] at hc
 | mp=>intro hc;simp [V.closedB] at hc
 | pre=>intro hc;simp [V.closedB] at hc
 | ipt cells off b o u hG hcell hr=>intro _;exact .ipt cells off b o u hG hcell hr
 | fn f cs vs hn hr ih=>intro hc;exact .fn f cs vs hn (fun i c u h1 h2=>ih i c u h1 h2 (all (by simpa [V.closedB] using hc) i c h1))
 | ifc t v u h ih=>intro hc;exact .ifc t v u (ih (by simpa [V.closedB] using hc))
 | junk v=>intro _;exact .junk v
theorem closed_reps {cx:Cx} {w:World} {cs:List V} {vs:Array Value} (h:VReps cx w cs vs) (hc:cs.all V.closedB=true):VReps (Cx.none cx.G) w cs vs:=
 ⟨h.1,fun i c u h1 h2=>closed_rep (h.2 i c u h1 h2) (List.all_eq_true.1 hc c (List.mem_of_getElem? h1))⟩
theorem none_le (cx:Cx) (G:Nat→Prop) (h:∀b,G b→cx.G b):(Cx.none G).le cx:=⟨(fun _ _ h=>by cases h),h⟩
theorem fun_wp {cx:Cx} {w:World} {a:Act} {o:Oper} {aid:Nat} {k:V→Option Row→Prop} {c:Call} {f:Operand} {g:FuncId} {caps:List V} {ρ:Operand→V}
 (hop:o.op=.call c) (hc:c.callee=.value f) (he:Eyes cx w ρ a.eval) (hG:∀b,cx.G b→b<w.heap.size) (hT:Tab cx.G w) (hf:ρ f=.fn g caps) (h:(dom P A).pcall g (c.args.toList.map ρ++caps) fun v=>k v none):DoesW P cx w a o aid k:=fun next Q hn=>by
 obtain ⟨hcl,v,⟨hcall,hfun⟩,hk⟩:=h
 have hx:=he f
 rw [hf] at hx
 generalize hy:a.eval f=y at hx
 cases hx with
 | fn f' cs vs hnn hr=>
   have hargs:VReps cx w (c.args.toList.map ρ++caps) (c.args.map a.eval++vs):=by
    refine ⟨by simp [hnn],fun i x u h1 h2=>?_⟩
    by_cases hi:i<c.args.size
    · rw [List.getElem?_append_left (by simpa using hi)] at h1
      rw [Array.getElem?_append_left (by simpa using hi)] at h2
      rw [List.getElem?_map,Array.getElem?_toList] at h1
      rw [Array.getElem?_map] at h2
      obtain ⟨z,hz,rfl⟩:=Option.map_eq_some_iff.1 h1
      rw [hz] at h2
      cases h2
      exact he z
    · rw [List.getElem?_append_right (by simpa using Nat.le_of_not_lt hi)] at h1
      rw [Array.getElem?_append_right (by simpa using Nat.le_of_not_lt hi)] at h2
      simp only [List.length_map,Array.length_toList] at h1
      simp only [Array.size_map] at h2
      exact hr _ _ _ h1 h2
   have hrun:(execOp a.eval o).run P w=.ok (.enter g (c.args.map a.eval++vs)) w:=by
    simp only [execOp,hop,resolve,hc,hy,Deferred.ofValue,Sem.run_bind,Sem.run_pure,Result.andThen_ok,invoke,Array.empty_append]
    exact hcall _ _
   unfold Oper.wp
   rw [hrun,Oper.upon_enter]
   refine (hfun cx.G w _ hG hT (closed_reps hargs hcl)).mono ?_
   rintro e w' ⟨u,rfl,hb,hrep⟩
   refine hn v none u w' ⟨cx.at_,fun b=>cx.G b∨(w.heap.size≤b∧b<w'.heap.size)⟩ hk ⟨hb,fun _ _=>rfl,fun _=>rfl,fun b h=>.inl h,fun b h=>h,?_,fun r e=>by cases e⟩
   exact hrep.mono (Same.refl _ _) (none_le _ _ fun b h=>h)
theorem evC_wp {cx:Cx} {w:World} {a:Act} {o:Oper} {aid:Nat} {k:V→Option Row→Prop} {ρ:Operand→V} {hp:List (Option Row)} (hL:LayOk P L) (he:Eyes cx w ρ a.eval)
 (hrow:∀id r,hp.getD id none=some r→RowRep cx w id r) (h0:cx.at_ aid=none) (hG:∀b,cx.G b→b<w.heap.size) (hT:Tab cx.G w) (h:evC (dom P A) L o ρ hp aid k):DoesW P cx w a o aid k:=by
 cases hop:o.op with
 | move x=>exact (ev_move (.inl hop) he (by simpa only [evC,hop] using h)).wp
 | assign x=>exact (ev_move (.inr hop) he (by simpa only [evC,hop] using h)).wp
 | pick c x y=>exact (ev_pick hop he h).wp
 | makeInterface t x=>exact (ev_mki hop he h).wp
 | typeAssert x t u ok=>exact (ev_asrt hop he h).wp
 | alloc t=>exact (ev_alloc hL h0 hG hop h).wp
 | box t x=>exact (ev_box h0 hG hop he h).wp
 | build t ps=>exact (ev_build hL hop he h).wp
 | buildSlice t n ps=>exact (ev_buildSlice hL h0 hG hop he h).wp
 | load t x=>exact (ev_load hL hop he hrow h).wp
 | nilCheck x=>exact (ev_nilCheck hop he h).wp
 | binOp op t x y u=>exact (ev_binOp hL hop he h).wp
 | unOp op t x=>exact (ev_unOp hop he h).wp
 | convert s d x=>exact (ev_convert hL hop he hrow h).wp
 | fieldAddr t x f=>exact (ev_fieldAddr hL hop he h).wp
 | field t x f=>exact (ev_field hL hop he h).wp
 | indexAddr t x i=>exact (ev_indexAddr hL hT hop he hrow h).wp
 | index t x i=>exact (ev_index hL hop he h).wp
 | range t x=>exact (ev_range hL h0 hG hop he h).wp
 | extract x i=>exact (ev_extract hop he h).wp
 | makeMap t r=>
   cases r with
   | none=>exact (ev_makeMap hL h0 hG hop h).wp
   | some z=>simp only [evC,hop] at h
 | lookup t x i ok=>
   cases ok with
   | true=>exact (ev_lookup hL hop he hrow h).wp
   | false=>simp only [evC,hop] at h
 | slice t x lo hi mx=>exact (ev_slice hL hT hop he hrow h).wp
 | makeFunc fn first caps=>exact (ev_makeFunc hop he h).wp
 | makeSlice t l c=>exact (ev_makeSlice hL h0 hG hop he h).wp
 | call c=>
   cases hc:c.callee with
   | value f=>
     have h':=h
     simp only [evC,hop,hc] at h'
     split at h'
     · rename_i g caps hf
       exact fun_wp hop hc he hG hT hf h'
     · exact h'.elim
   | builtin b=>
     cases b with
     | len=>exact (ev_len hL hop hc he hrow h).wp
     | min=>exact (ev_min hop hc he h).wp
     | max=>exact (ev_max hop hc he h).wp
     | _=>simp only [evC,hop,hc] at h
   | invoke r m=>simp only [evC,hop,hc] at h
 | _=>simp only [evC,hop] at h
end
end Ab
end Go.Proofs.YtbpihhelojjedaaDoor
