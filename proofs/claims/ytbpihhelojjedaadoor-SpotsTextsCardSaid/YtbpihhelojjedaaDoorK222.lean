/- Texts that the proof leans on. -/
import Derived.Shelf.Spec.SlicesGrow
import Derived.Test.YtbpihhelojjedaaDoorK221
set_option linter.unusedVariables false
set_option linter.unusedSimpArgs false
set_option maxRecDepth 100000
set_option maxHeartbeats 4000000
namespace Go.Proofs.YtbpihhelojjedaaDoor
open Go Go.RowKit Go.Sort
open Ab
namespace Sh
def insI (a:Int):List Int→List Int
 | []=>[a]
 | b::l=>if a≤b then a::b::l else b::insI a l
def isortI:List Int→List Int
 | []=>[]
 | a::l=>insI a (isortI l)
theorem insI_perm (a:Int):∀l,(insI a l).Perm (a::l)
 | []=>List.Perm.refl _
 | b::l=>by
   unfold insI
   split
   · exact List.Perm.refl _
   · exact ((insI_perm a l).cons b).trans (List.Perm.swap a b l)
theorem isortI_perm:∀l,(isortI l).Perm l
 | []=>List.Perm.refl _
 | a::l=>(insI_perm a (isortI l)).trans ((isortI_perm l).cons a)
theorem insI_rise (a:Int):∀l:List Int,l.Pairwise (·≤·)→(insI a l).Pairwise (·≤·)
 | [],_=>by unfold insI;exact List.pairwise_singleton _ _
 | b ::l,h=>by
   have h':=List.pairwise_cons.1 h
   unfold insI
   split
   · rename_i hab
     refine List.pairwise_cons.2 ⟨fun x hx=>?_,h⟩
     rcases List.mem_cons.1 hx with e | hx
     · subst e;exact hab
     · exact Int.le_trans hab (h'.1 x hx)
   · rename_i hab
     refine List.pairwise_cons.2 ⟨fun x hx=>?_,insI_rise a l h'.2⟩
     rcases List.mem_cons.1 ((insI_perm a l).mem_iff.1 hx) with e | hx
     · subst e;omega
     · exact h'.1 x hx
theorem isortI_rise:∀l:List Int,(isortI l).Pairwise (·≤·)
 | []=>List.Pairwise.nil
 | a::l=>insI_rise a _ (isortI_rise l)
theorem sortI_eq (l:List Int):(l.mergeSort fun x y=>decide (x≤y))=isortI l:=by
 refine perm_uniq (le:=fun x y:Int=>x≤y) (fun a b h1 h2=>Int.le_antisymm h1 h2) _ _ ((List.mergeSort_perm _ _).trans (isortI_perm l).symm) ?_ (isortI_rise l)
 have:=List.pairwise_mergeSort (le:=fun x y:Int=>decide (x≤y)) (fun a b c h1 h2=>by simpa using Int.le_trans (by simpa using h1) (by simpa using h2)) (fun a b=>by simpa using Int.le_total a b) l
 simpa using this
theorem rowI_of {l:List Int} {i j:Nat} {t:Ab.T} (h:((rw _ (cI .i64) l)[i]?).bind (fun r=>r[j]?)=some t):j=0∧∃s,l[i]?=some s∧t=.flat (.int .i64 s):=by
 unfold rw at h
 rw [List.getElem?_map] at h
 cases hx:l[i]? with
 | none=>rw [hx] at h;cases h
 | some s=>
   rw [hx] at h
   simp only [Option.map_some,Option.bind_some,cI] at h
   cases j with
   | zero=>simp at h;exact ⟨rfl,s,rfl,h.symm⟩
   | succ j=>simp at h
theorem sortI_len (l:List Int):(isortI l).length=l.length:=(isortI_perm l).length_eq
theorem sortI_methL {P:Program} {f:FuncId} (hcall:Callable P f)
 (hC:∀(blk cap:Nat) (zs:List Int) (w:World),Holds (Value.int .i64) w blk 0 zs.toArray→blk<w.heap.size→zs.length<4611686018427387904→
  Calls P f #[.slice (some ⟨blk,0,none⟩) zs.length cap] w fun e w'=>e=.returned (.tuple #[])∧∃n os,w'=grow (putRow (Value.int .i64) (Sort.ahead w n) blk 0 (zs.mergeSort fun x y=>decide (x≤y)).toArray) os)
 (l:List Int) (hlen:l.length≤1000000000) (ty:TypeId):MethL P f ty 1 (rw _ (cI .i64) l) [] (.tup []) (rw _ (cI .i64) (isortI l)):=by
 refine ⟨hcall,fun G w b cap cargs hG hT hrow hargs=>?_⟩
 have hl:(rw _ (cI .i64) l).length=l.length:=by unfold rw;rw [List.length_map]
 have hl2:(rw _ (cI .i64) (isortI l)).length=l.length:=by unfold rw;rw [List.length_map,sortI_len]
 obtain rfl:cargs=#[]:=by have:=hargs.1;simpa using this
 generalize hrows:rw _ (cI .i64) l=rows at hrow
 cases hrow with
 | listN _ _ z hat hz=>cases hat
 | list _ _ _ b' cap' vs hat hb hGb hcap hmax hsz hes hr=>
   subst hrows
   have hat:some (Blk.at b cap 1 (rw _ (cI .i64) l).length)=some (Blk.at b' cap' 1 (rw _ (cI .i64) l).length):=hat
   cases hat
   rw [hl] at hcap ⊢
   have hblt:b<w.heap.size:=(Array.getElem?_eq_some_iff.1 hb).1
   have cell:∀j (h:j<l.length),vs[j]?=some (.int .i64 l[j]):=fun j h=>by
    obtain ⟨u,h1,h2⟩:=hr j 0 (.flat (.int .i64 l[j])) (by unfold rw;simp [h,cI])
    cases h2
    simpa using h1
   have hH:Holds (Value.int .i64) w b 0 l.toArray:=fun j hj=>by
    have hj':j<l.length:=by simpa using hj
    refine ⟨?_,?_⟩
    · have e:(Value.int .i64) l.toArray[j]! =.int .i64 l[j]:=by
       rw [getElem!_pos l.toArray j hj];simp
      rw [e,Nat.zero_add]
      simp only [World.cell?,hb]
      exact cell j hj'
    · simp [World.frozen?,hb,Nat.zero_add]
   have key:=hC b cap l w hH hblt (by omega)
   refine key.mono ?_
   rintro e w' ⟨rfl,n,os,rfl⟩
   rw [sortI_eq]
   obtain ⟨d,hd⟩:∃d,d=(isortI l).toArray:=⟨_,rfl⟩
   rw [←hd]
   have hdl:d.size=l.length:=by rw [hd,List.size_toArray,sortI_len]
   have hds:∀j (h:j<l.length),(Value.int .i64) d[j]! =.int .i64 ((isortI l)[j]'(by rw [sortI_len];exact h)):=fun j h=>by
    have h1:j<d.size:=by omega
    rw [getElem!_pos d j h1]
    subst hd
    rfl
   have hh:(grow (putRow (Value.int .i64) (Sort.ahead w n) b 0 d) os).heap[b]?=some (.cells (putCells (Value.int .i64) 0 d vs) ty (0,0)):=by
    unfold grow putRow mapBlock
    dsimp only
    rw [Array.getElem?_append_left (by simpa using hblt),Array.getElem?_modify,if_pos rfl]
    show (w.heap[b]?).map _=_
    rw [hb];rfl
   have hsz2:(putCells (Value.int .i64) 0 d vs).size=vs.size:=by unfold putCells;rw [Array.size_mapIdx]
   have hws:w.heap.size≤(grow (putRow (Value.int .i64) (Sort.ahead w n) b 0 d) os).heap.size:=by
    unfold grow putRow mapBlock
    simp
   refine ⟨⟨rfl,rfl,rfl,hws,fun k hk hne=>?_⟩,.tuple #[],rfl,hl2,?_,.tup _ _ rfl (fun i c u h=>by simp at h)⟩
   · unfold grow putRow mapBlock
     dsimp only
     rw [Array.getElem?_append_left (by simpa using hk),Array.getElem?_modify,if_neg (Ne.symm hne)]
     rfl
   · refine .list ty 1 (rw _ (cI .i64) (isortI l)) b cap (putCells (Value.int .i64) 0 d vs) (by rw [hl2];rfl) hh ?_ (by rw [hl2];exact hcap) hmax (by rw [hsz2];exact hsz) (fun row hrow=>?_) (fun i j t ht=>?_)
     · rintro (h | ⟨h1,h2⟩)
       · exact hGb h
       · omega
     · unfold rw at hrow
       obtain ⟨s,_,rfl⟩:=List.mem_map.1 hrow
       rfl
     · obtain ⟨rfl,s,hs,rfl⟩:=rowI_of ht
       obtain ⟨hi,rfl⟩:=List.getElem?_eq_some_iff.1 hs
       have hi':i<l.length:=by rwa [sortI_len] at hi
       refine ⟨_,?_,.flat _ rfl⟩
       rw [Nat.mul_one,Nat.add_zero,←hds i hi']
       have hvl:i<vs.size:=(Array.getElem?_eq_some_iff.1 (cell i hi')).1
       unfold putCells
       rw [Array.getElem?_mapIdx,Array.getElem?_eq_getElem hvl]
       simp only [Option.map_some]
       rw [if_pos ⟨Nat.zero_le _,by omega⟩,Nat.sub_zero]
theorem sortI_meth (l:List Int) (hl:l.length≤1000000000) (ty:TypeId):MethL Tryd.prog 60 ty 1 (rw _ (cI .i64) l) [] (.tup []) (rw _ (cI .i64) (isortI l)):=
 sortI_methL (Tryd.call60) (fun blk cap ss w hH hb hn=>Tryd.slices_Sort_int blk 0 cap ss w hH hb hn) l hl ty
theorem sortI_none:NoneL Tryd.prog 60 []:=by
 refine ⟨Tryd.call60,fun G w p cap cargs h=>?_⟩
 obtain rfl:cargs=#[]:=by have:=h.1;simpa using this
 exact Tryd.slices_Sort_int_none p cap w
def sortI_g (l:List Int):Option (List Int):=sortK_g isortI l
theorem sortI_L {A:Run} {W:Wd} {E:Env} (hE:dom Tryd.prog A=mkE W E) {R:RF} (hR:R=rw) {ty id:Nat} {l:List Int} {β:Type} {v:β} {X:List Int→Option β} {s:St} {K:V→St→Prop} (h:(sortI_g l).bind X=some v)
 (hrow:s.heap.getD id none=some (.list ty 1 (R _ (cI .i64) l))) (hK:∀x,X x=some v→K (.tup []) (s.setRow id (.list ty 1 (R _ (cI .i64) x)))):E.call 60 [.lst id] s K:=
 L_sortK hE hR h sortI_meth sortI_none rfl rfl hrow hK
def laysGrow_ren:Go.Shelf.Ren:=⟨fun | 4=>67 | n=>n,fun | 25=>3 | 22=>23 | 3=>3 | 4=>4 | 9=>9 | 20=>20 | 0=>0 | n=>n,fun | n=>n⟩
theorem laysGrow:Go.Proofs.Lays8.n4 Tryd.prog laysGrow_ren:={
 mixed:=by kernel_rfl
 f4:=⟨"slices.Grow[[]int,int]",by decide,Tryd.func67.trans (congrArg some (by kernel_rfl))⟩
 t0:=Tryd.underlying0
 a0:=Tryd.isAgg0
 z0:=Tryd.sizeOf0
 v0:=Tryd.zeroValue0
 t3:=Tryd.underlying3
 a3:=Tryd.isAgg3
 z3:=Tryd.sizeOf3
 v3:=Tryd.zeroValue3
 t4:=Tryd.underlying4
 a4:=Tryd.isAgg4
 z4:=Tryd.sizeOf4
 v4:=Tryd.zeroValue4
 t9:=Tryd.underlying9
 a9:=Tryd.isAgg9
 z9:=Tryd.sizeOf9
 v9:=Tryd.zeroValue9
 t20:=Tryd.underlying20
 a20:=Tryd.isAgg20
 z20:=Tryd.sizeOf20
 v20:=Tryd.zeroValue20
 t22:=Tryd.underlying23
 a22:=Tryd.isAgg23
 z22:=Tryd.sizeOf23
 v22:=Tryd.zeroValue23}
theorem growI (n:Nat) (hn:n≤1000000000):FunL Tryd.prog 67 [vNil,fI .i64 n] 3 1 []:=by
 refine ⟨Tryd.call67,fun G w cargs hG hT hargs=>?_⟩
 obtain ⟨u0,r0,rfl,hu0,hr0⟩:=hargs.uncons
 obtain ⟨u1,r1,rfl,hu1,hr1⟩:=hr0.uncons
 obtain rfl:r1=#[]:=by have:=hr1.1;simpa using this
 obtain rfl:=inv_flat hu0
 obtain rfl:=inv_flat hu1
 cases n with
 | zero=>
   refine (Any8.slices_Grow_room laysGrow none 0 0 0 w (Nat.le_refl _) (by decide) (by decide) (by decide)).mono ?_
   rintro e w' ⟨rfl,rfl⟩
   exact ⟨Below.refl _ _,⟨at0 (.nil true),G⟩,_,rfl,fun b h=>.inl h,fun b h=>h,.lstN 0 none true rfl (fun _=>rfl),.listN _ _ true rfl (fun h=>by cases h),fun b cap es len h=>by cases h⟩
 | succ n=>
   obtain ⟨ei,hei,hz,hs,hby⟩:∃ei,Tryd.prog.info? 3=some ei∧ei.zero=some (.int .i64 0)∧ei.size=1∧ei.bytes=8:=by
    have h:(Tryd.prog.info? 3).map (fun i=>(i.zero,i.size,i.bytes))=some (some (.int .i64 0),1,8):=by kernel_rfl
    cases hi:Tryd.prog.info? 3 with
    | none=>rw [hi] at h;cases h
    | some ei=>rw [hi] at h;simp at h;exact ⟨ei,rfl,h.1,h.2.1,h.2.2⟩
   refine (Any8.slices_Grow_grow laysGrow ei (.int .i64 0) hei hz (by omega) none 0 0 (n+1) [] w (Nat.le_refl _) (by omega) (by rw [hby];omega) (by omega) (by simp) (fun _=>rfl) (fun a h=>by cases h)).mono ?_
   rintro e w' ⟨rfl,rfl⟩
   obtain ⟨c,hc⟩:∃c,c=grownCap w (0+(n+1)) 0 (laysGrow_ren.t 25):=⟨_,rfl⟩
   have h1:n+1≤c:=by rw [hc];have:=grownCap_ge w (0+(n+1)) 0 (laysGrow_ren.t 25);omega
   have h2:c≤maxLen:=by rw [hc];exact grownCap_le_maxLen _ _ _ _ (by unfold maxLen;omega)
   rw [←hc]
   generalize hvs:(([]:List Value).toArray++Builtin.zeroCells (Value.int .i64 0).cells (0+(n+1)-0)++Builtin.zeroCells (Value.int .i64 0).cells (c-(0+(n+1))))=vs
   have hvsz:vs.size=c*1:=by
    rw [←hvs,Array.size_append,Array.size_append]
    unfold Builtin.zeroCells
    rw [Array.size_map,Array.size_range,Array.size_map,Array.size_range]
    simp [Value.cells]
    omega
   refine ⟨?_,⟨at0 (.at w.heap.size c 1 0),G⟩,_,rfl,fun b h=>.inl h,fun b h=>h,.lst 0 w.heap.size c 1 0 rfl,.list _ _ [] w.heap.size c vs rfl ?_ (fun h=>by have:=hG _ h;omega) (Nat.zero_le _) h2 hvsz (fun r h=>by cases h) (fun i j t h=>by simp at h),fun b cap es len h=>by cases h;exact Nat.le_refl _⟩
   · exact Below.alloc (Below.drew (Below.refl _ _)) (Nat.le_refl _) _
   · show ((w.drew.heap).push _)[w.heap.size]?=_
     have:w.drew.heap.size=w.heap.size:=rfl
     rw [←this,Array.getElem?_push_size]
     rfl
def growB (n:Int):Bool:=decide (0≤n)&&decide (n≤1000000000)
theorem L_grow {A:Run} {W:Wd} {E:Env} (hE:dom Tryd.prog A=mkE W E) {n:Int} {β:Type} {v:β} {x:Option β} {s:St} {K:V→St→Prop} (h:cond (growB n) x none=some v) (hK:x=some v→K (.lst s.heap.length) (s.push (some (.list 3 1 [])))):E.call 67 [vNil,fI .i64 n] s K:=by
 cases hb:growB n with
 | false=>rw [hb] at h;cases h
 | true=>
   rw [hb] at h
   have hK:=hK h
   simp only [growB,Bool.and_eq_true,decide_eq_true_eq] at hb
   obtain ⟨m,rfl⟩:∃m:Nat,n=m:=⟨n.toNat,by omega⟩
   show (mkE W E).call _ _ _ _
   rw [←hE]
   exact call_list (growI m (by omega)) rfl hK
end Sh
end Go.Proofs.YtbpihhelojjedaaDoor
namespace Go.Proofs.YtbpihhelojjedaaDoor
open Go Go.RowKit
open Ab Sh
namespace Gn
structure GSpots where
 Sets:List CSet
 None:Bool
 First:List Int
 Last:List Int
 Next:List (List Int)
structure Gspots_writer where
 out:GSpots
structure Gspots_part where
 first:List Int
 last:List Int
 none:Bool
end Gn
end Go.Proofs.YtbpihhelojjedaaDoor
