/- Texts that the proof leans on. -/
import Derived.Shelf.Spec.SlicesGrow
import Derived.Test.YtbpihhelojjedaaDoorK321
set_option linter.unusedVariables false
set_option linter.unusedSimpArgs false
set_option maxRecDepth 100000
set_option maxHeartbeats 4000000
namespace Go.Proofs.YtbpihhelojjedaaDoor
open Go Go.RowKit Go.Sort
open Ab
namespace Sh
def insI (a:Int):List Int→List Int
 | []=>[a]
 | b::l=>if a≤b then a::b::l else b::insI a l
def isortI:List Int→List Int
 | []=>[]
 | a::l=>insI a (isortI l)
theorem insI_perm (a:Int):∀l,(insI a l).Perm (a::l)
 | []=>List.Perm.refl _
 | b::l=>by
   unfold insI
   split
   · exact List.Perm.refl _
   · exact ((insI_perm a l).cons b).trans (List.Perm.swap a b l)
theorem isortI_perm:∀l,(isortI l).Perm l
 | []=>List.Perm.refl _
 | a::l=>(insI_perm a (isortI l)).trans ((isortI_perm l).cons a)
theorem insI_rise (a:Int):∀l:List Int,l.Pairwise (·≤·)→(insI a l).Pairwise (·≤·)
 | [],_=>by unfold insI;exact List.pairwise_singleton _ _
 | b ::l,h=>by
   have h':=List.pairwise_cons.1 h
   unfold insI
   split
   · rename_i hab
     refine List.pairwise_cons.2 ⟨fun x hx=>?_,h⟩
     rcases List.mem_cons.1 hx with e | hx
     · subst e;exact hab
     · exact Int.le_trans hab (h'.1 x hx)
   · rename_i hab
     refine List.pairwise_cons.2 ⟨fun x hx=>?_,insI_rise a l h'.2⟩
     rcases List.mem_cons.1 ((insI_perm a l).mem_iff.1 hx) with e | hx
     · subst e;omega
     · exact h'.1 x hx
theorem isortI_rise:∀l:List Int,(isortI l).Pairwise (·≤·)
 | []=>List.Pairwise.nil
 | a::l=>insI_rise a _ (isortI_rise l)
theorem sortI_eq (l:List Int):(l.mergeSort fun x y=>decide (x≤y))=isortI l:=by
 refine perm_uniq (le:=fun x y:Int=>x≤y) (fun a b h1 h2=>Int.le_antisymm h1 h2) _ _ ((List.mergeSort_perm _ _).trans (isortI_perm l).symm) ?_ (isortI_rise l)
 have:=List.pairwise_mergeSort (le:=fun x y:Int=>decide (x≤y)) (fun a b c h1 h2=>by simpa using Int.le_trans (by simpa using h1) (by simpa using h2)) (fun a b=>by simpa using Int.le_total a b) l
 simpa using this
theorem rowI_of {l:List Int} {i j:Nat} {t:Ab.T} (h:((rw _ (cI .i64) l)[i]?).bind (fun r=>r[j]?)=some t):j=0∧∃s,l[i]?=some s∧t=.flat (.int .i64 s):=by
 unfold rw at h
 rw [List.getElem?_map] at h
 cases hx:l[i]? with
 | none=>rw [hx] at h;cases h
 | some s=>
   rw [hx] at h
   simp only [Option.map_some,Option.bind_some,cI] at h
   cases j with
   | zero=>simp at h;exact ⟨rfl,s,rfl,h.symm⟩
   | succ j=>simp at h
theorem sortI_len (l:List Int):(isortI l).length=l.length:=(isortI_perm l).length_eq
theorem sortI_methL {P:Program} {f:FuncId} (hcall:Callable P f)
 (hC:∀(blk cap:Nat) (zs:List Int) (w:World),Holds (Value.int .i64) w blk 0 zs.toArray→blk<w.heap.size→zs.length<4611686018427387904→
  Calls P f #[.slice (some ⟨blk,0,none⟩) zs.length cap] w fun e w'=>e=.returned (.tuple #[])∧∃n os,w'=grow (putRow (Value.int .i64) (Sort.ahead w n) blk 0 (zs.mergeSort fun x y=>decide (x≤y)).toArray) os)
 (l:List Int) (hlen:l.length≤1000000000) (ty:TypeId):MethL P f ty 1 (rw _ (cI .i64) l) [] (.tup []) (rw _ (cI .i64) (isortI l)):=by
 refine ⟨hcall,fun G w b cap cargs hG hT hrow hargs=>?_⟩
 have hl:(rw _ (cI .i64) l).length=l.length:=by unfold rw;rw [List.length_map]
 have hl2:(rw _ (cI .i64) (isortI l)).length=l.length:=by unfold rw;rw [List.length_map,sortI_len]
 obtain rfl:cargs=#[]:=by have:=hargs.1;simpa using this
 generalize hrows:rw _ (cI .i64) l=rows at hrow
 cases hrow with
 | listN _ _ z hat hz=>cases hat
 | list _ _ _ b' cap' vs hat hb hGb hcap hmax hsz hes hr=>
   subst hrows
   have hat:some (Blk.at b cap 1 (rw _ (cI .i64) l).length)=some (Blk.at b' cap' 1 (rw _ (cI .i64) l).length):=hat
   cases hat
   rw [hl] at hcap ⊢
   have hblt:b<w.heap.size:=(Array.getElem?_eq_some_iff.1 hb).1
   have cell:∀j (h:j<l.length),vs[j]?=some (.int .i64 l[j]):=fun j h=>by
    obtain ⟨u,h1,h2⟩:=hr j 0 (.flat (.int .i64 l[j])) (by unfold rw;simp [h,cI])
    cases h2
    simpa using h1
   have hH:Holds (Value.int .i64) w b 0 l.toArray:=fun j hj=>by
    have hj':j<l.length:=by simpa using hj
    refine ⟨?_,?_⟩
    · have e:(Value.int .i64) l.toArray[j]! =.int .i64 l[j]:=by
       rw [getElem!_pos l.toArray j hj];simp
      rw [e,Nat.zero_add]
      simp only [World.cell?,hb]
      exact cell j hj'
    · simp [World.frozen?,hb,Nat.zero_add]
   have key:=hC b cap l w hH hblt (by omega)
   refine key.mono ?_
   rintro e w' ⟨rfl,n,os,rfl⟩
   rw [sortI_eq]
   obtain ⟨d,hd⟩:∃d,d=(isortI l).toArray:=⟨_,rfl⟩
   rw [←hd]
   have hdl:d.size=l.length:=by rw [hd,List.size_toArray,sortI_len]
   have hds:∀j (h:j<l.length),(Value.int .i64) d[j]! =.int .i64 ((isortI l)[j]'(by rw [sortI_len];exact h)):=fun j h=>by
    have h1:j<d.size:=by omega
    rw [getElem!_pos d j h1]
    subst hd
    rfl
   have hh:(grow (putRow (Value.int .i64) (Sort.ahead w n) b 0 d) os).heap[b]?=some (.cells (putCells (Value.int .i64) 0 d vs) ty (0,0)):=by
    unfold grow putRow mapBlock
    dsimp only
    rw [Array.getElem?_append_left (by simpa using hblt),Array.getElem?_modify,if_pos rfl]
    show (w.heap[b]?).map _=_
    rw [hb];rfl
   have hsz2:(putCells (Value.int .i64) 0 d vs).size=vs.size:=by unfold putCells;rw [Array.size_mapIdx]
   have hws:w.heap.size≤(grow (putRow (Value.int .i64) (Sort.ahead w n) b 0 d) os).heap.size:=by
    unfold grow putRow mapBlock
    simp
   refine ⟨⟨rfl,rfl,rfl,hws,fun k hk hne=>?_⟩,.tuple #[],rfl,hl2,?_,.tup _ _ rfl (fun i c u h=>by simp at h)⟩
   · unfold grow putRow mapBlock
     dsimp only
     rw [Array.getElem?_append_left (by simpa using hk),Array.getElem?_modify,if_neg (Ne.symm hne)]
     rfl
   · refine .list ty 1 (rw _ (cI .i64) (isortI l)) b cap (putCells (Value.int .i64) 0 d vs) (by rw [hl2];rfl) hh ?_ (by rw [hl2];exact hcap) hmax (by rw [hsz2];exact hsz) (fun row hrow=>?_) (fun i j t ht=>?_)
     · rintro (h | ⟨h1,h2⟩)
       · exact hGb h
       · omega
     · unfold rw at hrow
       obtain ⟨s,_,rfl⟩:=List.mem_map.1 hrow
       rfl
     · obtain ⟨rfl,s,hs,rfl⟩:=rowI_of ht
       obtain ⟨hi,rfl⟩:=List.getElem?_eq_some_iff.1 hs
       have hi':i<l.length:=by rwa [sortI_len] at hi
       refine ⟨_,?_,.flat _ rfl⟩
       rw [Nat.mul_one,Nat.add_zero,←hds i hi']
       have hvl:i<vs.size:=(Array.getElem?_eq_some_iff.1 (cell i hi')).1
       unfold putCells
       rw [Array.getElem?_mapIdx,Array.getElem?_eq_getElem hvl]
       simp only [Option.map_some]
       rw [if_pos ⟨Nat.zero_le _,by omega⟩,Nat.sub_zero]
theorem sortI_meth (l:List Int) (hl:l.length≤1000000000) (ty:TypeId):MethL Tryd.prog 60 ty 1 (rw _ (cI .i64) l) [] (.tup []) (rw _ (cI .i64) (isortI l)):=
 sortI_methL (Tryd.call60) (fun blk cap ss w hH hb hn=>Tryd.slices_Sort_int blk 0 cap ss w hH hb hn) l hl ty
theorem sortI_none:NoneL Tryd.prog 60 []:=by
 refine ⟨Tryd.call60,fun G w p cap cargs h=>?_⟩
 obtain rfl:cargs=#[]:=by have:=h.1;simpa using this
 exact Tryd.slices_Sort_int_none p cap w
def sortI_g (l:List Int):Option (List Int):=sortK_g isortI l
theorem sortI_L {A:Run} {W:Wd} {E:Env} (hE:dom Tryd.prog A=mkE W E) {R:RF} (hR:R=rw) {ty id:Nat} {l:List Int} {β:Type} {v:β} {X:List Int→Option β} {s:St} {K:V→St→Prop} (h:(sortI_g l).bind X=some v)
 (hrow:s.heap.getD id none=some (.list ty 1 (R _ (cI .i64) l))) (hK:∀x,X x=some v→K (.tup []) (s.setRow id (.list ty 1 (R _ (cI .i64) x)))):E.call 60 [.lst id] s K:=
 L_sortK hE hR h sortI_meth sortI_none rfl rfl hrow hK
def laysGrow_ren:Go.Shelf.Ren:=⟨fun | 4=>67 | n=>n,fun | 25=>3 | 22=>23 | 3=>3 | 4=>4 | 9=>9 | 20=>20 | 0=>0 | n=>n,fun | n=>n⟩
theorem laysGrow:Go.Proofs.Lays8.n4 Tryd.prog laysGrow_ren:={
 mixed:=by kernel_rfl
 f4:=⟨"slices.Grow[[]int,int]",by decide,Tryd.func67.trans (congrArg some (by kernel_rfl))⟩
 t0:=Tryd.underlying0
 a0:=Tryd.isAgg0
 z0:=Tryd.sizeOf0
 v0:=Tryd.zeroValue0
 t3:=Tryd.underlying3
 a3:=Tryd.isAgg3
 z3:=Tryd.sizeOf3
 v3:=Tryd.zeroValue3
 t4:=Tryd.underlying4
 a4:=Tryd.isAgg4
 z4:=Tryd.sizeOf4
 v4:=Tryd.zeroValue4
 t9:=Tryd.underlying9
 a9:=Tryd.isAgg9
 z9:=Tryd.sizeOf9
 v9:=Tryd.zeroValue9
 t20:=Tryd.underlying20
 a20:=Tryd.isAgg20
 z20:=Tryd.sizeOf20
 v20:=Tryd.zeroValue20
 t22:=Tryd.underlying23
 a22:=Tryd.isAgg23
 z22:=Tryd.sizeOf23
 v22:=Tryd.zeroValue23}
theorem growI (n:Nat) (hn:n≤1000000000):FunL Tryd.prog 67 [vNil,fI .i64 n] 3 1 []:=by
 refine ⟨Tryd.call67,fun G w cargs hG hT hargs=>?_⟩
 obtain ⟨u0,r0,rfl,hu0,hr0⟩:=hargs.uncons
 obtain ⟨u1,r1,rfl,hu1,hr1⟩:=hr0.uncons
 obtain rfl:r1=#[]:=by have:=hr1.1;simpa using this
 obtain rfl:=inv_flat hu0
 obtain rfl:=inv_flat hu1
 cases n with
 | zero=>
   refine (Any8.slices_Grow_room laysGrow none 0 0 0 w (Nat.le_refl _) (by decide) (by decide) (by decide)).mono ?_
   rintro e w' ⟨rfl,rfl⟩
   exact ⟨Below.refl _ _,⟨at0 (.nil true),G⟩,_,rfl,fun b h=>.inl h,fun b h=>h,.lstN 0 none true rfl (fun _=>rfl),.listN _ _ true rfl (fun h=>by cases h),fun b cap es len h=>by cases h⟩
 | succ n=>
   obtain ⟨ei,hei,hz,hs,hby⟩:∃ei,Tryd.prog.info? 3=some ei∧ei.zero=some (.int .i64 0)∧ei.size=1∧ei.bytes=8:=by
    have h:(Tryd.prog.info? 3).map (fun i=>(i.zero,i.size,i.bytes))=some (some (.int .i64 0),1,8):=by kernel_rfl
    cases hi:Tryd.prog.info? 3 with
    | none=>rw [hi] at h;cases h
    | some ei=>rw [hi] at h;simp at h;exact ⟨ei,rfl,h.1,h.2.1,h.2.2⟩
   refine (Any8.slices_Grow_grow laysGrow ei (.int .i64 0) hei hz (by omega) none 0 0 (n+1) [] w (Nat.le_refl _) (by omega) (by rw [hby];omega) (by omega) (by simp) (fun _=>rfl) (fun a h=>by cases h)).mono ?_
   rintro e w' ⟨rfl,rfl⟩
   obtain ⟨c,hc⟩:∃c,c=grownCap w (0+(n+1)) 0 (laysGrow_ren.t 25):=⟨_,rfl⟩
   have h1:n+1≤c:=by rw [hc];have:=grownCap_ge w (0+(n+1)) 0 (laysGrow_ren.t 25);omega
   have h2:c≤maxLen:=by rw [hc];exact grownCap_le_maxLen _ _ _ _ (by unfold maxLen;omega)
   rw [←hc]
   generalize hvs:(([]:List Value).toArray++Builtin.zeroCells (Value.int .i64 0).cells (0+(n+1)-0)++Builtin.zeroCells (Value.int .i64 0).cells (c-(0+(n+1))))=vs
   have hvsz:vs.size=c*1:=by
    rw [←hvs,Array.size_append,Array.size_append]
    unfold Builtin.zeroCells
    rw [Array.size_map,Array.size_range,Array.size_map,Array.size_range]
    simp [Value.cells]
    omega
   refine ⟨?_,⟨at0 (.at w.heap.size c 1 0),G⟩,_,rfl,fun b h=>.inl h,fun b h=>h,.lst 0 w.heap.size c 1 0 rfl,.list _ _ [] w.heap.size c vs rfl ?_ (fun h=>by have:=hG _ h;omega) (Nat.zero_le _) h2 hvsz (fun r h=>by cases h) (fun i j t h=>by simp at h),fun b cap es len h=>by cases h;exact Nat.le_refl _⟩
   · exact Below.alloc (Below.drew (Below.refl _ _)) (Nat.le_refl _) _
   · show ((w.drew.heap).push _)[w.heap.size]?=_
     have:w.drew.heap.size=w.heap.size:=rfl
     rw [←this,Array.getElem?_push_size]
     rfl
def growB (n:Int):Bool:=decide (0≤n)&&decide (n≤1000000000)
theorem L_grow {A:Run} {W:Wd} {E:Env} (hE:dom Tryd.prog A=mkE W E) {n:Int} {β:Type} {v:β} {x:Option β} {s:St} {K:V→St→Prop} (h:cond (growB n) x none=some v) (hK:x=some v→K (.lst s.heap.length) (s.push (some (.list 3 1 [])))):E.call 67 [vNil,fI .i64 n] s K:=by
 cases hb:growB n with
 | false=>rw [hb] at h;cases h
 | true=>
   rw [hb] at h
   have hK:=hK h
   simp only [growB,Bool.and_eq_true,decide_eq_true_eq] at hb
   obtain ⟨m,rfl⟩:∃m:Nat,n=m:=⟨n.toNat,by omega⟩
   show (mkE W E).call _ _ _ _
   rw [←hE]
   exact call_list (growI m (by omega)) rfl hK
end Sh
end Go.Proofs.YtbpihhelojjedaaDoor
namespace Go.Proofs.YtbpihhelojjedaaDoor
open Go Go.RowKit
open Ab Sh
namespace Gn
structure GSpots where
 Sets:List CSet
 None:Bool
 First:List Int
 Last:List Int
 Next:List (List Int)
structure Gspots_writer where
 out:GSpots
structure Gspots_part where
 first:List Int
 last:List Int
 none:Bool
end Gn
end Go.Proofs.YtbpihhelojjedaaDoor
namespace Go.Proofs.YtbpihhelojjedaaDoor
open Go Go.RowKit
open Ab Sh
namespace Gn
def spots_rising_s (R:RF) (r:Bool):V:=fB r
def spots_rising_l1 (p0:List Int) (p1:Int):Nat→Int→Int→Option Bool
| 0,_,_=>none
| m+1,v1,v2=>
 cond (cm .lss v2 (ll (rw _ (cI .i64) p0)))
 ((at_ p0 v2).bind fun r3=>
 (cond (cm .leq r3 v1)
 (some true)
 (some (cm .geq r3 p1)):Option Bool).bind fun j2=>
 cond (j2)
 (some false)
 ((spots_rising_l1 p0 p1 m) r3 (ar .add .i64 v2 1)))
 (some true)
def spots_rising_g (N:Nat) (p0:List Int) (p1:Int):Option Bool:=
 spots_rising_l1 p0 p1 N (-1) 0
def spots_Right_s (R:RF) (r:Bool):V:=fB r
def spots_Right_l3 (N:Nat) (p0:GSpots):Nat→Int→Option Bool
| 0,_=>none
| m+1,v3=>
 cond (cm .lss v3 (ll (rw _ (cLs (cI .i64)) p0.Next)))
 ((at_ p0.Next v3).bind fun r4=>
 (spots_rising_g N r4 (ll (rw _ cSet p0.Sets))).bind fun a5=>
 cond (!a5)
 (some (!(cm .geq v3 0)))
 ((spots_Right_l3 N p0 m) (ar .add .i64 v3 1)))
 (some (!(cm .geq (-1) 0)))
def spots_Right_g (N:Nat) (p0:GSpots):Option Bool:=
 (cond (cm .gtr (ll (rw _ cSet p0.Sets)) 512)
 (some true)
 (cond (cm .neq (ll (rw _ (cLs (cI .i64)) p0.Next)) (ll (rw _ cSet p0.Sets)))
 (some true)
 ((spots_rising_g N p0.First (ll (rw _ cSet p0.Sets))).bind fun a1=>
 cond (!a1)
 (some true)
 ((spots_rising_g N p0.Last (ll (rw _ cSet p0.Sets))).bind fun a2=>
 some !a2))):Option Bool).bind fun j1=>
 cond (j1)
 (some false)
 (spots_Right_l3 N p0 N 0)
def spots_Match_s (R:RF) (r:Bool):V:=fB r
def spots_Match_l5 (p0:GSpots) (v5:List Bool):Nat→Int→Option Bool
| 0,_=>none
| m+1,v14=>
 cond (cm .lss v14 (ll (rw _ (cI .i64) p0.Last)))
 ((at_ p0.Last v14).bind fun r15=>
 (at_ v5 r15).bind fun r16=>
 (at_ v5 r15).bind fun r17=>
 cond (r17)
 (some (cm .geq v14 0))
 ((spots_Match_l5 p0 v5 m) (ar .add .i64 v14 1)))
 (some (cm .geq (-1) 0))
def spots_Match_l8 (k7:Int→List Bool→Option Bool) (v19:Int) (r23:List Int):Nat→Int→List Bool→Option Bool
| 0,_,_=>none
| m+1,v24,v25=>
 cond (cm .lss v24 (ll (rw _ (cI .i64) r23)))
 ((at_ r23 v24).bind fun r26=>
 (at_ v25 r26).bind fun r27=>
 (at_ v25 r26).bind fun r28=>
 put cB v25 r26 true fun l29=>
 (spots_Match_l8 k7 v19 r23 m) (ar .add .i64 v24 1) l29)
 (k7 (ar .add .i64 v19 1) v25)
def spots_Match_l13 (p0:GSpots) (v40:List Bool):Nat→Int→Option Bool
| 0,_=>none
| m+1,v50=>
 cond (cm .lss v50 (ll (rw _ (cI .i64) p0.Last)))
 ((at_ p0.Last v50).bind fun r51=>
 (at_ v40 r51).bind fun r52=>
 (at_ v40 r51).bind fun r53=>
 cond (r53)
 (some (cm .geq v50 0))
 ((spots_Match_l13 p0 v40 m) (ar .add .i64 v50 1)))
 (some (cm .geq (-1) 0))
def spots_Match_l16 (k15:Int→List Bool→Option Bool) (r59:List Int) (v55:Int):Nat→Int→List Bool→Option Bool
| 0,_,_=>none
| m+1,v60,v61=>
 cond (cm .lss v60 (ll (rw _ (cI .i64) r59)))
 ((at_ r59 v60).bind fun r62=>
 (at_ v61 r62).bind fun r63=>
 (at_ v61 r62).bind fun r64=>
 put cB v61 r62 true fun l65=>
 (spots_Match_l16 k15 r59 v55 m) (ar .add .i64 v60 1) l65)
 (k15 (ar .add .i64 v55 1) v61)
def spots_Match_l17 (k1:Int→List Bool→List Int→Option Bool) (v35:Int) (v40:List Bool) (v56:List Bool):Nat→Int→List Int→Option Bool
| 0,_,_=>none
| m+1,v66,v67=>
 cond (cm .lss v66 (ll (rw _ cB v56)))
 ((at_ v56 v66).bind fun r68=>
 (at_ v56 v66).bind fun r69=>
 (cond (r69)
 ((app (cI .i64) v67 [v66]).bind fun l70=>
 some l70)
 (some v67):Option (List Int)).bind fun j630=>
 (spots_Match_l17 k1 v35 v40 v56 m) (ar .add .i64 v66 1) j630)
 (k1 (ar .add .i64 v35 1) v40 v67)
def spots_Match_l15 (N:Nat) (k1:Int→List Bool→List Int→Option Bool) (p0:GSpots) (v35:Int) (v40:List Bool) (v41:List Int):Nat→Int→List Bool→Option Bool
| 0,_,_=>none
| m+1,v55,v56=>
 cond (cm .lss v55 (ll (rw _ (cI .i64) v41)))
 ((at_ v41 v55).bind fun r57=>
 (at_ v41 v55).bind fun r58=>
 (at_ p0.Next r58).bind fun r59=>
 spots_Match_l16 (spots_Match_l15 N k1 p0 v35 v40 v41 m) r59 v55 N 0 v56)
 (spots_Match_l17 k1 v35 v40 v56 N 0 [])
def spots_Match_l10 (N:Nat) (k1:Int→List Bool→List Int→Option Bool) (p0:GSpots) (p1:ByteArray) (v37:List Int) (v35:Int):Nat→Int→List Bool→List Int→Option Bool
| 0,_,_,_=>none
| m+1,v39,v40,v41=>
 cond (cm .lss v39 (ll (rw _ (cI .i64) v37)))
 ((at_ v37 v39).bind fun r42=>
 (at_ v37 v39).bind fun r43=>
 (at_ p0.Sets r43).bind fun r44=>
 cond (sinB p1 v35) ((charset_Has_g r44 (sa p1 v35)).bind fun a45=>
 (cond (a45)
 ((at_ v40 r43).bind fun r46=>
 (at_ v40 r43).bind fun r47=>
 put cB v40 r43 true fun l48=>
 (app (cI .i64) v41 [r43]).bind fun l49=>
 some (l48,l49))
 (some (v40,v41)):Option ((List Bool)×(List Int))).bind fun j626=>
 (spots_Match_l10 N k1 p0 p1 v37 v35 m) (ar .add .i64 v39 1) j626.1 j626.2) none)
 (cond (cm .eql v35 (ar .sub .i64 (sl p1) 1))
 (spots_Match_l13 p0 v40 N 0)
 ((zro cB false (ll (rw _ cB v40)) (ll (rw _ cB v40))).bind fun l54=>
 spots_Match_l15 N k1 p0 v35 v40 v41 N 0 l54))
def spots_Match_l20 (p0:GSpots) (v36:List Bool):Nat→Int→Option Bool
| 0,_=>none
| m+1,v71=>
 cond (cm .lss v71 (ll (rw _ (cI .i64) p0.Last)))
 ((at_ p0.Last v71).bind fun r72=>
 (at_ v36 r72).bind fun r73=>
 (at_ v36 r72).bind fun r74=>
 cond (r74)
 (some (cm .geq v71 0))
 ((spots_Match_l20 p0 v36 m) (ar .add .i64 v71 1)))
 (some (cm .geq (-1) 0))
def spots_Match_l1 (N:Nat) (p0:GSpots) (p1:ByteArray):Nat→Int→List Bool→List Int→Option Bool
| 0,_,_,_=>none
| m+1,v35,v36,v37=>
 cond (cm .lss v35 (sl p1))
 ((some (List.replicate v36.length false)).bind fun l38=>
 spots_Match_l10 N (spots_Match_l1 N p0 p1 m) p0 p1 v37 v35 N 0 l38 [])
 (spots_Match_l20 p0 v36 N 0)
def spots_Match_l9 (N:Nat) (p0:GSpots) (p1:ByteArray) (v20:List Bool) (v5:List Bool):Nat→Int→List Int→Option Bool
| 0,_,_=>none
| m+1,v30,v31=>
 cond (cm .lss v30 (ll (rw _ cB v20)))
 ((at_ v20 v30).bind fun r32=>
 (at_ v20 v30).bind fun r33=>
 (cond (r33)
 ((app (cI .i64) v31 [v30]).bind fun l34=>
 some l34)
 (some v31):Option (List Int)).bind fun j566=>
 (spots_Match_l9 N p0 p1 v20 v5 m) (ar .add .i64 v30 1) j566)
 (spots_Match_l1 N p0 p1 N (ar .add .i64 0 1) v5 v31)
def spots_Match_l7 (N:Nat) (p0:GSpots) (p1:ByteArray) (v6:List Int) (v5:List Bool):Nat→Int→List Bool→Option Bool
| 0,_,_=>none
| m+1,v19,v20=>
 cond (cm .lss v19 (ll (rw _ (cI .i64) v6)))
 ((at_ v6 v19).bind fun r21=>
 (at_ v6 v19).bind fun r22=>
 (at_ p0.Next r22).bind fun r23=>
 spots_Match_l8 (spots_Match_l7 N p0 p1 v6 v5 m) v19 r23 N 0 v20)
 (spots_Match_l9 N p0 p1 v20 v5 N 0 [])
def spots_Match_l2 (N:Nat) (p0:GSpots) (p1:ByteArray):Nat→Int→List Bool→List Int→Option Bool
| 0,_,_,_=>none
| m+1,v4,v5,v6=>
 cond (cm .lss v4 (ll (rw _ (cI .i64) p0.First)))
 ((at_ p0.First v4).bind fun r7=>
 (at_ p0.Sets r7).bind fun r8=>
 cond (sinB p1 0) ((charset_Has_g r8 (sa p1 0)).bind fun a9=>
 (cond (a9)
 ((at_ v5 r7).bind fun r10=>
 (at_ v5 r7).bind fun r11=>
 put cB v5 r7 true fun l12=>
 (app (cI .i64) v6 [r7]).bind fun l13=>
 some (l12,l13))
 (some (v5,v6)):Option ((List Bool)×(List Int))).bind fun j370=>
 (spots_Match_l2 N p0 p1 m) (ar .add .i64 v4 1) j370.1 j370.2) none)
 (cond (cm .eql 0 (ar .sub .i64 (sl p1) 1))
 (spots_Match_l5 p0 v5 N 0)
 ((zro cB false (ll (rw _ cB v5)) (ll (rw _ cB v5))).bind fun l18=>
 spots_Match_l7 N p0 p1 v6 v5 N 0 l18))
def spots_Match_l24 (p0:GSpots) (l2:List Bool):Nat→Int→Option Bool
| 0,_=>none
| m+1,v75=>
 cond (cm .lss v75 (ll (rw _ (cI .i64) p0.Last)))
 ((at_ p0.Last v75).bind fun r76=>
 (at_ l2 r76).bind fun r77=>
 (at_ l2 r76).bind fun r78=>
 cond (r78)
 (some (cm .geq v75 0))
 ((spots_Match_l24 p0 l2 m) (ar .add .i64 v75 1)))
 (some (cm .geq (-1) 0))
def spots_Match_g (N:Nat) (p0:GSpots) (p1:ByteArray):Option Bool:=
 (spots_Right_g N p0).bind fun a1=>
 cond (!a1)
 (some false)
 (cond (sc .eql p1 ByteArray.empty)
 (some p0.None)
 ((zro cB false (ll (rw _ cSet p0.Sets)) (ll (rw _ cSet p0.Sets))).bind fun l2=>
 cond (cm .lss 0 (sl p1))
 ((some (List.replicate l2.length false)).bind fun l3=>
 spots_Match_l2 N p0 p1 N 0 l3 [])
 (spots_Match_l24 p0 l2 N 0)))
def regex_times_s (R:RF) (r:Bool):V:=fB r
def regex_times_g (p0:Int) (p1:Int):Option Bool:=
 (cond (cm .lss p0 0)
 (some true)
 (some (cm .gtr p0 16)):Option Bool).bind fun j1=>
 cond (j1)
 (some false)
 ((cond (cm .eql p1 (-1))
 (some true)
 (cond (cm .geq p1 (mx p0 1))
 (some (cm .leq p1 16))
 (some false)):Option Bool).bind fun j2=>
 some j2)
def regex_Right_s (R:RF) (r:Bool):V:=fB r
def regex_Right_l1 (rec:Node→Option Bool) (p0:Node):Nat→Int→Option Bool
| 0,_=>none
| m+1,v1=>
 cond (cm .lss v1 (ll (rw _ nodeRow p0.kids)))
 ((at_ p0.kids v1).bind fun r2=>
 ((rec r2).bind fun a3=>
 cond (!a3)
 (some true)
 (cond (cm .eql r2.kind p0.kind)
 (some (cm .neq p0.kind 4))
 (some false)):Option Bool).bind fun j4=>
 cond (j4)
 (some false)
 ((regex_Right_l1 rec p0 m) (ar .add .i64 v1 1)))
 ((cond (cm .neq p0.kind 1)
 (cond (!(conj [cm .eql (p0.set.a.toNat:Int) 0,cm .eql (p0.set.b.toNat:Int) 0,cm .eql (p0.set.c.toNat:Int) 0,cm .eql (p0.set.d.toNat:Int) 0]))
 (some true)
 (cond (cm .neq p0.kind 4)
 (cond (cm .neq p0.min 0)
 (some true)
 (some (cm .neq p0.max 0)))
 (some false)))
 (cond (cm .neq p0.kind 4)
 (cond (cm .neq p0.min 0)
 (some true)
 (some (cm .neq p0.max 0)))
 (some false)):Option Bool).bind fun j5=>
 cond (j5)
 (some false)
 (cond (cm .eql p0.kind 1)
 (some (cm .eql (ll (rw _ nodeRow p0.kids)) 0))
 (cond (cm .eql p0.kind 2)
 (some (cm .neq (ll (rw _ nodeRow p0.kids)) 1))
 (cond (cm .eql p0.kind 3)
 (some (cm .gtr (ll (rw _ nodeRow p0.kids)) 1))
 (cond (cm .eql p0.kind 4)
 ((cond (cm .eql (ll (rw _ nodeRow p0.kids)) 1)
 ((regex_times_g p0.min p0.max).bind fun a4=>
 some a4)
 (some false):Option Bool).bind fun j6=>
 some j6)
 (some false))))))
def regex_Right_g:Nat→Node→Option Bool
| 0=>fun _=>none
| N+1=>fun p0=>
 regex_Right_l1 (regex_Right_g N) p0 N 0
def spots_count_s (R:RF) (r:Int):V:=fI .i64 r
def spots_count_l1 (rec:Node→Option Int) (p0:Node):Nat→Int→Int→Option Int
| 0,_,_=>none
| m+1,v1,v2=>
 cond (cm .lss v2 (ll (rw _ nodeRow p0.kids)))
 ((at_ p0.kids v2).bind fun r3=>
 (rec r3).bind fun a4=>
 (spots_count_l1 rec p0 m) (mi (ar .add .i64 v1 a4) 513) (ar .add .i64 v2 1))
 (cond (cm .neq p0.kind 4)
 (some v1)
 (cond (cm .eql p0.max (-1))
 (some (mi (ar .mul .i64 v1 (ar .add .i64 p0.min 1)) 513))
 (some (mi (ar .mul .i64 v1 p0.max) 513))))
def spots_count_g:Nat→Node→Option Int
| 0=>fun _=>none
| N+1=>fun p0=>
 cond (cm .eql p0.kind 1)
 (some 1)
 (spots_count_l1 (spots_count_g N) p0 N 0 0)
def slices_ConcatI_l2 (p0:List (List Int)):Nat→Int→List Int→Option (List Int)
| 0,_,_=>none
| m+1,v4,v5=>
 cond (cm .lss v4 (ll (rw _ (cLs (cI .i64)) p0)))
 ((at_ p0 v4).bind fun r6=>
 (app (cI .i64) v5 r6).bind fun l7=>
 (slices_ConcatI_l2 p0 m) (ar .add .i64 v4 1) l7)
 (some v5)
def slices_ConcatI_l1 (N:Nat) (p0:List (List Int)):Nat→Int→Int→Option (List Int)
| 0,_,_=>none
| m+1,v1,v2=>
 cond (cm .lss v2 (ll (rw _ (cLs (cI .i64)) p0)))
 ((at_ p0 v2).bind fun r3=>
 cond (cm .lss (ar .add .i64 v1 (ll (rw _ (cI .i64) r3))) 0)
 (none)
 ((slices_ConcatI_l1 N p0 m) (ar .add .i64 v1 (ll (rw _ (cI .i64) r3))) (ar .add .i64 v2 1)))
 (cond (growB v1) (slices_ConcatI_l2 p0 N 0 []) none)
def slices_ConcatI_g (N:Nat) (p0:List (List Int)):Option (List Int):=
 slices_ConcatI_l1 N p0 N 0 0
def spots_merge_s (R:RF) (r:List Int):V:=.t (.slc (R _ (cI .i64) r))
def spots_merge_l3 (v3:Int):Nat→Int→Int→List Int→Option (List Int)
| 0,_,_,_=>none
| m+1,v8,v9,v10=>
 cond (winB v10 v3) (cond (cm .lss v9 (ar .sub .i64 (ll (rw _ (cI .i64) v10)) v3))
 (cond (wrowB v10 v3 v9) ((at_ v10 (ar .add .i64 v3 v9)).bind fun r11=>
 cond (wrowB v10 v3 (ar .sub .i64 v9 1)) ((at_ v10 (ar .add .i64 v3 (ar .sub .i64 v9 1))).bind fun r12=>
 (cond (cm .neq r11 r12)
 (cond (wrowB v10 v3 v9) ((at_ v10 (ar .add .i64 v3 v9)).bind fun r13=>
 (at_ v10 v8).bind fun r14=>
 (at_ v10 v8).bind fun r15=>
 put (cI .i64) v10 v8 r13 fun l16=>
 some (ar .add .i64 v8 1,l16)) none)
 (some (v8,v10)):Option (Int ×(List Int))).bind fun j2=>
 (spots_merge_l3 v3 m) j2.1 (ar .add .i64 v9 1) j2.2) none) none)
 (cond (winB v10 v8) ((clr (cI .i64) 0 v10 v8).bind fun l17=>
 (cut (cI .i64) l17 v8).bind fun l18=>
 some l18) none)) none
def spots_merge_l2 (N:Nat) (l2:List Int):Nat→Int→Option (List Int)
| 0,_=>none
| m+1,v3=>
 cond (cm .lss v3 (ll (rw _ (cI .i64) l2)))
 ((at_ l2 v3).bind fun r4=>
 (at_ l2 v3).bind fun r5=>
 (at_ l2 (ar .sub .i64 v3 1)).bind fun r6=>
 (at_ l2 (ar .sub .i64 v3 1)).bind fun r7=>
 cond (cm .eql r5 r7)
 (cond (winB l2 v3) (spots_merge_l3 v3 N v3 1 l2) none)
 ((spots_merge_l2 N l2 m) (ar .add .i64 v3 1)))
 (some l2)
def spots_merge_g (N:Nat) (p0:List Int) (p1:List Int):Option (List Int):=
 (slices_ConcatI_g N [p0,p1]).bind fun l1=>
 (sortI_g l1).bind fun l2=>
 cond (cm .lss (ll (rw _ (cI .i64) l2)) 2)
 (some l2)
 (spots_merge_l2 N l2 N 1)
def spots_writer_next_s (R:RF) (r:Gspots_writer):V:=.tup []
def spots_writer_next_t (R:RF) (r:Gspots_writer):List Row:=[.box 59 [.lst 1,fB r.out.None,.t (.slc (R _ (cI .i64) r.out.First)),.t (.slc (R _ (cI .i64) r.out.Last)),.lst 2],.list 32 4 (R _ cSet r.out.Sets),.list 23 1 (R _ (cLs (cI .i64)) r.out.Next)]
def spots_writer_next_l1 (N:Nat) (p1:List Int) (p2:List Int) (s0:Gspots_writer):Nat→Int→List (List Int)→Option Gspots_writer
| 0,_,_=>none
| m+1,v1,v2=>
 cond (cm .lss v1 (ll (rw _ (cI .i64) p1)))
 ((at_ p1 v1).bind fun r3=>
 (at_ v2 r3).bind fun r4=>
 (at_ v2 r3).bind fun r5=>
 (spots_merge_g N r5 p2).bind fun a6=>
 (at_ v2 r3).bind fun r7=>
 (at_ v2 r3).bind fun r8=>
 put (cLs (cI .i64)) v2 r3 a6 fun l9=>
 (spots_writer_next_l1 N p1 p2 s0 m) (ar .add .i64 v1 1) l9)
 (some (⟨(⟨s0.out.Sets,s0.out.None,s0.out.First,s0.out.Last,v2⟩:GSpots)⟩:Gspots_writer))
def spots_writer_next_g (N:Nat) (p1:List Int) (p2:List Int) (s0:Gspots_writer):Option Gspots_writer:=
 spots_writer_next_l1 N p1 p2 s0 N 0 s0.out.Next
def spots_writer_behind_s (R:RF) (r:Gspots_part × Gspots_writer):V:=.agg [.t (.slc (R _ (cI .i64) r.1.first)),.t (.slc (R _ (cI .i64) r.1.last)),fB r.1.none]
def spots_writer_behind_t (R:RF) (r:Gspots_part × Gspots_writer):List Row:=[.box 59 [.lst 1,fB r.2.out.None,.t (.slc (R _ (cI .i64) r.2.out.First)),.t (.slc (R _ (cI .i64) r.2.out.Last)),.lst 2],.list 32 4 (R _ cSet r.2.out.Sets),.list 23 1 (R _ (cLs (cI .i64)) r.2.out.Next)]
def spots_writer_behind_g (N:Nat) (p1:Gspots_part) (p2:Gspots_part) (s0:Gspots_writer):Option (Gspots_part × Gspots_writer):=
 (spots_writer_next_g N p1.last p2.first s0).bind fun a1=>
 cond (p1.none)
 (cond (p1.none)
 ((spots_merge_g N p1.first p2.first).bind fun a2=>
 (cond (p2.none)
 ((spots_merge_g N p1.last p2.last).bind fun a3=>
 some a3)
 (some p2.last):Option (List Int)).bind fun j1=>
 some ((⟨a2,j1,p2.none⟩:Gspots_part),a1))
 (none))
 (cond (p1.none)
 (none)
 ((cond (p2.none)
 ((spots_merge_g N p1.last p2.last).bind fun a4=>
 some a4)
 (some p2.last):Option (List Int)).bind fun j2=>
 some ((⟨p1.first,j2,false⟩:Gspots_part),a1)))
def spots_writer_often_1_s (R:RF) (r:Gspots_part × Gspots_writer):V:=.agg [.t (.slc (R _ (cI .i64) r.1.first)),.t (.slc (R _ (cI .i64) r.1.last)),fB r.1.none]
def spots_writer_often_1_t (s2:Node) (R:RF) (r:Gspots_part × Gspots_writer):List Row:=[.box 59 [.lst 1,fB r.2.out.None,.t (.slc (R _ (cI .i64) r.2.out.First)),.t (.slc (R _ (cI .i64) r.2.out.Last)),.lst 2],.list 32 4 (R _ cSet r.2.out.Sets),.list 23 1 (R _ (cLs (cI .i64)) r.2.out.Next),.box 78 [.ptr 0 0],.box 35 [fI .i64 s2.kind,fI .u64 (s2.set.a.toNat:Int),fI .u64 (s2.set.b.toNat:Int),fI .u64 (s2.set.c.toNat:Int),fI .u64 (s2.set.d.toNat:Int),.t (.slc (R _ nodeRow s2.kids)),fI .i64 s2.min,fI .i64 s2.max],.box 93 [.fn 63 [.ptr 3 0,.ptr 4 0,.ptr 5 0]]]
def spots_writer_often_s (R:RF) (r:Gspots_part × Gspots_writer):V:=.agg [.t (.slc (R _ (cI .i64) r.1.first)),.t (.slc (R _ (cI .i64) r.1.last)),fB r.1.none]
def spots_writer_often_t (R:RF) (r:Gspots_part × Gspots_writer):List Row:=[.box 59 [.lst 1,fB r.2.out.None,.t (.slc (R _ (cI .i64) r.2.out.First)),.t (.slc (R _ (cI .i64) r.2.out.Last)),.lst 2],.list 32 4 (R _ cSet r.2.out.Sets),.list 23 1 (R _ (cLs (cI .i64)) r.2.out.Next)]
def spots_writer_often_l1 (rec_spots_writer_write:Node→Gspots_writer→Option (Gspots_part × Gspots_writer)) (rec_spots_writer_often_1:Int→Gspots_writer→Node→Option (Gspots_part × Gspots_writer)) (N:Nat) (p1:Node) (r1:Node):Nat→Int→Bool→List Int→List Int→List CSet→List (List Int)→List Int→List Int→Bool→Option (Gspots_part × Gspots_writer)
| 0,_,_,_,_,_,_,_,_,_=>none
| m+1,v3,v4,v5,v6,v7,v8,v9,v10,v11=>
 cond (cm .lss v3 p1.min)
 ((rec_spots_writer_write r1 (⟨(⟨v7,v4,v5,v6,v8⟩:GSpots)⟩:Gspots_writer)).bind fun a12=>
 (spots_writer_behind_g N (⟨v9,v10,v11⟩:Gspots_part) a12.1 a12.2).bind fun a13=>
 (spots_writer_often_l1 rec_spots_writer_write rec_spots_writer_often_1 N p1 r1 m) (ar .add .i64 v3 1) a13.2.out.None a13.2.out.First a13.2.out.Last a13.2.out.Sets a13.2.out.Next a13.1.first a13.1.last a13.1.none)
 (cond (cm .eql p1.max (-1))
 ((rec_spots_writer_write r1 (⟨(⟨v7,v4,v5,v6,v8⟩:GSpots)⟩:Gspots_writer)).bind fun a14=>
 (spots_writer_next_g N a14.1.last a14.1.first a14.2).bind fun a15=>
 (spots_writer_behind_g N (⟨v9,v10,v11⟩:Gspots_part) (⟨a14.1.first,a14.1.last,true⟩:Gspots_part) a15).bind fun a16=>
 some (a16.1,a16.2))
 ((rec_spots_writer_often_1 (ar .sub .i64 p1.max p1.min) (⟨(⟨v7,v4,v5,v6,v8⟩:GSpots)⟩:Gspots_writer) r1).bind fun a17=>
 (spots_writer_behind_g N (⟨v9,v10,v11⟩:Gspots_part) a17.1 a17.2).bind fun a18=>
 some (a18.1,a18.2)))
def spots_writer_write_s (R:RF) (r:Gspots_part × Gspots_writer):V:=.agg [.t (.slc (R _ (cI .i64) r.1.first)),.t (.slc (R _ (cI .i64) r.1.last)),fB r.1.none]
def spots_writer_write_t (R:RF) (r:Gspots_part × Gspots_writer):List Row:=[.box 59 [.lst 1,fB r.2.out.None,.t (.slc (R _ (cI .i64) r.2.out.First)),.t (.slc (R _ (cI .i64) r.2.out.Last)),.lst 2],.list 32 4 (R _ cSet r.2.out.Sets),.list 23 1 (R _ (cLs (cI .i64)) r.2.out.Next)]
def spots_writer_write_l1 (rec_spots_writer_write:Node→Gspots_writer→Option (Gspots_part × Gspots_writer)) (N:Nat) (p1:Node):Nat→Int→Bool→List Int→List Int→List CSet→List (List Int)→List Int→List Int→Bool→Option (Gspots_part × Gspots_writer)
| 0,_,_,_,_,_,_,_,_,_=>none
| m+1,v3,v4,v5,v6,v7,v8,v9,v10,v11=>
 cond (cm .lss v3 (ll (rw _ nodeRow p1.kids)))
 ((at_ p1.kids v3).bind fun r12=>
 (rec_spots_writer_write r12 (⟨(⟨v7,v4,v5,v6,v8⟩:GSpots)⟩:Gspots_writer)).bind fun a13=>
 (spots_merge_g N v9 a13.1.first).bind fun a14=>
 (spots_merge_g N v10 a13.1.last).bind fun a15=>
 cond (v11)
 (cond (v11)
 (cond (v11)
 ((spots_writer_write_l1 rec_spots_writer_write N p1 m) (ar .add .i64 v3 1) a13.2.out.None a13.2.out.First a13.2.out.Last a13.2.out.Sets a13.2.out.Next a14 a15 true)
 (none))
 (none))
 (cond (v11)
 (none)
 (cond (v11)
 (none)
 ((spots_writer_write_l1 rec_spots_writer_write N p1 m) (ar .add .i64 v3 1) a13.2.out.None a13.2.out.First a13.2.out.Last a13.2.out.Sets a13.2.out.Next a14 a15 a13.1.none))))
 (some ((⟨v9,v10,v11⟩:Gspots_part),(⟨(⟨v7,v4,v5,v6,v8⟩:GSpots)⟩:Gspots_writer)))
def spots_writer_write_l2 (rec_spots_writer_write:Node→Gspots_writer→Option (Gspots_part × Gspots_writer)) (N:Nat) (p1:Node):Nat→Int→Bool→List Int→List Int→List CSet→List (List Int)→List Int→List Int→Bool→Option (Gspots_part × Gspots_writer)
| 0,_,_,_,_,_,_,_,_,_=>none
| m+1,v17,v18,v19,v20,v21,v22,v23,v24,v25=>
 cond (cm .lss v17 (ll (rw _ nodeRow p1.kids)))
 ((at_ p1.kids v17).bind fun r26=>
 (rec_spots_writer_write r26 (⟨(⟨v21,v18,v19,v20,v22⟩:GSpots)⟩:Gspots_writer)).bind fun a27=>
 (spots_writer_behind_g N (⟨v23,v24,v25⟩:Gspots_part) a27.1 a27.2).bind fun a28=>
 (spots_writer_write_l2 rec_spots_writer_write N p1 m) (ar .add .i64 v17 1) a28.2.out.None a28.2.out.First a28.2.out.Last a28.2.out.Sets a28.2.out.Next a28.1.first a28.1.last a28.1.none)
 (some ((⟨v23,v24,v25⟩:Gspots_part),(⟨(⟨v21,v18,v19,v20,v22⟩:GSpots)⟩:Gspots_writer)))
mutual
def spots_writer_often_1_g:Nat→Int→Gspots_writer→Node→Option (Gspots_part × Gspots_writer)
| 0=>fun _ _ _=>none
| N+1=>fun p0 s0 s2=>
 cond (cm .eql p0 0)
 (some ((⟨[],[],true⟩:Gspots_part),s0))
 (((spots_writer_write_g N) s2 s0).bind fun a1=>
 ((spots_writer_often_1_g N) (ar .sub .i64 p0 1) a1.2 s2).bind fun a2=>
 (spots_writer_behind_g N a1.1 a2.1 a2.2).bind fun a3=>
 some ((⟨a3.1.first,a3.1.last,true⟩:Gspots_part),a3.2))
def spots_writer_often_g:Nat→Node→Gspots_writer→Option (Gspots_part × Gspots_writer)
| 0=>fun _ _=>none
| N+1=>fun p1 s0=>
 (at_ p1.kids 0).bind fun r1=>
 (spots_count_g N r1).bind fun a2=>
 cond (cm .eql a2 0)
 (some ((⟨[],[],true⟩:Gspots_part),s0))
 (spots_writer_often_l1 (spots_writer_write_g N) (spots_writer_often_1_g N) N p1 r1 N 0 s0.out.None s0.out.First s0.out.Last s0.out.Sets s0.out.Next [] [] true)
def spots_writer_write_g:Nat→Node→Gspots_writer→Option (Gspots_part × Gspots_writer)
| 0=>fun _ _=>none
| N+1=>fun p1 s0=>
 cond (cm .eql p1.kind 1)
 ((app cSet s0.out.Sets [p1.set]).bind fun l1=>
 (app (cLs (cI .i64)) s0.out.Next [[]]).bind fun l2=>
 some ((⟨[ll (rw _ cSet s0.out.Sets)],[ll (rw _ cSet s0.out.Sets)],false⟩:Gspots_part),(⟨(⟨l1,s0.out.None,s0.out.First,s0.out.Last,l2⟩:GSpots)⟩:Gspots_writer)))
 (cond (cm .eql p1.kind 3)
 (spots_writer_write_l1 (spots_writer_write_g N) N p1 N 0 s0.out.None s0.out.First s0.out.Last s0.out.Sets s0.out.Next [] [] false)
 (cond (cm .eql p1.kind 4)
 (((spots_writer_often_g N) p1 s0).bind fun a16=>
 some (a16.1,a16.2))
 (spots_writer_write_l2 (spots_writer_write_g N) N p1 N 0 s0.out.None s0.out.First s0.out.Last s0.out.Sets s0.out.Next [] [] true)))
end
def slices_CloneI_s (R:RF) (r:List Int):V:=.t (.slc (R _ (cI .i64) r))
def slices_CloneI_g (p0:List Int):Option (List Int):=
 nilq p0
 (some [])
 ((some []).bind fun l1=>
 (app (cI .i64) l1 p0).bind fun l2=>
 some l2)
def spots_Of_s (R:RF) (r:GSpots × Int):V:=.tup [.agg [.t (.slc (R _ cSet r.1.Sets)),fB r.1.None,.t (.slc (R _ (cI .i64) r.1.First)),.t (.slc (R _ (cI .i64) r.1.Last)),.t (.slc (R _ (cLs (cI .i64)) r.1.Next))],fI .i64 r.2]
def spots_Of_g (N:Nat) (p0:Node):Option (GSpots × Int):=
 (regex_Right_g N p0).bind fun a1=>
 cond (!a1)
 (some ((⟨[],false,[],[],[]⟩:GSpots),7))
 ((spots_count_g N p0).bind fun a2=>
 cond (cm .gtr a2 512)
 (some ((⟨[],false,[],[],[]⟩:GSpots),16))
 ((spots_writer_write_g N p0 (⟨(⟨[],false,[],[],[]⟩:GSpots)⟩:Gspots_writer)).bind fun a3=>
 (slices_CloneI_g a3.1.first).bind fun a4=>
 (slices_CloneI_g a3.1.last).bind fun a5=>
 some ((⟨a3.2.out.Sets,a3.1.none,a4,a5,a3.2.out.Next⟩:GSpots),0)))
def l16_works_s (R:RF) (r:Bool):V:=fB r
def l16_works_g (N:Nat):Option Bool:=
 (regex_Parse_g (ByteArray.mk #[97,40,98,124,99,41,42])).bind fun a1=>
 (spots_Of_g N a1.1).bind fun a2=>
 (cond (conj [cm .eql a1.2.E 0,cm .eql a1.2.At 0])
 (cond (cm .eql a2.2 0)
 (cond (cm .eql (ll (rw _ cSet a2.1.Sets)) 3)
 (cond (cm .eql (ll (rw _ (cLs (cI .i64)) a2.1.Next)) 3)
 (cond (!a2.1.None)
 (cond (cm .eql (ll (rw _ (cI .i64) a2.1.First)) 1)
 (cond (cm .eql (ll (rw _ (cI .i64) a2.1.Last)) 3)
 ((at_ a2.1.Next 0).bind fun r3=>
 cond (cm .eql (ll (rw _ (cI .i64) r3)) 2)
 ((at_ a2.1.Next 0).bind fun r4=>
 (at_ r4 0).bind fun r5=>
 cond (cm .eql r5 1)
 ((spots_Match_g N a2.1 (ByteArray.mk #[97,98,99,98])).bind fun a6=>
 cond (a6)
 ((spots_Match_g N a2.1 ByteArray.empty).bind fun a7=>
 some !a7)
 (some false))
 (some false))
 (some false))
 (some false))
 (some false))
 (some false))
 (some false))
 (some false))
 (some false))
 (some false):Option Bool).bind fun j1=>
 some j1
def r16_rising_s (R:RF) (r:Bool):V:=fB r
def r16_rising_l1 (p0:List Int) (p1:Int):Nat→Int→Option Bool
| 0,_=>none
| m+1,v1=>
 cond (cm .lss v1 (ll (rw _ (cI .i64) p0)))
 ((at_ p0 v1).bind fun r2=>
 cond (cm .lss r2 0)
 (cond (cm .lss r2 0)
 (cond (cm .lss r2 0)
 (cond (cm .lss r2 0)
 (cond (cm .lss r2 0)
 (cond (cm .lss r2 0)
 (cond (cm .lss r2 0)
 (some false)
 (none))
 (none))
 (none))
 (none))
 (none))
 (none))
 (cond (cm .lss r2 0)
 (none)
 (cond (cm .lss r2 0)
 (none)
 ((at_ p0 v1).bind fun r3=>
 cond (cm .lss r2 0)
 (none)
 (cond (cm .lss r2 0)
 (none)
 (cond (cm .lss r2 0)
 (none)
 (cond (cm .lss r2 0)
 (none)
 (cond (cm .geq r3 p1)
 (cond (cm .geq r3 p1)
 (cond (cm .geq r3 p1)
 (cond (cm .geq r3 p1)
 (cond (cm .geq r3 p1)
 (some false)
 (none))
 (none))
 (none))
 (none))
 (cond (cm .geq r3 p1)
 (none)
 (cond (cm .geq r3 p1)
 (none)
 (cond (cm .gtr v1 0)
 (cond (cm .gtr v1 0)
 (cond (cm .gtr v1 0)
 (cond (cm .gtr v1 0)
 ((at_ p0 (ar .sub .i64 v1 1)).bind fun r4=>
 cond (cm .gtr v1 0)
 (cond (cm .gtr v1 0)
 (cond (cm .gtr v1 0)
 (cond (cm .gtr v1 0)
 ((at_ p0 v1).bind fun r5=>
 cond (cm .gtr v1 0)
 (cond (cm .gtr v1 0)
 (cond (cm .geq r3 p1)
 (none)
 (cond (cm .gtr v1 0)
 (cond (cm .geq r3 p1)
 (none)
 (cond (cm .geq r4 r5)
 (some false)
 ((r16_rising_l1 p0 p1 m) (ar .add .i64 v1 1))))
 (none)))
 (none))
 (none))
 (none))
 (none))
 (none))
 (none))
 (none))
 (none))
 (none))
 (cond (cm .gtr v1 0)
 (none)
 (cond (cm .gtr v1 0)
 (none)
 (cond (cm .gtr v1 0)
 (none)
 (cond (cm .gtr v1 0)
 (none)
 (cond (cm .gtr v1 0)
 (none)
 (cond (cm .gtr v1 0)
 (none)
 (cond (cm .gtr v1 0)
 (none)
 (cond (cm .gtr v1 0)
 (none)
 (cond (cm .gtr v1 0)
 (none)
 (cond (cm .geq r3 p1)
 (none)
 (cond (cm .gtr v1 0)
 (none)
 (cond (cm .geq r3 p1)
 (none)
 ((r16_rising_l1 p0 p1 m) (ar .add .i64 v1 1)))))))))))))))))))))))))
 (some true)
def r16_rising_g (N:Nat) (p0:List Int) (p1:Int):Option Bool:=
 r16_rising_l1 p0 p1 N 0
def r16_Right_s (R:RF) (r:Bool):V:=fB r
def r16_Right_l1 (N:Nat) (p0:GSpots):Nat→Int→Option Bool
| 0,_=>none
| m+1,v3=>
 cond (cm .lss v3 (ll (rw _ cSet p0.Sets)))
 ((at_ p0.Next v3).bind fun r4=>
 (r16_rising_g N r4 (ll (rw _ cSet p0.Sets))).bind fun a5=>
 cond (!a5)
 (some false)
 ((r16_Right_l1 N p0 m) (ar .add .i64 v3 1)))
 (some true)
def r16_Right_g (N:Nat) (p0:GSpots):Option Bool:=
 (cond (cm .gtr (ll (rw _ cSet p0.Sets)) 512)
 (some true)
 (cond (cm .neq (ll (rw _ (cLs (cI .i64)) p0.Next)) (ll (rw _ cSet p0.Sets)))
 (some true)
 ((r16_rising_g N p0.First (ll (rw _ cSet p0.Sets))).bind fun a1=>
 cond (!a1)
 (some true)
 ((r16_rising_g N p0.Last (ll (rw _ cSet p0.Sets))).bind fun a2=>
 some !a2))):Option Bool).bind fun j1=>
 cond (j1)
 (some false)
 (r16_Right_l1 N p0 N 0)
def r16_in_s (R:RF) (r:Bool):V:=fB r
def r16_in_l1 (p0:List Int) (p1:Int):Nat→Int→Option Bool
| 0,_=>none
| m+1,v1=>
 cond (cm .lss v1 (ll (rw _ (cI .i64) p0)))
 ((at_ p0 v1).bind fun r2=>
 cond (cm .eql r2 p1)
 (some true)
 ((r16_in_l1 p0 p1 m) (ar .add .i64 v1 1)))
 (some false)
def r16_in_g (N:Nat) (p0:List Int) (p1:Int):Option Bool:=
 r16_in_l1 p0 p1 N 0
def r16_Join_s (R:RF) (r:List Int):V:=.t (.slc (R _ (cI .i64) r))
def r16_Join_l1 (N:Nat) (p0:List Int) (p1:List Int) (p2:Int):Nat→Int→List Int→Option (List Int)
| 0,_,_=>none
| m+1,v1,v2=>
 cond (cm .lss v1 p2)
 (((r16_in_g N p0 v1).bind fun a3=>
 cond (a3)
 (some true)
 ((r16_in_g N p1 v1).bind fun a4=>
 some a4):Option Bool).bind fun j3=>
 (cond (j3)
 ((app (cI .i64) v2 [v1]).bind fun l5=>
 some l5)
 (some v2):Option (List Int)).bind fun j4=>
 (r16_Join_l1 N p0 p1 p2 m) (ar .add .i64 v1 1) j4)
 (some v2)
def r16_Join_g (N:Nat) (p0:List Int) (p1:List Int) (p2:Int):Option (List Int):=
 r16_Join_l1 N p0 p1 p2 N 0 []
def spots_Count_s (R:RF) (r:Int):V:=fI .i64 r
def spots_Count_g (N:Nat) (p0:Node):Option Int:=
 (regex_Right_g N p0).bind fun a1=>
 cond (!a1)
 (some 0)
 ((spots_count_g N p0).bind fun a2=>
 some a2)
def r13_Size_s (R:RF) (r:Int × Int):V:=.tup [fI .i64 r.1,fI .i64 r.2]
def r13_Size_l1 (rec:Node→Option (Int × Int)) (p0:Node):Nat→Int→Int→Int→Option (Int × Int)
| 0,_,_,_=>none
| m+1,v1,v2,v3=>
 cond (cm .lss v3 (ll (rw _ nodeRow p0.kids)))
 ((at_ p0.kids v3).bind fun r4=>
 (rec r4).bind fun a5=>
 (cond (cm .gtr a5.2 v2)
 (some a5.2)
 (some v2):Option Int).bind fun j1=>
 (r13_Size_l1 rec p0 m) (ar .add .i64 v1 a5.1) j1 (ar .add .i64 v3 1))
 (some (v1,ar .add .i64 v2 1))
def r13_Size_g:Nat→Node→Option (Int × Int)
| 0=>fun _=>none
| N+1=>fun p0=>
 r13_Size_l1 (r13_Size_g N) p0 N 1 0 0
def l13_Great_s (R:RF) (r:Bool):V:=fB r
def l13_Great_g (N:Nat) (p0:Node):Option Bool:=
 (r13_Size_g N p0).bind fun a1=>
 (cond (cm .gtr a1.1 300)
 (some true)
 (some (cm .gtr a1.2 40)):Option Bool).bind fun j1=>
 some j1
end Gn
end Go.Proofs.YtbpihhelojjedaaDoor
