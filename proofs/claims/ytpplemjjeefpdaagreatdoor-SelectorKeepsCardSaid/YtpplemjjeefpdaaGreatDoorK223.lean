/- Texts that the proof leans on. -/
import Derived.Test.YtpplemjjeefpdaaGreatDoorK222
import Derived.Shelf.Small.Bits
import Derived.Shelf.Small.Strs
import Derived.Shelf.Strconv.Itoa0
import Derived.Shelf.Strings.Search1
import Derived.Shelf.Sort.Plain
import Derived.Shelf.Unicode.Decode
import Derived.Shelf.Unicode.DecodeAny
import Derived.Shelf.Slices.CompactS
import Derived.Ground.Names2Prog
import Derived.Shelf.Slices.SearchI
import Derived.Shelf.Slices.Cells
import Derived.Shelf.Slices.In.SortNone
import Derived.Test.YtpplemjjeefpdaaGreatDoorRows
import Derived.Lib.LaidU8
import Derived.Lib.LaidTab
set_option linter.unusedVariables false
set_option linter.unusedSimpArgs false
set_option maxRecDepth 100000
set_option maxHeartbeats 4000000
namespace Go.Proofs.YtpplemjjeefpdaaGreatDoor
open Go Go.RowKit
namespace Ab
section
variable {A:Run}
abbrev vPnil:V:=.t (.flat (.pointer none))
theorem shape_cells {w:World} {b:Nat} {vs:Array Value} {ty:TypeId} (h:w.heap[b]?=some (.cells vs ty (0,0))):w.shape? b=some (ty,vs.size):=by simp [World.shape?,h]
theorem frozen_cells {w:World} {b o:Nat} {vs:Array Value} {ty:TypeId} (h:w.heap[b]?=some (.cells vs ty (0,0))):w.frozen? ⟨b,o,none⟩=false:=by simp [World.frozen?,h]
theorem set_but {w:World} {b:Nat} (v:Value):But b w (w.setCell ⟨b,0,none⟩ v):=by
 refine ⟨rfl,rfl,rfl,?_,fun k hk=>?_⟩
 · show (Array.modify _ _ _).size=_
   rw [Array.size_modify]
 · show (Array.modify _ _ _)[k]?=_
   rw [Array.getElem?_modify,if_neg (fun e=>hk e.symm)]
theorem call_check {s:St} {K:V→St→Prop} {id:Nat} {c0 c1:V} (hrow:s.heap.getD id none=some (.box 57 [c0,c1])) (h0:c0=vPnil∨c0=.ptr id 0)
 (hK:K (.tup []) (s.setRow id (.box 57 [.ptr id 0,c1]))):CallA Tryz.prog A 67 [.ptr id 0] s K:=by
 refine ⟨Tryz.call67,fun cx a w cargs R hargs=>?_⟩
 obtain ⟨u0,r0,rfl,hu,hr⟩:=hargs.uncons
 obtain rfl:r0=#[]:=Array.size_eq_zero_iff.1 hr.1
 have hrow':=getD_row hrow
 have hR:=R.hp.row id _ hrow'
 cases hR with
 | box ty cs b vs hat hbl hnG hrr=>
   cases hu with
   | ptr id off b' cap es len h'=>
     rw [hat] at h'
     cases h'
     have hvs:vs.size=2:=hrr.1
     have hv0:vs[0]?=some vs[0]:=Array.getElem?_eq_getElem (by omega)
     have hv1:vs[1]?=some vs[1]:=Array.getElem?_eq_getElem (by omega)
     have r0:=hrr.2 0 c0 _ rfl hv0
     have r1:=hrr.2 1 c1 _ rfl hv1
     have c0':w.cell? ⟨b,0,none⟩=some vs[0]:=by simp [World.cell?,hbl,hv0]
     have tupR:∀{cx:Cx} {w:World},VRep cx w (.tup []) (.tuple #[]):=fun {cx w}=>.tup [] #[] rfl fun i c u h=>by simp at h
     rcases h0 with rfl | rfl
     · have e:vs[0]=.pointer none:=inv_flat r0
       rw [e] at c0'
       refine (Bl.cc_fresh b w c0' (by rw [shape_cells hbl,hvs]) (frozen_cells hbl)).mono ?_
       rintro e w' ⟨rfl,rfl⟩
       have hnew:(w.setCell ⟨b,0,none⟩ (.pointer (some ⟨b,0,none⟩))).heap[b]?=some (.cells (vs.setIfInBounds 0 (.pointer (some ⟨b,0,none⟩))) 57 (0,0)):=by
        show (Array.modify _ _ _)[b]?=_
        rw [Array.getElem?_modify,if_pos rfl,hbl];rfl
       have hsame:Same cx.G w (w.setCell ⟨b,0,none⟩ (.pointer (some ⟨b,0,none⟩))):=fun k hk=>(set_but (b:=b) (.pointer (some ⟨b,0,none⟩))).other k (fun e=>hnG (e▸hk))
       have R':=R.write hrow' hat (set_but (.pointer (some ⟨b,0,none⟩))) (.box 57 [.ptr id 0,c1] b _ hat hnew hnG ⟨by simp [hvs],fun i c u h1 h2=>by
        match i,h1,h2 with
        | 0,h1,h2=>
          cases h1
          rw [Array.getElem?_setIfInBounds_self_of_lt (by omega)] at h2
          cases h2
          exact .ptr id 0 b _ _ _ hat
        | 1,h1,h2=>
          cases h1
          rw [Array.getElem?_setIfInBounds_ne (by decide),hv1] at h2
          cases h2
          exact r1.mono hsame (Cx.le.refl cx)
        | n+2,h1,h2=>simp at h1⟩) (fun h=>by cases h)
       exact .inl ⟨_,_,_,cx,rfl,hK,tupR,R'⟩
     · have e:vs[0]=.pointer (some ⟨b,0,none⟩):=by
        generalize vs[0]=y at r0
        cases r0 with
        | ptr id off b' cap es len h'=>rw [hat] at h';cases h';rfl
       rw [e] at c0'
       refine (Bl.cc_used b w c0').mono ?_
       rintro e w' ⟨rfl,rfl⟩
       have es:s.setRow id (.box 57 [.ptr id 0,c1])=s:=by
        unfold St.setRow
        congr 1
        have hlt:id<s.heap.length:=(List.getElem?_eq_some_iff.1 hrow').1
        have:=(List.getElem?_eq_some_iff.1 hrow').2
        rw [←this,List.set_getElem_self]
       rw [es] at hK
       exact .inl ⟨_,_,_,cx,rfl,hK,tupR,R⟩
theorem Rel.lose {cx:Cx} {s:St} {a:Act} {w w':World} {id ty es g cap es' len:Nat} {rows:Rows} (R:Rel A cx s a w) (hr:s.heap[id]?=some (some (.list ty es rows))) (hfree:A.pin id=none) (hat:cx.at_ id=some (.at g cap es' len)) (hb:Bl.But1 g w w'):
 Rel A ⟨fun i=>if i=id then none else cx.at_ i,cx.G⟩ (s.drop id) a w':=by
 obtain ⟨b1,b2,b3,b4,b5⟩:=hb
 have hid:id<s.heap.length:=(List.getElem?_eq_some_iff.1 hr).1
 have hlv:=R.hp.live_lt hr hat
 have hs:Same cx.G w w':=fun b hb=>b5 b (R.kp.G1 b hb) (fun e=>hlv.2 (e▸hb))
 have hat':∀i B',i≠id→cx.at_ i=some B'→(if i=id then none else cx.at_ i)=some B':=fun i B' hne h=>by rw [if_neg hne];exact h
 have hG:∀b,cx.G b→cx.G b:=fun b h=>h
 have hh:∀(i:Nat) x,(s.drop id).heap[i]?=some (some x)→i≠id∧∃y,s.heap[i]?=some (some y)∧killRow id (some y)=some x:=fun i x hx=>by
  simp only [St.drop] at hx
  by_cases e:id=i
  · subst e
    rw [List.getElem?_set_self (by simpa using hid)] at hx
    cases hx
  · rw [List.getElem?_set_ne e,List.getElem?_map] at hx
    obtain ⟨y,hy,hk⟩:=Option.map_eq_some_iff.1 hx
    cases y with
    | none=>cases hk
    | some y=>exact ⟨Ne.symm e,y,hy,hk⟩
 have atne:∀{i:Nat},i≠id→(if i=id then none else cx.at_ i)=cx.at_ i:=fun h=>if_neg h
 have old:∀(i:Nat) y b cap es' len,i≠id→s.heap[i]?=some (some y)→cx.at_ i=some (.at b cap es' len)→w'.heap[b]?=w.heap[b]?:=fun i y b cap es' len hne hy hb=>b5 b (R.hp.live_lt hy hb).1 fun e=>by
  subst e
  exact hne (R.hp.inj _ _ _ _ _ _ _ _ _ _ _ hy hr hb hat)
 constructor
 · exact R.tm.killL hs hat' hG
 · exact R.df
 · constructor
   · intro i x hx
     obtain ⟨hne,y,hy,hk⟩:=hh i x hx
     have hR:=R.hp.row i y hy
     cases hR with
     | box ty' cs b vs hat2 hbl hn hrr=>
       simp only [killRow,Option.some.injEq] at hk
       subst hk
       refine .box ty' _ b vs ?_ ((old i _ b _ _ _ hne hy hat2).trans hbl) hn (hrr.killL hs hat' hG)
       show (if i=id then none else cx.at_ i)=_
       rw [atne hne,hat2,killL_map,List.length_map]
     | listN ty' es' hat2=>
       simp only [killRow,Option.some.injEq] at hk
       subst hk
       exact .listN _ _ (by show (if i=id then none else cx.at_ i)=_;rw [atne hne];exact hat2)
     | list ty' es' rows2 b cap vs hat2 hbl hn hcap hmax hsz hes hrr=>
       simp only [killRow,Option.some.injEq] at hk
       subst hk
       refine .list ty' es' rows2 b cap vs (by show (if i=id then none else cx.at_ i)=_;rw [atne hne];exact hat2) ((old i _ b _ _ _ hne hy hat2).trans hbl) hn hcap hmax hsz hes (fun k j t ht=>?_)
       obtain ⟨u,h1,h2⟩:=hrr k j t ht
       exact ⟨u,h1,h2.mono hs hG⟩
     | iter s' pos b hat2 hbl hn h0=>
       simp only [killRow,Option.some.injEq] at hk
       subst hk
       exact .iter s' pos b (by show (if i=id then none else cx.at_ i)=_;rw [atne hne];exact hat2) ((old i _ b _ _ _ hne hy hat2).trans hbl) hn h0
   · intro i i' x x' b cap es1 len cap' es2 len' h1 h2 h3 h4
     obtain ⟨hne,y,hy,-⟩:=hh i x h1
     obtain ⟨hne',y',hy',-⟩:=hh i' x' h2
     have h3':(if i=id then none else cx.at_ i)=some (.at b cap es1 len):=h3
     have h4':(if i'=id then none else cx.at_ i')=some (.at b cap' es2 len'):=h4
     rw [atne hne] at h3'
     rw [atne hne'] at h4'
     exact R.hp.inj _ _ _ _ _ _ _ _ _ _ _ hy hy' h3' h4'
   · intro i hi
     simp only [St.drop,List.length_set,List.length_map] at hi
     show (if i=id then none else cx.at_ i)=none
     rw [if_neg (by omega)]
     exact R.hp.dom i hi
 · constructor
   · rw [b1];exact R.kp.os
   · rw [b2];exact R.kp.tape
   · rw [b3];exact R.kp.output
   · exact Nat.le_trans R.kp.size b4
   · intro b hb hM
     rw [b5 b (Nat.lt_of_lt_of_le hb R.kp.size) (fun e=>?_)]
     · exact R.kp.block b hb hM
     · subst e
       rcases R.kp.live _ _ _ _ _ _ hr hat with h | h
       · exact hM h
       · omega
   · intro i x b cap es' len h1 h2
     obtain ⟨hne,y,hy,-⟩:=hh i x h1
     have h2':(if i=id then none else cx.at_ i)=some (.at b cap es' len):=h2
     rw [atne hne] at h2'
     exact R.kp.live _ _ _ _ _ _ hy h2'
   · exact R.kp.G0
   · exact fun b h=>Nat.lt_of_lt_of_le (R.kp.G1 b h) b4
   · exact R.kp.G2
   · intro i B h
     have:=R.kp.pin i B h
     have hne:i≠id:=fun e=>by subst e;rw [hfree] at h;cases h
     exact ⟨hat' _ _ hne this.1,this.2⟩
   · simp only [St.drop,List.length_set,List.length_map];exact R.kp.base
   · exact R.kp.tab.mono hs hG
 · exact R.bs
def ofB (l:List Int):List UInt8:=l.map fun n=>UInt8.ofNat n.toNat
theorem call_str {s:St} {K:V→St→Prop} {id k:Nat} {c0:V} {l:List Int} (hrow:s.heap.getD id none=some (.box 57 [c0,.lst k])) (hl:s.heap.getD k none=some (.list 5 1 (l.map fun n=>[.flat (.int .u8 n)]))) (hok:∀n∈l,0≤n∧n<256) (hfree:A.pin k=none)
 (hK:K (fS ⟨(ofB l).toArray⟩) (s.drop k)):CallA Tryz.prog A 36 [.ptr id 0] s K:=by
 refine ⟨Tryz.call36,fun cx a w cargs R hargs=>?_⟩
 obtain ⟨u0,r0,rfl,hu,hr⟩:=hargs.uncons
 obtain rfl:r0=#[]:=Array.size_eq_zero_iff.1 hr.1
 have hrow':=getD_row hrow
 have hl':=getD_row hl
 have hR:=R.hp.row id _ hrow'
 have hRl:=R.hp.row k _ hl'
 have grown:∀{w':World},Below w.heap.size w w'→∃cx',Rel A cx' (s.drop k) a w':=fun {w'} hbl=>by
  obtain ⟨-,R1⟩:=step_grown (v:=.tup []) (u:=.tuple #[]) R hbl (.tup [] #[] rfl fun i c u h=>by simp at h)
  exact ⟨_,R1.drop hl' hfree⟩
 cases hR with
 | box ty cs b vs hat hbl hnG hrr=>
   cases hu with
   | ptr _ off b' cap es len h'=>
     rw [hat] at h'
     cases h'
     have hvs:vs.size=2:=hrr.1
     have hv1:vs[1]?=some vs[1]:=Array.getElem?_eq_getElem (by omega)
     have r1:=hrr.2 1 (.lst k) _ rfl hv1
     have evs:vs=#[vs[0],vs[1]]:=by
      apply Array.ext
      · simp [hvs]
      · intro i h1 h2
        match i,h1,h2 with
        | 0,_,_=>rfl
        | 1,_,_=>rfl
        | n+2,h1,_=>omega
     generalize vs[0]=p at evs
     generalize vs[1]=y at evs r1
     subst evs
     clear hv1
     cases r1 with
     | lstN _ h=>
       have hl0:l=[]:=by
        generalize hrows:(l.map fun n=>[T.flat (.int .u8 n)])=rows at hRl
        cases hRl with
        | listN=>simpa using hrows
        | list ty es rows b cap vs h2=>rw [h] at h2;cases h2
       subst hl0
       refine (Bl.str_nil b p w hbl).mono ?_
       rintro e w' ⟨rfl,hb⟩
       obtain ⟨cx',R'⟩:=grown hb
       exact .inl ⟨_,_,_,cx',rfl,hK,rep_flat rfl,R'⟩
     | lst _ g cap es len h=>
       have key:∃cur,w.heap[g]?=some (.cells cur 5 (0,0))∧l.length≤cap∧cap≤maxLen∧cur.size=cap∧len=l.length∧∀(j:Nat) (x:UInt8),(ofB l)[j]?=some x→w.cell? ⟨g,j,none⟩=some (.int .u8 x.toNat):=by
        generalize hrows:(l.map fun n=>[T.flat (.int .u8 n)])=rows at hRl
        cases hRl with
        | listN ty es h2=>rw [h] at h2;cases h2
        | list ty es rows b cap vs h2 hb2 hn hcap hmax hsz hes hrr2=>
          rw [h] at h2
          cases h2
          have hlen:rows.length=l.length:=by rw [←hrows];simp
          refine ⟨vs,hb2,by omega,hmax,by simpa using hsz,hlen,fun j x hx=>?_⟩
          unfold ofB at hx
          rw [List.getElem?_map] at hx
          obtain ⟨n,hn2,rfl⟩:=Option.map_eq_some_iff.1 hx
          obtain ⟨u,q1,q2⟩:=hrr2 j 0 (.flat (.int .u8 n)) (by rw [←hrows,List.getElem?_map,hn2];rfl)
          have:=trep_flat q2
          subst this
          have ho:=hok n (List.mem_of_getElem? hn2)
          simp only [World.cell?,hb2]
          rw [show j*1+0=j by omega] at q1
          simp only [Option.isSome_none,Bool.false_eq_true,if_false,q1]
          congr 2
          rw [UInt8.toNat_ofNat']
          omega
       obtain ⟨cur,hg,q1,q2,q3,rfl,q5⟩:=key
       by_cases h0:l=[]
       · subst h0
         by_cases hc:cap=0
         · subst hc
           refine (Bl.str_noroom b g p cur w hbl hg).mono ?_
           rintro e w' ⟨rfl,hb⟩
           obtain ⟨cx',R'⟩:=grown hb
           exact .inl ⟨_,_,_,cx',rfl,hK,rep_flat rfl,R'⟩
         · refine (Bl.str_room b g cap p w hc hbl).mono ?_
           rintro e w' ⟨rfl,hb⟩
           obtain ⟨cx',R'⟩:=grown hb
           exact .inl ⟨_,_,_,cx',rfl,hK,rep_flat rfl,R'⟩
       · have hll:(ofB l).length=l.length:=by simp [ofB]
         refine (Bl.str_row b g cap p cur (ofB l) w (by rw [hll];exact hbl) hg (by omega) q2 q3 q5 (fun e=>h0 (List.length_eq_zero_iff.1 (by rw [←hll,e];rfl)))).mono ?_
         rintro e w' ⟨rfl,hb⟩
         exact .inl ⟨_,_,_,_,rfl,hK,rep_flat rfl,R.lose hl' hfree h hb⟩
theorem call_str0 {s:St} {K:V→St→Prop} {id:Nat} {c0:V} (hrow:s.heap.getD id none=some (.box 57 [c0,vNil])) (hK:K (fS ByteArray.empty) s):CallA Tryz.prog A 36 [.ptr id 0] s K:=by
 refine ⟨Tryz.call36,fun cx a w cargs R hargs=>?_⟩
 obtain ⟨u0,r0,rfl,hu,hr⟩:=hargs.uncons
 obtain rfl:r0=#[]:=Array.size_eq_zero_iff.1 hr.1
 have hR:=R.hp.row id _ (getD_row hrow)
 cases hR with
 | box ty cs b vs hat hbl hnG hrr=>
   cases hu with
   | ptr _ off b' cap es len h'=>
     rw [hat] at h'
     cases h'
     have hvs:vs.size=2:=hrr.1
     have hv1:vs[1]?=some vs[1]:=Array.getElem?_eq_getElem (by omega)
     have r1:=inv_flat (hrr.2 1 vNil _ rfl hv1)
     have evs:vs=#[vs[0],.slice none 0 0]:=by
      apply Array.ext
      · simp [hvs]
      · intro i h1 h2
        match i,h1,h2 with
        | 0,_,_=>rfl
        | 1,_,_=>exact r1
        | n+2,h1,_=>omega
     rw [evs] at hbl
     refine (Bl.str_nil b _ w hbl).mono ?_
     rintro e w' ⟨rfl,hb⟩
     obtain ⟨-,R1⟩:=step_grown (v:=.tup []) (u:=.tuple #[]) R hb (.tup [] #[] rfl fun i c u h=>by simp at h)
     exact .inl ⟨_,_,_,_,rfl,hK,rep_flat rfl,R1⟩
end
end Ab
end Go.Proofs.YtpplemjjeefpdaaGreatDoor
namespace Go.Proofs.YtpplemjjeefpdaaGreatDoor
open Go Go.RowKit
open Ab
namespace Sh
section
variable {A:Run} {W:Wd} {E:Env} (hE:dom Tryz.prog A=mkE W E)
include hE
theorem L_check {s:St} {K:V→St→Prop} {id:Nat} {c0 c1:V} (hrow:s.heap.getD id none=some (.box 57 [c0,c1])) (h0:c0=vPnil∨c0=.ptr id 0) (hK:K (.tup []) (s.setRow id (.box 57 [.ptr id 0,c1]))):E.call 67 [.ptr id 0] s K:=by
 show (mkE W E).call _ _ _ _
 rw [←hE]
 exact call_check hrow h0 hK
theorem L_str {R:RF} (hR:R=rw) {β:Type} {v:β} {X:ByteArray→Option β} {s:St} {K:V→St→Prop} {id k:Nat} {c0:V} {l:List Int} (h:(strB l).bind X=some v) (hrow:s.heap.getD id none=some (.box 57 [c0,.lst k])) (hl:s.heap.getD k none=some (.list 5 1 (R Int (cI .u8) l))) (hf:E.free k)
 (hK:∀x,X x=some v→K (fS x) (s.drop k)):E.call 36 [.ptr id 0] s K:=by
 obtain ⟨x,h1,h2⟩:=conv_some h
 have hf':(mkE W E).free k:=hf
 show (mkE W E).call _ _ _ _
 rw [←hE] at hf' ⊢
 subst hR
 unfold strB at h1
 split at h1
 case isFalse=>cases h1
 rename_i hok
 cases h1
 exact call_str hrow hl (fun n hn=>by simpa using List.all_eq_true.1 hok n hn) hf' (hK _ h2)
theorem L_str0 {s:St} {K:V→St→Prop} {id:Nat} {c0:V} (hrow:s.heap.getD id none=some (.box 57 [c0,vNil])) (hK:K (fS ByteArray.empty) s):E.call 36 [.ptr id 0] s K:=by
 show (mkE W E).call _ _ _ _
 rw [←hE]
 exact call_str0 hrow hK
end
end Sh
end Go.Proofs.YtpplemjjeefpdaaGreatDoor
namespace Go.Proofs
open Go.Shelf
def Tryz.lays137_ren:Go.Shelf.Ren:=⟨fun | 137=>132 | 217=>151 | 266=>165 | n=>n,fun | 9=>9 | 5=>5 | 3=>3 | n=>n,fun | n=>n⟩
theorem Tryz.lays137:Go.Proofs.Lays.n137 Tryz.prog Tryz.lays137_ren:={
 mixed:=by kernel_rfl
 f137:=Tryz.func132.trans (congrArg some (by kernel_rfl))
 f217:=Tryz.func151.trans (congrArg some (by kernel_rfl))
 f266:=Tryz.func165.trans (congrArg some (by kernel_rfl))
 t3:=Tryz.underlying3
 a3:=Tryz.isAgg3
 z3:=Tryz.sizeOf3
 v3:=Tryz.zeroValue3
 t5:=Tryz.underlying5
 a5:=Tryz.isAgg5
 z5:=Tryz.sizeOf5
 v5:=Tryz.zeroValue5
 t9:=Tryz.underlying9
 a9:=Tryz.isAgg9
 z9:=Tryz.sizeOf9
 v9:=Tryz.zeroValue9}
open Go.RowKit in
theorem Tryz.strings_IndexByte (s:ByteArray) (c:Int) (w:World):
 Calls Tryz.prog 132 #[.string s,.int .u8 c] w fun e w'=>e=.returned (.int .i64 (Lib.indexByte s.data.toList c.toNat.toUInt8))∧w'=w:=Any.strings_IndexByte Tryz.lays137 s c w
def Tryz.lays190_ren:Go.Shelf.Ren:=⟨fun | 190=>49 | 125=>78 | 258=>82 | 128=>114 | 129=>115 | 302=>118 | 303=>119 | 304=>120 | 305=>121 | 306=>122 | 307=>123 | 308=>124 | 309=>125 | 310=>126 | 333=>147 | 329=>143 | 330=>144 | 334=>148 | 335=>149 | 336=>116 | 344=>161 | n=>n,fun | 31=>39 | 9=>9 | 3=>3 | 46=>104 | 0=>0 | 51=>144 | 53=>76 | 4=>4 | 183=>137 | 182=>136 | 131=>141 | 5=>5 | 218=>168 | 222=>172 | 228=>185 | 229=>186 | n=>n,fun | n=>n⟩
theorem Tryz.lays190:Go.Proofs.Lays.n190 Tryz.prog Tryz.lays190_ren:={
 mixed:=by kernel_rfl
 f125:=Tryz.func78.trans (congrArg some (by kernel_rfl))
 f128:=Tryz.func114.trans (congrArg some (by kernel_rfl))
 f129:=Tryz.func115.trans (congrArg some (by kernel_rfl))
 f190:=Tryz.func49.trans (congrArg some (by kernel_rfl))
 f258:=Tryz.func82.trans (congrArg some (by kernel_rfl))
 f302:=Tryz.func118.trans (congrArg some (by kernel_rfl))
 f303:=Tryz.func119.trans (congrArg some (by kernel_rfl))
 f304:=Tryz.func120.trans (congrArg some (by kernel_rfl))
 f305:=Tryz.func121.trans (congrArg some (by kernel_rfl))
 f306:=Tryz.func122.trans (congrArg some (by kernel_rfl))
 f307:=Tryz.func123.trans (congrArg some (by kernel_rfl))
 f308:=Tryz.func124.trans (congrArg some (by kernel_rfl))
 f309:=Tryz.func125.trans (congrArg some (by kernel_rfl))
 f310:=Tryz.func126.trans (congrArg some (by kernel_rfl))
 f329:=Tryz.func143.trans (congrArg some (by kernel_rfl))
 f330:=Tryz.func144.trans (congrArg some (by kernel_rfl))
 f333:=Tryz.func147.trans (congrArg some (by kernel_rfl))
 f334:=Tryz.func148.trans (congrArg some (by kernel_rfl))
 f335:=Tryz.func149.trans (congrArg some (by kernel_rfl))
 f336:=Tryz.func116.trans (congrArg some (by kernel_rfl))
 f344:=Tryz.func161.trans (congrArg some (by kernel_rfl))
 t0:=Tryz.underlying0
 a0:=Tryz.isAgg0
 z0:=Tryz.sizeOf0
 v0:=Tryz.zeroValue0
 t3:=Tryz.underlying3
 a3:=Tryz.isAgg3
 z3:=Tryz.sizeOf3
 v3:=Tryz.zeroValue3
 t4:=Tryz.underlying4
 a4:=Tryz.isAgg4
 z4:=Tryz.sizeOf4
 v4:=Tryz.zeroValue4
 t5:=Tryz.underlying5
 a5:=Tryz.isAgg5
 z5:=Tryz.sizeOf5
 v5:=Tryz.zeroValue5
 t9:=Tryz.underlying9
 a9:=Tryz.isAgg9
 z9:=Tryz.sizeOf9
 v9:=Tryz.zeroValue9
 t31:=Tryz.underlying39
 a31:=Tryz.isAgg39
 z31:=Tryz.sizeOf39
 v31:=Tryz.zeroValue39
 t46:=Tryz.underlying104
 a46:=Tryz.isAgg104
 z46:=Tryz.sizeOf104
 v46:=Tryz.zeroValue104
 t51:=Tryz.underlying144
 a51:=Tryz.isAgg144
 z51:=Tryz.sizeOf144
 v51:=Tryz.zeroValue144
 t53:=Tryz.underlying76
 a53:=Tryz.isAgg76
 z53:=Tryz.sizeOf76
 v53:=Tryz.zeroValue76
 t131:=Tryz.underlying141
 a131:=Tryz.isAgg141
 z131:=Tryz.sizeOf141
 v131:=Tryz.zeroValue141
 t182:=Tryz.underlying136
 a182:=Tryz.isAgg136
 z182:=Tryz.sizeOf136
 v182:=Tryz.zeroValue136
 t183:=Tryz.underlying137
 a183:=Tryz.isAgg137
 z183:=Tryz.sizeOf137
 v183:=Tryz.zeroValue137
 t218:=Tryz.underlying168
 a218:=Tryz.isAgg168
 z218:=Tryz.sizeOf168
 v218:=Tryz.zeroValue168
 t222:=Tryz.underlying172
 a222:=Tryz.isAgg172
 z222:=Tryz.sizeOf172
 v222:=Tryz.zeroValue172
 t228:=Tryz.underlying185
 a228:=Tryz.isAgg185
 z228:=Tryz.sizeOf185
 v228:=Tryz.zeroValue185
 t229:=Tryz.underlying186
 a229:=Tryz.isAgg186
 z229:=Tryz.sizeOf186
 v229:=Tryz.zeroValue186}
open Go.Sort Go.RowKit in
theorem Tryz.slices_Sort_string (blk off cap:Nat) (ss:List (List UInt8)) (w:World) (hH:Holds encStr w blk off ss.toArray) (hblk:blk<w.heap.size) (hsz:ss.length<4611686018427387904):
 Calls Tryz.prog 49 #[.slice (some ⟨blk,off,none⟩) ss.length cap] w fun e w'=>
  e=.returned (.tuple #[])∧∃n os,w'=grow (putRow encStr (Sort.ahead w n) blk off (ss.mergeSort fun x y=>decide (x≤y)).toArray) os:=Any.slices_Sort_string Tryz.lays190 blk off cap ss w hH hblk hsz
def Tryz.lays197_ren:Go.Shelf.Ren:=⟨fun | 197=>89 | 260=>131 | n=>n,fun | 9=>9 | 21=>21 | 3=>3 | 4=>4 | 5=>5 | 105=>115 | 119=>176 | 0=>0 | 46=>104 | 139=>179 | 138=>178 | n=>n,fun | 3=>0 | 4=>1 | n=>n⟩
theorem Tryz.lays197:Go.Proofs.Lays.n197 Tryz.prog Tryz.lays197_ren:={
 mixed:=by kernel_rfl
 f197:=Tryz.func89.trans (congrArg some (by kernel_rfl))
 f260:=Tryz.func131.trans (congrArg some (by kernel_rfl))
 t0:=Tryz.underlying0
 a0:=Tryz.isAgg0
 z0:=Tryz.sizeOf0
 v0:=Tryz.zeroValue0
 t3:=Tryz.underlying3
 a3:=Tryz.isAgg3
 z3:=Tryz.sizeOf3
 v3:=Tryz.zeroValue3
 t4:=Tryz.underlying4
 a4:=Tryz.isAgg4
 z4:=Tryz.sizeOf4
 v4:=Tryz.zeroValue4
 t5:=Tryz.underlying5
 a5:=Tryz.isAgg5
 z5:=Tryz.sizeOf5
 v5:=Tryz.zeroValue5
 t9:=Tryz.underlying9
 a9:=Tryz.isAgg9
 z9:=Tryz.sizeOf9
 v9:=Tryz.zeroValue9
 t21:=Tryz.underlying21
 a21:=Tryz.isAgg21
 z21:=Tryz.sizeOf21
 v21:=Tryz.zeroValue21
 t46:=Tryz.underlying104
 a46:=Tryz.isAgg104
 z46:=Tryz.sizeOf104
 v46:=Tryz.zeroValue104
 t105:=Tryz.underlying115
 a105:=Tryz.isAgg115
 z105:=Tryz.sizeOf115
 v105:=Tryz.zeroValue115
 t119:=Tryz.underlying176
 a119:=Tryz.isAgg176
 z119:=Tryz.sizeOf176
 t138:=Tryz.underlying178
 a138:=Tryz.isAgg178
 z138:=Tryz.sizeOf178
 v138:=Tryz.zeroValue178
 t139:=Tryz.underlying179
 a139:=Tryz.isAgg179
 z139:=Tryz.sizeOf179
 v139:=Tryz.zeroValue179
 g3:=by kernel_rfl
 g4:=by kernel_rfl}
open Go.RowKit Go.Lib in
theorem Tryz.utf8_DecodeRuneInString (s:ByteArray) (w:World) (hT:Lib.Utf8Tabs 0 1 w):
 Calls Tryz.prog 89 #[.string s] w fun e w'=>e=.returned (.tuple #[.int .i32 (Lib.decodeGo s).1,.int .i64 (Lib.decodeGo s).2])∧Below w.heap.size w w':=Any.utf8_DecodeRuneInString Tryz.lays197 s w hT
open Go.RowKit Go.Sort in
theorem Tryz.slices_Sort_string_none (p:Option Addr) (cap:Nat) (w:World):
 Calls Tryz.prog 49 #[.slice p 0 cap] w fun e w'=>e=.returned (.tuple #[])∧w'=w:=Any.slices_Sort_string_none Tryz.lays190 p cap w
end Go.Proofs
namespace Go.Proofs.YtpplemjjeefpdaaGreatDoor
open Go Go.RowKit
open Ab Sh
namespace Gn
def setS (R:RF) (S:CSet):V:=setV S
def boolS (R:RF) (b:Bool):V:=shB b
def intS (R:RF) (n:Int):V:=shI n
def r12_Between_g (x y:Int):Option CSet:=if 0≤x∧x<256∧0≤y∧y<256 then some (CSet.between x.toNat y.toNat) else none
theorem r12_Between_w {x y:Int} {r:CSet} (h:r12_Between_g x y=some r):FunS Tryz.prog 168 [fI .i64 x,fI .i64 y] (setS rw) r:=by
 unfold r12_Between_g at h
 split at h
 · cases h;exact f_rof (by omega) (by omega) (by omega) (by omega)
 · cases h
def r12_Or_g (x y:CSet):Option CSet:=some (x.or y)
theorem r12_Or_w {x y r:CSet} (h:r12_Or_g x y=some r):FunS Tryz.prog 177 [setV x,setV y] (setS rw) r:=by cases h;exact f_ror x y
def r12_Not_g (x:CSet):Option CSet:=some x.not
theorem r12_Not_w {x r:CSet} (h:r12_Not_g x=some r):FunS Tryz.prog 178 [setV x] (setS rw) r:=by cases h;exact f_rnot x
def r12_With_g (x:CSet) (b:Int):Option CSet:=if 0≤b∧b<256 then some (x.put b.toNat) else none
theorem r12_With_w {x r:CSet} {b:Int} (h:r12_With_g x b=some r):FunS Tryz.prog 175 [setV x,fI .i64 b] (setS rw) r:=by
 unfold r12_With_g at h
 split at h
 · cases h;exact f_rwith x (by omega) (by omega)
 · cases h
def r12_First_g (x:CSet):Option Int:=some x.first
theorem r12_First_w {x:CSet} {r:Int} (h:r12_First_g x=some r):FunS Tryz.prog 187 [setV x] (intS rw) r:=by cases h;exact f_rfirst x
def charset_Has_g (x:CSet) (b:Int):Option Bool:=if 0≤b∧b<256 then some (x.has b.toNat) else none
theorem charset_Has_w {x:CSet} {b:Int} {r:Bool} (h:charset_Has_g x b=some r):FunS Tryz.prog 222 [setV x,fI .u8 b] (boolS rw) r:=by
 unfold charset_Has_g at h
 split at h
 · cases h;exact f_has x (by omega) (by omega)
 · cases h
theorem tab_utf8 {G:Nat→Prop} {w:World} (h:Tab G w):Lib.Utf8Tabs 0 1 w:=by
 obtain ⟨-,h1⟩:=h.1 (0,(List.range 256).map fun c=>.int .u8 (Lib.firstT c)) (by simp [tabs])
 obtain ⟨-,h2⟩:=h.1 (1,(List.range 32).map fun j=>.int .u8 (if j % 2=0 then Lib.accLo (j / 2) else Lib.accHi (j / 2))) (by simp [tabs])
 refine ⟨fun c hc=>h1 c _ (by simp [hc]),fun i hi=>⟨h2 (2*i) _ ?_,h2 (2*i+1) _ ?_⟩⟩
 · have e:2*i<32:=by omega
   simp [e]
 · have e:2*i+1<32:=by omega
   have e1:¬(2*i+1) % 2=0:=by omega
   have e2:(2*i+1) / 2=i:=by omega
   simp [e,e1,e2]
def utf8_Decode_g (s:ByteArray):Option (Int × Int):=some (((Lib.decodeGo s).1:Int),((Lib.decodeGo s).2:Int))
def utf8_Decode_s (R:RF) (r:Int × Int):V:=.tup [fI .i32 r.1,fI .i64 r.2]
theorem utf8_Decode_w {s:ByteArray} {r:Int × Int} (h:utf8_Decode_g s=some r):FunS Tryz.prog 89 [fS s] (utf8_Decode_s rw) r:=by
 cases h
 exact fun_elder (Tryz.call89) rfl rfl fun G w hT hG=>Tryz.utf8_DecodeRuneInString s w (tab_utf8 hT)
def strings_IndexByte_g (s:ByteArray) (c:Int):Option Int:=some (Lib.indexByte s.data.toList c.toNat.toUInt8)
theorem strings_IndexByte_w {s:ByteArray} {c r:Int} (h:strings_IndexByte_g s c=some r):FunS Tryz.prog 132 [fS s,fI .u8 c] (intS rw) r:=by
 cases h
 exact fun_elder (Tryz.call132) rfl rfl fun G w hT hG=>(Tryz.strings_IndexByte s c w).mono fun e w' ⟨h1,h2⟩=>⟨h1,h2▸Below.refl _ _⟩
def regex_Parse_g (s:ByteArray):Option (Node × GFault):=some ((Rx.parse s.data.toList).1,⟨(Rx.parse s.data.toList).2.1,((Rx.parse s.data.toList).2.2:Nat)⟩)
def regex_Parse_s (R:RF) (r:Node × GFault):V:=.tup [.agg [fI .i64 r.1.kind,fI .u64 (r.1.set.a.toNat:Int),fI .u64 (r.1.set.b.toNat:Int),fI .u64 (r.1.set.c.toNat:Int),fI .u64 (r.1.set.d.toNat:Int),.t (.slc (R _ nodeRow r.1.kids)),fI .i64 r.1.min,fI .i64 r.1.max],.agg [fI .i64 r.2.E,fI .i64 r.2.At]]
theorem regex_Parse_w {s:ByteArray} {r:Node × GFault} (h:regex_Parse_g s=some r):FunS Tryz.prog 102 [fS s] (regex_Parse_s rw) r:=by
 cases h
 have:=Rd.parse_f s
 unfold FunS at this ⊢
 have e:Rd.shP (Rx.parse s.data.toList)=regex_Parse_s rw ((Rx.parse s.data.toList).1,⟨(Rx.parse s.data.toList).2.1,((Rx.parse s.data.toList).2.2:Nat)⟩):=by
  generalize Rx.parse s.data.toList=r
  unfold Rd.shP nodeV nsV ns regex_Parse_s
  simp only [nodeRows_map]
  rfl
 rw [←e];exact this
end Gn
end Go.Proofs.YtpplemjjeefpdaaGreatDoor
namespace Go.Proofs.YtpplemjjeefpdaaGreatDoor
open Go Go.RowKit Go.Lib
open Ab Sh
namespace Lw
theorem lt_of_cell {w:World} {g j:Nat} {v:Value} (h:w.cell? ⟨g,j,none⟩=some v):g<w.heap.size:=by
 rcases Nat.lt_or_ge g w.heap.size with h4 | h4
 · exact h4
 · simp [World.cell?,Array.getElem?_eq_none h4] at h
theorem u8_of {w:World} (h3:VarReads Tryz.prog w "unicode/utf8.first" firstData) (h4:VarReads Tryz.prog w "unicode/utf8.acceptRanges" acceptData):Lib.Utf8Tabs 0 1 w:=by
 have c5:Tryz.prog.cellsOf 5=1:=by kernel_rfl
 have c2:Tryz.prog.cellsOf 178=2:=by kernel_rfl
 refine ⟨fun c hc=>?_,fun i hi=>?_⟩
 · obtain ⟨g,t,cs,fuel,p,hg,hty,hvar,hd⟩:=h3
   obtain rfl:=Option.some.inj ((show Tryz.prog.globalNamed "unicode/utf8.first"=some 0 by kernel_rfl).symm.trans hg)
   obtain rfl:=Option.some.inj ((show (Tryz.prog.globals[0]?).map (·.type)=some 176 by kernel_rfl).symm.trans hty)
   have hcs:=cells_of_tab Tryz.underlying176 Tryz.underlying5 c5 (by kernel_rfl) hd
   have:=World.var?_cell hg hvar c
   rw [this,←Array.getElem?_toList,hcs]
   simp [firstTab,hc]
 · obtain ⟨g,t,cs,fuel,p,hg,hty,hvar,hd⟩:=h4
   obtain rfl:=Option.some.inj ((show Tryz.prog.globalNamed "unicode/utf8.acceptRanges"=some 1 by kernel_rfl).symm.trans hg)
   obtain rfl:=Option.some.inj ((show (Tryz.prog.globals[1]?).map (·.type)=some 179 by kernel_rfl).symm.trans hty)
   obtain ⟨fuel',d,q,hdi,he⟩:=array_elem Tryz.underlying179 hd i hi
   simp only [List.getElem?_map,List.getElem?_range hi,Option.map_some,Option.some.injEq] at hdi
   subst hdi
   rw [c2] at he
   have hcs:=ints_of_struct Tryz.underlying178 (fun j f hj=>by
    match j,hj with
    | 0,hj=>simp at hj;subst hj;exact ⟨Tryz.underlying5,rfl,c5⟩
    | 1,hj=>simp at hj;subst hj;exact ⟨Tryz.underlying5,rfl,c5⟩
    | j+2,hj=>simp at hj) (by rw [c2];rfl) he
   have e0:=congrArg (·[0]?) hcs
   have e1:=congrArg (·[1]?) hcs
   simp only [List.getElem?_take,List.getElem?_drop] at e0 e1
   constructor
   · rw [World.var?_cell hg hvar (2*i),←Array.getElem?_toList]
     simpa [Nat.mul_comm] using e0
   · rw [World.var?_cell hg hvar (2*i+1),←Array.getElem?_toList]
     simpa [Nat.mul_comm] using e1
theorem br_of {w:World} (h:VarReads Tryz.prog w "math/bits.deBruijn64tab" (Lib.tabData .u8 (Lib.deBruijn64tab.map Int.ofNat))) (j:Nat) (v:Value) (hv:(Lib.deBruijn64tab.map fun n=>Value.int .u8 (Int.ofNat n))[j]?=some v):w.cell? ⟨3,j,none⟩=some v:=by
 have c5:Tryz.prog.cellsOf 5=1:=by kernel_rfl
 obtain ⟨g,t,cs,fuel,p,hg,hty,hvar,hd⟩:=h
 obtain rfl:=Option.some.inj ((show Tryz.prog.globalNamed "math/bits.deBruijn64tab"=some 3 by kernel_rfl).symm.trans hg)
 obtain rfl:=Option.some.inj ((show (Tryz.prog.globals[3]?).map (·.type)=some 206 by kernel_rfl).symm.trans hty)
 have hcs:=cells_of_tab Tryz.underlying206 Tryz.underlying5 c5 (by kernel_rfl) hd
 rw [World.var?_cell hg hvar j,←Array.getElem?_toList,hcs,List.map_map]
 exact hv
theorem tab_of {W:World} (h:laidMet Tryz.prog [("math/bits.deBruijn64tab",Rows.laid_math_bits_deBruijn64tab),("unicode/utf8.acceptRanges",Rows.laid_unicode_utf8_acceptRanges),("unicode/utf8.first",Rows.laid_unicode_utf8_first)] W):Tab (fun b=>b<W.heap.size) W:=by
 have e1:(Rows.laid_math_bits_deBruijn64tab:DataW Unit)=Lib.tabData .u8 (Lib.deBruijn64tab.map Int.ofNat):=by kernel_rfl
 have e2:(Rows.laid_unicode_utf8_acceptRanges:DataW Unit)=acceptData:=by kernel_rfl
 have e3:(Rows.laid_unicode_utf8_first:DataW Unit)=firstData:=by kernel_rfl
 rw [e1,e2,e3] at h
 have r1:=br_of (laidMet.reads h (n:= "math/bits.deBruijn64tab") (by simp))
 obtain ⟨u1,u2⟩:=u8_of (laidMet.reads h (n:= "unicode/utf8.first") (by simp)) (laidMet.reads h (n:= "unicode/utf8.acceptRanges") (by simp))
 have a1:∀(j:Nat) v,((List.range 256).map fun c=>Value.int .u8 (Lib.firstT c))[j]?=some v→W.cell? ⟨0,j,none⟩=some v:=fun j v hv=>by
  rw [List.getElem?_map] at hv
  rcases Nat.lt_or_ge j 256 with c | c
  · rw [List.getElem?_range c] at hv
    rw [u1 j c];exact hv
  · rw [List.getElem?_eq_none (by simpa using c)] at hv;cases hv
 have a2:∀(j:Nat) v,((List.range 32).map fun j=>Value.int .u8 (if j % 2=0 then Lib.accLo (j / 2) else Lib.accHi (j / 2)))[j]?=some v→W.cell? ⟨1,j,none⟩=some v:=fun j v hv=>by
  rw [List.getElem?_map] at hv
  rcases Nat.lt_or_ge j 32 with c | c
  · rw [List.getElem?_range c] at hv
    have hi:j / 2<16:=by omega
    obtain ⟨x,y⟩:=u2 (j / 2) hi
    rcases Nat.mod_two_eq_zero_or_one j with m | m
    · have:j=2*(j / 2):=by omega
      rw [←this] at x
      rw [x]
      simpa [m] using hv
    · have:j=2*(j / 2)+1:=by omega
      rw [←this] at y
      rw [y]
      simpa [m] using hv
  · rw [List.getElem?_eq_none (by simpa using c)] at hv;cases hv
 refine And.intro (fun p hp=>?_) (And.intro (fun p hp=>nomatch (show p∈([]:List (Nat × Bool)) from hp)) (fun p hp=>nomatch (show p∈([]:List (Nat × List Value)) from hp)))
 rcases List.mem_cons.1 hp with rfl | hp
 · exact ⟨lt_of_cell (r1 0 _ rfl),r1⟩
 rcases List.mem_cons.1 hp with rfl | hp
 · exact ⟨lt_of_cell (u1 0 (by decide)),a1⟩
 rcases List.mem_cons.1 hp with rfl | hp
 · exact ⟨lt_of_cell (u2 0 (by decide)).1,a2⟩
 · cases hp
theorem vflat {cx:Cx} {w:World} {v u:Value} (h:VRep cx w (.t (.flat v)) u):u=v:=by
 cases h with | t x v h=>cases h;rfl
theorem flat_rep {x:Value} (h:oneV x=true) (cx:Cx) (w:World):VRep cx w (.t (.flat x)) x:=.t _ _ (.flat _ h)
theorem law_true {P:Program} {f:FuncId} {args:List V} (h:Fun P f args (fB true)) {W:World} {cargs:Array Value} (hT:Tab (fun b=>b<W.heap.size) W) (hr:VReps (Cx.none fun b=>b<W.heap.size) W args cargs):
 Calls P f cargs W fun e W'=>e=.returned (.bool true)∧Below W.heap.size W W':=
 (h.2 _ W cargs (fun b h=>h) hT hr).mono fun e w' ⟨u,h1,h2,h3⟩=>by
  obtain rfl:=vflat h3
  exact ⟨h1,h2⟩
end Lw
end Go.Proofs.YtpplemjjeefpdaaGreatDoor
