/- Texts that the proof leans on. -/
import Derived.Test.YtjhbgkakhaonaaaGreatDoorK322
import Derived.Shelf.Small.Bits
import Derived.Shelf.Small.Strs
import Derived.Shelf.Small.Wraps
import Derived.Shelf.Strconv.Itoa0
import Derived.Shelf.Strings.Search1
import Derived.Shelf.Sort.Plain
import Derived.Shelf.Bits.Mul64
import Derived.Shelf.Slices.Turned
import Derived.Ground.Names2Prog
import Derived.Shelf.Slices.Clone
import Derived.Shelf.Slices.CompactI
import Derived.Shelf.Slices.SearchI
import Derived.Shelf.Slices.Cells
import Derived.Shelf.Slices.In.SortNone
import Derived.Ground.SlgnProg
import Derived.Shelf.SlicesE.Clone
import Derived.Test.YtjhbgkakhaonaaaGreatDoorRows
import Derived.Lib.LaidU8
import Derived.Lib.LaidTab
import Derived.Sort.EncStr
import Derived.Sort.Grow
import Derived.Shelf.SlSortCmp.NoneTotal
set_option linter.unusedVariables false
set_option linter.unusedSimpArgs false
set_option maxRecDepth 100000
set_option maxHeartbeats 4000000
namespace Go.Proofs.YtjhbgkakhaonaaaGreatDoor
open Go Go.RowKit
namespace Ab
section
variable {A:Run}
abbrev vPnil:V:=.t (.flat (.pointer none))
theorem shape_cells {w:World} {b:Nat} {vs:Array Value} {ty:TypeId} (h:w.heap[b]?=some (.cells vs ty (0,0))):w.shape? b=some (ty,vs.size):=by simp [World.shape?,h]
theorem frozen_cells {w:World} {b o:Nat} {vs:Array Value} {ty:TypeId} (h:w.heap[b]?=some (.cells vs ty (0,0))):w.frozen? ⟨b,o,none⟩=false:=by simp [World.frozen?,h]
theorem set_but {w:World} {b:Nat} (v:Value):But b w (w.setCell ⟨b,0,none⟩ v):=by
 refine ⟨rfl,rfl,rfl,?_,fun k hk=>?_⟩
 · show (Array.modify _ _ _).size=_
   rw [Array.size_modify]
 · show (Array.modify _ _ _)[k]?=_
   rw [Array.getElem?_modify,if_neg (fun e=>hk e.symm)]
theorem call_check {s:St} {K:V→St→Prop} {id:Nat} {c0 c1:V} (hrow:s.heap.getD id none=some (.box 131 [c0,c1])) (h0:c0=vPnil∨c0=.ptr id 0)
 (hK:K (.tup []) (s.setRow id (.box 131 [.ptr id 0,c1]))):CallA Tryz.prog A 105 [.ptr id 0] s K:=by
 refine ⟨Tryz.call105,fun cx a w cargs R hargs=>?_⟩
 obtain ⟨u0,r0,rfl,hu,hr⟩:=hargs.uncons
 obtain rfl:r0=#[]:=Array.size_eq_zero_iff.1 hr.1
 have hrow':=getD_row hrow
 have hR:=R.hp.row id _ hrow'
 cases hR with
 | box ty cs b vs hat hbl hnG hrr=>
   cases hu with
   | ptr id off b' cap es len h'=>
     rw [hat] at h'
     cases h'
     have hvs:vs.size=2:=hrr.1
     have hv0:vs[0]?=some vs[0]:=Array.getElem?_eq_getElem (by omega)
     have hv1:vs[1]?=some vs[1]:=Array.getElem?_eq_getElem (by omega)
     have r0:=hrr.2 0 c0 _ rfl hv0
     have r1:=hrr.2 1 c1 _ rfl hv1
     have c0':w.cell? ⟨b,0,none⟩=some vs[0]:=by simp [World.cell?,hbl,hv0]
     have tupR:∀{cx:Cx} {w:World},VRep cx w (.tup []) (.tuple #[]):=fun {cx w}=>.tup [] #[] rfl fun i c u h=>by simp at h
     rcases h0 with rfl | rfl
     · have e:vs[0]=.pointer none:=inv_flat r0
       rw [e] at c0'
       refine (Bl.cc_fresh b w c0' (by rw [shape_cells hbl,hvs]) (frozen_cells hbl)).mono ?_
       rintro e w' ⟨rfl,rfl⟩
       have hnew:(w.setCell ⟨b,0,none⟩ (.pointer (some ⟨b,0,none⟩))).heap[b]?=some (.cells (vs.setIfInBounds 0 (.pointer (some ⟨b,0,none⟩))) 131 (0,0)):=by
        show (Array.modify _ _ _)[b]?=_
        rw [Array.getElem?_modify,if_pos rfl,hbl];rfl
       have hsame:Same cx.G w (w.setCell ⟨b,0,none⟩ (.pointer (some ⟨b,0,none⟩))):=fun k hk=>(set_but (b:=b) (.pointer (some ⟨b,0,none⟩))).other k (fun e=>hnG (e▸hk))
       have R':=R.write hrow' hat (set_but (.pointer (some ⟨b,0,none⟩))) (.box 131 [.ptr id 0,c1] b _ hat hnew hnG ⟨by simp [hvs],fun i c u h1 h2=>by
        match i,h1,h2 with
        | 0,h1,h2=>
          cases h1
          rw [Array.getElem?_setIfInBounds_self_of_lt (by omega)] at h2
          cases h2
          exact .ptr id 0 b _ _ _ hat
        | 1,h1,h2=>
          cases h1
          rw [Array.getElem?_setIfInBounds_ne (by decide),hv1] at h2
          cases h2
          exact r1.mono hsame (Cx.le.refl cx)
        | n+2,h1,h2=>simp at h1⟩) (fun h=>by cases h)
       exact .inl ⟨_,_,_,cx,rfl,hK,tupR,R'⟩
     · have e:vs[0]=.pointer (some ⟨b,0,none⟩):=by
        generalize vs[0]=y at r0
        cases r0 with
        | ptr id off b' cap es len h'=>rw [hat] at h';cases h';rfl
       rw [e] at c0'
       refine (Bl.cc_used b w c0').mono ?_
       rintro e w' ⟨rfl,rfl⟩
       have es:s.setRow id (.box 131 [.ptr id 0,c1])=s:=by
        unfold St.setRow
        congr 1
        have hlt:id<s.heap.length:=(List.getElem?_eq_some_iff.1 hrow').1
        have:=(List.getElem?_eq_some_iff.1 hrow').2
        rw [←this,List.set_getElem_self]
       rw [es] at hK
       exact .inl ⟨_,_,_,cx,rfl,hK,tupR,R⟩
theorem Rel.lose {cx:Cx} {s:St} {a:Act} {w w':World} {id ty es g cap es' len:Nat} {rows:Rows} (R:Rel A cx s a w) (hr:s.heap[id]?=some (some (.list ty es rows))) (hfree:A.pin id=none) (hat:cx.at_ id=some (.at g cap es' len)) (hb:Bl.But1 g w w'):
 Rel A ⟨fun i=>if i=id then none else cx.at_ i,cx.G⟩ (s.drop id) a w':=by
 obtain ⟨b1,b2,b3,b4,b5⟩:=hb
 have hid:id<s.heap.length:=(List.getElem?_eq_some_iff.1 hr).1
 have hlv:=R.hp.live_lt hr hat
 have hs:Same cx.G w w':=fun b hb=>b5 b (R.kp.G1 b hb) (fun e=>hlv.2 (e▸hb))
 have hat':∀i B',i≠id→cx.at_ i=some B'→(if i=id then none else cx.at_ i)=some B':=fun i B' hne h=>by rw [if_neg hne];exact h
 have hG:∀b,cx.G b→cx.G b:=fun b h=>h
 have hh:∀(i:Nat) x,(s.drop id).heap[i]?=some (some x)→i≠id∧∃y,s.heap[i]?=some (some y)∧killRow id (some y)=some x:=fun i x hx=>by
  simp only [St.drop] at hx
  by_cases e:id=i
  · subst e
    rw [List.getElem?_set_self (by simpa using hid)] at hx
    cases hx
  · rw [List.getElem?_set_ne e,List.getElem?_map] at hx
    obtain ⟨y,hy,hk⟩:=Option.map_eq_some_iff.1 hx
    cases y with
    | none=>cases hk
    | some y=>exact ⟨Ne.symm e,y,hy,hk⟩
 have atne:∀{i:Nat},i≠id→(if i=id then none else cx.at_ i)=cx.at_ i:=fun h=>if_neg h
 have old:∀(i:Nat) y b cap es' len,i≠id→s.heap[i]?=some (some y)→cx.at_ i=some (.at b cap es' len)→w'.heap[b]?=w.heap[b]?:=fun i y b cap es' len hne hy hb=>b5 b (R.hp.live_lt hy hb).1 fun e=>by
  subst e
  exact hne (R.hp.inj _ _ _ _ _ _ _ _ _ _ _ hy hr hb hat)
 constructor
 · exact R.tm.killL hs hat' hG
 · exact R.df
 · constructor
   · intro i x hx
     obtain ⟨hne,y,hy,hk⟩:=hh i x hx
     have hR:=R.hp.row i y hy
     cases hR with
     | box ty' cs b vs hat2 hbl hn hrr=>
       simp only [killRow,Option.some.injEq] at hk
       subst hk
       refine .box ty' _ b vs ?_ ((old i _ b _ _ _ hne hy hat2).trans hbl) hn (hrr.killL hs hat' hG)
       show (if i=id then none else cx.at_ i)=_
       rw [atne hne,hat2,killL_map,List.length_map]
     | listN ty' es' z1 hat2 hz1=>
       simp only [killRow,Option.some.injEq] at hk
       subst hk
       exact .listN _ _ z1 (by show (if i=id then none else cx.at_ i)=_;rw [atne hne];exact hat2) hz1
     | list ty' es' rows2 b cap vs hat2 hbl hn hcap hmax hsz hes hrr=>
       simp only [killRow,Option.some.injEq] at hk
       subst hk
       refine .list ty' es' rows2 b cap vs (by show (if i=id then none else cx.at_ i)=_;rw [atne hne];exact hat2) ((old i _ b _ _ _ hne hy hat2).trans hbl) hn hcap hmax hsz hes (fun k j t ht=>?_)
       obtain ⟨u,h1,h2⟩:=hrr k j t ht
       exact ⟨u,h1,h2.mono hs hG⟩
     | iter s' pos b hat2 hbl hn h0=>
       simp only [killRow,Option.some.injEq] at hk
       subst hk
       exact .iter s' pos b (by show (if i=id then none else cx.at_ i)=_;rw [atne hne];exact hat2) ((old i _ b _ _ _ hne hy hat2).trans hbl) hn h0
     | map c' rows' b es' clock' hat2 hbl hn h0=>
       simp only [killRow,Option.some.injEq] at hk
       subst hk
       exact .map c' rows' b es' clock' (by show (if i=id then none else cx.at_ i)=_;rw [atne hne];exact hat2) ((old i _ b _ _ _ hne hy hat2).trans hbl) hn h0
     | hole ty' rows2 r kid b cap vs hat2 hbl hn hcap hmax hsz hes hlt hrr hk2=>
       simp only [killRow,Option.some.injEq] at hk
       subst hk
       refine .hole ty' rows2 r _ b cap vs (by show (if i=id then none else cx.at_ i)=_;rw [atne hne];exact hat2) ((old i _ b _ _ _ hne hy hat2).trans hbl) hn hcap hmax hsz hes hlt (fun j t hj ht=>?_) fun k hk'=>?_
       · obtain ⟨u,h1,h2⟩:=hrr j t hj ht
         exact ⟨u,h1,h2.mono hs hG⟩
       · obtain ⟨hne2,hk'⟩:=killK_some hk'
         obtain ⟨u,h1,h2⟩:=hk2 k hk'
         exact ⟨u,h1,(VRep.kill2 (cx':=⟨fun i=>if i=id then none else cx.at_ i,cx.G⟩) (id:=id) h2 hs hat' hG).1 (by simpa [V.names] using hne2)⟩
   · intro i i' x x' b cap es1 len cap' es2 len' h1 h2 h3 h4
     obtain ⟨hne,y,hy,-⟩:=hh i x h1
     obtain ⟨hne',y',hy',-⟩:=hh i' x' h2
     have h3':(if i=id then none else cx.at_ i)=some (.at b cap es1 len):=h3
     have h4':(if i'=id then none else cx.at_ i')=some (.at b cap' es2 len'):=h4
     rw [atne hne] at h3'
     rw [atne hne'] at h4'
     exact R.hp.inj _ _ _ _ _ _ _ _ _ _ _ hy hy' h3' h4'
   · intro i hi
     simp only [St.drop,List.length_set,List.length_map] at hi
     show (if i=id then none else cx.at_ i)=none
     rw [if_neg (by omega)]
     exact R.hp.dom i hi
 · constructor
   · rw [b1];exact R.kp.os
   · rw [b2];exact R.kp.tape
   · rw [b3];exact R.kp.output
   · exact Nat.le_trans R.kp.size b4
   · intro b hb hM
     rw [b5 b (Nat.lt_of_lt_of_le hb R.kp.size) (fun e=>?_)]
     · exact R.kp.block b hb hM
     · subst e
       rcases R.kp.live _ _ _ _ _ _ hr hat with h | h
       · exact hM h
       · omega
   · intro i x b cap es' len h1 h2
     obtain ⟨hne,y,hy,-⟩:=hh i x h1
     have h2':(if i=id then none else cx.at_ i)=some (.at b cap es' len):=h2
     rw [atne hne] at h2'
     exact R.kp.live _ _ _ _ _ _ hy h2'
   · exact R.kp.G0
   · exact fun b h=>Nat.lt_of_lt_of_le (R.kp.G1 b h) b4
   · exact R.kp.G2
   · intro i B h
     have:=R.kp.pin i B h
     have hne:i≠id:=fun e=>by subst e;rw [hfree] at h;cases h
     exact ⟨hat' _ _ hne this.1,this.2⟩
   · simp only [St.drop,List.length_set,List.length_map];exact R.kp.base
   · exact R.kp.tab.mono hs hG
 · exact R.bs
def ofB (l:List Int):List UInt8:=l.map fun n=>UInt8.ofNat n.toNat
theorem call_str {s:St} {K:V→St→Prop} {id k:Nat} {c0:V} {l:List Int} (hrow:s.heap.getD id none=some (.box 131 [c0,.lst k])) (hl:s.heap.getD k none=some (.list 5 1 (l.map fun n=>[.flat (.int .u8 n)]))) (hok:∀n∈l,0≤n∧n<256) (hfree:A.pin k=none)
 (hK:K (fS ⟨(ofB l).toArray⟩) (s.drop k)):CallA Tryz.prog A 96 [.ptr id 0] s K:=by
 refine ⟨Tryz.call96,fun cx a w cargs R hargs=>?_⟩
 obtain ⟨u0,r0,rfl,hu,hr⟩:=hargs.uncons
 obtain rfl:r0=#[]:=Array.size_eq_zero_iff.1 hr.1
 have hrow':=getD_row hrow
 have hl':=getD_row hl
 have hR:=R.hp.row id _ hrow'
 have hRl:=R.hp.row k _ hl'
 have grown:∀{w':World},Below w.heap.size w w'→∃cx',Rel A cx' (s.drop k) a w':=fun {w'} hbl=>by
  obtain ⟨-,R1⟩:=step_grown (v:=.tup []) (u:=.tuple #[]) R hbl (.tup [] #[] rfl fun i c u h=>by simp at h)
  exact ⟨_,R1.drop hl' hfree⟩
 cases hR with
 | box ty cs b vs hat hbl hnG hrr=>
   cases hu with
   | ptr _ off b' cap es len h'=>
     rw [hat] at h'
     cases h'
     have hvs:vs.size=2:=hrr.1
     have hv1:vs[1]?=some vs[1]:=Array.getElem?_eq_getElem (by omega)
     have r1:=hrr.2 1 (.lst k) _ rfl hv1
     have evs:vs=#[vs[0],vs[1]]:=by
      apply Array.ext
      · simp [hvs]
      · intro i h1 h2
        match i,h1,h2 with
        | 0,_,_=>rfl
        | 1,_,_=>rfl
        | n+2,h1,_=>omega
     generalize vs[0]=p at evs
     generalize vs[1]=y at evs r1
     subst evs
     clear hv1
     cases r1 with
     | lstN _ a0 z0 h hz0=>
       have ha0:a0=none:=by
        refine hz0 ?_
        generalize hrows:(l.map fun n=>[T.flat (.int .u8 n)])=rows at hRl
        cases hRl with
        | listN ty es z1 h2 hz1=>
          rw [h] at h2
          cases h2
          cases hzz:z0 with
          | true=>rfl
          | false=>exact absurd rfl (hz1 hzz)
        | list ty es rows b cap vs h2=>rw [h] at h2;cases h2
       subst ha0
       have hl0:l=[]:=by
        generalize hrows:(l.map fun n=>[T.flat (.int .u8 n)])=rows at hRl
        cases hRl with
        | listN=>simpa using hrows
        | list ty es rows b cap vs h2=>rw [h] at h2;cases h2
       subst hl0
       refine (Bl.str_nil b p w hbl).mono ?_
       rintro e w' ⟨rfl,hb⟩
       obtain ⟨cx',R'⟩:=grown hb
       exact .inl ⟨_,_,_,cx',rfl,hK,rep_flat rfl,R'⟩
     | lst _ g cap es len h=>
       have key:∃cur,w.heap[g]?=some (.cells cur 5 (0,0))∧l.length≤cap∧cap≤maxLen∧cur.size=cap∧len=l.length∧∀(j:Nat) (x:UInt8),(ofB l)[j]?=some x→w.cell? ⟨g,j,none⟩=some (.int .u8 x.toNat):=by
        generalize hrows:(l.map fun n=>[T.flat (.int .u8 n)])=rows at hRl
        cases hRl with
        | listN ty es z1 h2 hz1=>rw [h] at h2;cases h2
        | list ty es rows b cap vs h2 hb2 hn hcap hmax hsz hes hrr2=>
          rw [h] at h2
          cases h2
          have hlen:rows.length=l.length:=by rw [←hrows];simp
          refine ⟨vs,hb2,by omega,hmax,by simpa using hsz,hlen,fun j x hx=>?_⟩
          unfold ofB at hx
          rw [List.getElem?_map] at hx
          obtain ⟨n,hn2,rfl⟩:=Option.map_eq_some_iff.1 hx
          obtain ⟨u,q1,q2⟩:=hrr2 j 0 (.flat (.int .u8 n)) (by rw [←hrows,List.getElem?_map,hn2];rfl)
          have:=trep_flat q2
          subst this
          have ho:=hok n (List.mem_of_getElem? hn2)
          simp only [World.cell?,hb2]
          rw [show j*1+0=j by omega] at q1
          simp only [Option.isSome_none,Bool.false_eq_true,if_false,q1]
          congr 2
          rw [UInt8.toNat_ofNat']
          omega
       obtain ⟨cur,hg,q1,q2,q3,rfl,q5⟩:=key
       by_cases h0:l=[]
       · subst h0
         by_cases hc:cap=0
         · subst hc
           refine (Bl.str_noroom b g p cur w hbl hg).mono ?_
           rintro e w' ⟨rfl,hb⟩
           obtain ⟨cx',R'⟩:=grown hb
           exact .inl ⟨_,_,_,cx',rfl,hK,rep_flat rfl,R'⟩
         · refine (Bl.str_room b g cap p w hc hbl).mono ?_
           rintro e w' ⟨rfl,hb⟩
           obtain ⟨cx',R'⟩:=grown hb
           exact .inl ⟨_,_,_,cx',rfl,hK,rep_flat rfl,R'⟩
       · have hll:(ofB l).length=l.length:=by simp [ofB]
         refine (Bl.str_row b g cap p cur (ofB l) w (by rw [hll];exact hbl) hg (by omega) q2 q3 q5 (fun e=>h0 (List.length_eq_zero_iff.1 (by rw [←hll,e];rfl)))).mono ?_
         rintro e w' ⟨rfl,hb⟩
         exact .inl ⟨_,_,_,_,rfl,hK,rep_flat rfl,R.lose hl' hfree h hb⟩
theorem call_str0 {s:St} {K:V→St→Prop} {id:Nat} {c0:V} (hrow:s.heap.getD id none=some (.box 131 [c0,vNil])) (hK:K (fS ByteArray.empty) s):CallA Tryz.prog A 96 [.ptr id 0] s K:=by
 refine ⟨Tryz.call96,fun cx a w cargs R hargs=>?_⟩
 obtain ⟨u0,r0,rfl,hu,hr⟩:=hargs.uncons
 obtain rfl:r0=#[]:=Array.size_eq_zero_iff.1 hr.1
 have hR:=R.hp.row id _ (getD_row hrow)
 cases hR with
 | box ty cs b vs hat hbl hnG hrr=>
   cases hu with
   | ptr _ off b' cap es len h'=>
     rw [hat] at h'
     cases h'
     have hvs:vs.size=2:=hrr.1
     have hv1:vs[1]?=some vs[1]:=Array.getElem?_eq_getElem (by omega)
     have r1:=inv_flat (hrr.2 1 vNil _ rfl hv1)
     have evs:vs=#[vs[0],.slice none 0 0]:=by
      apply Array.ext
      · simp [hvs]
      · intro i h1 h2
        match i,h1,h2 with
        | 0,_,_=>rfl
        | 1,_,_=>exact r1
        | n+2,h1,_=>omega
     rw [evs] at hbl
     refine (Bl.str_nil b _ w hbl).mono ?_
     rintro e w' ⟨rfl,hb⟩
     obtain ⟨-,R1⟩:=step_grown (v:=.tup []) (u:=.tuple #[]) R hb (.tup [] #[] rfl fun i c u h=>by simp at h)
     exact .inl ⟨_,_,_,_,rfl,hK,rep_flat rfl,R1⟩
end
end Ab
end Go.Proofs.YtjhbgkakhaonaaaGreatDoor
namespace Go.Proofs.YtjhbgkakhaonaaaGreatDoor
open Go Go.RowKit
open Ab
namespace Sh
section
variable {A:Run} {W:Wd} {E:Env} (hE:dom Tryz.prog A=mkE W E)
include hE
theorem L_check {s:St} {K:V→St→Prop} {id:Nat} {c0 c1:V} (hrow:s.heap.getD id none=some (.box 131 [c0,c1])) (h0:c0=vPnil∨c0=.ptr id 0) (hK:K (.tup []) (s.setRow id (.box 131 [.ptr id 0,c1]))):E.call 105 [.ptr id 0] s K:=by
 show (mkE W E).call _ _ _ _
 rw [←hE]
 exact call_check hrow h0 hK
theorem L_str {R:RF} (hR:R=rw) {β:Type} {v:β} {X:ByteArray→Option β} {s:St} {K:V→St→Prop} {id k:Nat} {c0:V} {l:List Int} (h:(strB l).bind X=some v) (hrow:s.heap.getD id none=some (.box 131 [c0,.lst k])) (hl:s.heap.getD k none=some (.list 5 1 (R Int (cI .u8) l))) (hf:E.free k)
 (hK:∀x,X x=some v→K (fS x) (s.drop k)):E.call 96 [.ptr id 0] s K:=by
 obtain ⟨x,h1,h2⟩:=conv_some h
 have hf':(mkE W E).free k:=hf
 show (mkE W E).call _ _ _ _
 rw [←hE] at hf' ⊢
 subst hR
 unfold strB at h1
 split at h1
 case isFalse=>cases h1
 rename_i hok
 cases h1
 exact call_str hrow hl (fun n hn=>by simpa using List.all_eq_true.1 hok n hn) hf' (hK _ h2)
theorem L_str0 {s:St} {K:V→St→Prop} {id:Nat} {c0:V} (hrow:s.heap.getD id none=some (.box 131 [c0,vNil])) (hK:K (fS ByteArray.empty) s):E.call 96 [.ptr id 0] s K:=by
 show (mkE W E).call _ _ _ _
 rw [←hE]
 exact call_str0 hrow hK
end
end Sh
end Go.Proofs.YtjhbgkakhaonaaaGreatDoor
namespace Go.Proofs
open Go.Shelf
def Tryz.lays137_ren:Go.Shelf.Ren:=⟨fun | 137=>44 | 217=>70 | 266=>84 | n=>n,fun | 9=>9 | 5=>5 | 3=>3 | n=>n,fun | n=>n⟩
theorem Tryz.lays137:Go.Proofs.Lays.n137 Tryz.prog Tryz.lays137_ren:={
 mixed:=by kernel_rfl
 f137:=Tryz.func44.trans (congrArg some (by kernel_rfl))
 f217:=Tryz.func70.trans (congrArg some (by kernel_rfl))
 f266:=Tryz.func84.trans (congrArg some (by kernel_rfl))
 t3:=Tryz.underlying3
 a3:=Tryz.isAgg3
 z3:=Tryz.sizeOf3
 v3:=Tryz.zeroValue3
 t5:=Tryz.underlying5
 a5:=Tryz.isAgg5
 z5:=Tryz.sizeOf5
 v5:=Tryz.zeroValue5
 t9:=Tryz.underlying9
 a9:=Tryz.isAgg9
 z9:=Tryz.sizeOf9
 v9:=Tryz.zeroValue9}
open Go.RowKit in
theorem Tryz.strings_IndexByte (s:ByteArray) (c:Int) (w:World):
 Calls Tryz.prog 44 #[.string s,.int .u8 c] w fun e w'=>e=.returned (.int .i64 (Lib.indexByte s.data.toList c.toNat.toUInt8))∧w'=w:=Any.strings_IndexByte Tryz.lays137 s c w
def Tryz.lays189_ren:Go.Shelf.Ren:=⟨fun | 189=>88 | 125=>99 | 257=>98 | 128=>115 | 129=>116 | 294=>106 | 295=>107 | 296=>108 | 297=>109 | 298=>110 | 299=>111 | 216=>112 | 300=>113 | 301=>114 | 328=>121 | 329=>122 | 330=>123 | 331=>124 | 332=>125 | 215=>126 | 343=>133 | n=>n,fun | 28=>23 | 3=>3 | 46=>103 | 0=>0 | 51=>119 | 53=>43 | 4=>4 | 183=>145 | 182=>144 | 131=>117 | 5=>5 | 9=>9 | 218=>157 | 222=>161 | 228=>166 | 229=>79 | n=>n,fun | n=>n⟩
theorem Tryz.lays189:Go.Proofs.Lays.n189 Tryz.prog Tryz.lays189_ren:={
 mixed:=by kernel_rfl
 f125:=Tryz.func99.trans (congrArg some (by kernel_rfl))
 f128:=Tryz.func115.trans (congrArg some (by kernel_rfl))
 f129:=Tryz.func116.trans (congrArg some (by kernel_rfl))
 f189:=Tryz.func88.trans (congrArg some (by kernel_rfl))
 f215:=Tryz.func126.trans (congrArg some (by kernel_rfl))
 f216:=Tryz.func112.trans (congrArg some (by kernel_rfl))
 f257:=Tryz.func98.trans (congrArg some (by kernel_rfl))
 f294:=Tryz.func106.trans (congrArg some (by kernel_rfl))
 f295:=Tryz.func107.trans (congrArg some (by kernel_rfl))
 f296:=Tryz.func108.trans (congrArg some (by kernel_rfl))
 f297:=Tryz.func109.trans (congrArg some (by kernel_rfl))
 f298:=Tryz.func110.trans (congrArg some (by kernel_rfl))
 f299:=Tryz.func111.trans (congrArg some (by kernel_rfl))
 f300:=Tryz.func113.trans (congrArg some (by kernel_rfl))
 f301:=Tryz.func114.trans (congrArg some (by kernel_rfl))
 f328:=Tryz.func121.trans (congrArg some (by kernel_rfl))
 f329:=Tryz.func122.trans (congrArg some (by kernel_rfl))
 f330:=Tryz.func123.trans (congrArg some (by kernel_rfl))
 f331:=Tryz.func124.trans (congrArg some (by kernel_rfl))
 f332:=Tryz.func125.trans (congrArg some (by kernel_rfl))
 f343:=Tryz.func133.trans (congrArg some (by kernel_rfl))
 t0:=Tryz.underlying0
 a0:=Tryz.isAgg0
 z0:=Tryz.sizeOf0
 v0:=Tryz.zeroValue0
 t3:=Tryz.underlying3
 a3:=Tryz.isAgg3
 z3:=Tryz.sizeOf3
 v3:=Tryz.zeroValue3
 t4:=Tryz.underlying4
 a4:=Tryz.isAgg4
 z4:=Tryz.sizeOf4
 v4:=Tryz.zeroValue4
 t5:=Tryz.underlying5
 a5:=Tryz.isAgg5
 z5:=Tryz.sizeOf5
 v5:=Tryz.zeroValue5
 t9:=Tryz.underlying9
 a9:=Tryz.isAgg9
 z9:=Tryz.sizeOf9
 v9:=Tryz.zeroValue9
 t28:=Tryz.underlying23
 a28:=Tryz.isAgg23
 z28:=Tryz.sizeOf23
 v28:=Tryz.zeroValue23
 t46:=Tryz.underlying103
 a46:=Tryz.isAgg103
 z46:=Tryz.sizeOf103
 v46:=Tryz.zeroValue103
 t51:=Tryz.underlying119
 a51:=Tryz.isAgg119
 z51:=Tryz.sizeOf119
 v51:=Tryz.zeroValue119
 t53:=Tryz.underlying43
 a53:=Tryz.isAgg43
 z53:=Tryz.sizeOf43
 v53:=Tryz.zeroValue43
 t131:=Tryz.underlying117
 a131:=Tryz.isAgg117
 z131:=Tryz.sizeOf117
 v131:=Tryz.zeroValue117
 t182:=Tryz.underlying144
 a182:=Tryz.isAgg144
 z182:=Tryz.sizeOf144
 v182:=Tryz.zeroValue144
 t183:=Tryz.underlying145
 a183:=Tryz.isAgg145
 z183:=Tryz.sizeOf145
 v183:=Tryz.zeroValue145
 t218:=Tryz.underlying157
 a218:=Tryz.isAgg157
 z218:=Tryz.sizeOf157
 v218:=Tryz.zeroValue157
 t222:=Tryz.underlying161
 a222:=Tryz.isAgg161
 z222:=Tryz.sizeOf161
 v222:=Tryz.zeroValue161
 t228:=Tryz.underlying166
 a228:=Tryz.isAgg166
 z228:=Tryz.sizeOf166
 v228:=Tryz.zeroValue166
 t229:=Tryz.underlying79
 a229:=Tryz.isAgg79
 z229:=Tryz.sizeOf79
 v229:=Tryz.zeroValue79}
open Go.Sort Go.RowKit in
theorem Tryz.slices_Sort_int (blk off cap:Nat) (zs:List Int) (w:World) (hH:Holds (Value.int .i64) w blk off zs.toArray) (hblk:blk<w.heap.size) (hsz:zs.length<4611686018427387904):
 Calls Tryz.prog 88 #[.slice (some ⟨blk,off,none⟩) zs.length cap] w fun e w'=>
  e=.returned (.tuple #[])∧∃n os,w'=grow (putRow (Value.int .i64) (Sort.ahead w n) blk off (zs.mergeSort fun x y=>decide (x≤y)).toArray) os:=Any.slices_Sort_int Tryz.lays189 blk off cap zs w hH hblk hsz
open Go.RowKit Go.Sort in
theorem Tryz.slices_Sort_int_none (p:Option Addr) (cap:Nat) (w:World):
 Calls Tryz.prog 88 #[.slice p 0 cap] w fun e w'=>e=.returned (.tuple #[])∧w'=w:=Any.slices_Sort_int_none Tryz.lays189 p cap w
end Go.Proofs
namespace Go.Proofs.YtjhbgkakhaonaaaGreatDoor
open Go Go.RowKit
open Ab Sh
namespace Gn
def setS (R:RF) (S:CSet):V:=setV S
def boolS (R:RF) (b:Bool):V:=shB b
def intS (R:RF) (n:Int):V:=shI n
def r12_Has_g (x:CSet) (b:Int):Option Bool:=if 0≤b∧b<256 then some (x.has b.toNat) else none
theorem r12_Has_w {x:CSet} {b:Int} {r:Bool} (h:r12_Has_g x b=some r):FunS Tryz.prog 38 [setV x,fI .i64 b] (boolS rw) r:=by
 unfold r12_Has_g at h
 split at h
 · cases h;exact f_rhas x (by omega) (by omega)
 · cases h
def charset_Has_g (x:CSet) (b:Int):Option Bool:=if 0≤b∧b<256 then some (x.has b.toNat) else none
theorem charset_Has_w {x:CSet} {b:Int} {r:Bool} (h:charset_Has_g x b=some r):FunS Tryz.prog 32 [setV x,fI .u8 b] (boolS rw) r:=by
 unfold charset_Has_g at h
 split at h
 · cases h;exact f_has x (by omega) (by omega)
 · cases h
def strings_IndexByte_g (s:ByteArray) (c:Int):Option Int:=some (Lib.indexByte s.data.toList c.toNat.toUInt8)
theorem strings_IndexByte_w {s:ByteArray} {c r:Int} (h:strings_IndexByte_g s c=some r):FunS Tryz.prog 44 [fS s,fI .u8 c] (intS rw) r:=by
 cases h
 exact fun_elder (Tryz.call44) rfl rfl fun G w hT hG=>(Tryz.strings_IndexByte s c w).mono fun e w' ⟨h1,h2⟩=>⟨h1,h2▸Below.refl _ _⟩
def regex_Parse_g (s:ByteArray):Option (Node × GFault):=some ((Rx.parse s.data.toList).1,⟨(Rx.parse s.data.toList).2.1,((Rx.parse s.data.toList).2.2:Nat)⟩)
def regex_Parse_s (R:RF) (r:Node × GFault):V:=.tup [.agg [fI .i64 r.1.kind,fI .u64 (r.1.set.a.toNat:Int),fI .u64 (r.1.set.b.toNat:Int),fI .u64 (r.1.set.c.toNat:Int),fI .u64 (r.1.set.d.toNat:Int),.t (.slc (R _ nodeRow r.1.kids)),fI .i64 r.1.min,fI .i64 r.1.max],.agg [fI .i64 r.2.E,fI .i64 r.2.At]]
theorem regex_Parse_w {s:ByteArray} {r:Node × GFault} (h:regex_Parse_g s=some r):FunS Tryz.prog 24 [fS s] (regex_Parse_s rw) r:=by
 cases h
 have:=Rd.parse_f s
 unfold FunS at this ⊢
 have e:Rd.shP (Rx.parse s.data.toList)=regex_Parse_s rw ((Rx.parse s.data.toList).1,⟨(Rx.parse s.data.toList).2.1,((Rx.parse s.data.toList).2.2:Nat)⟩):=by
  generalize Rx.parse s.data.toList=r
  unfold Rd.shP nodeV nsV ns regex_Parse_s
  simp only [nodeRows_map]
  rfl
 rw [←e];exact this
end Gn
end Go.Proofs.YtjhbgkakhaonaaaGreatDoor
namespace Go.Proofs.YtjhbgkakhaonaaaGreatDoor
open Go Go.RowKit Go.Lib
open Ab Sh
namespace Lw
theorem lt_of_cell {w:World} {g j:Nat} {v:Value} (h:w.cell? ⟨g,j,none⟩=some v):g<w.heap.size:=by
 rcases Nat.lt_or_ge g w.heap.size with h4 | h4
 · exact h4
 · simp [World.cell?,Array.getElem?_eq_none h4] at h
theorem br_of {w:World} (h:VarReads Tryz.prog w "math/bits.deBruijn64tab" (Lib.tabData .u8 (Lib.deBruijn64tab.map Int.ofNat))) (j:Nat) (v:Value) (hv:(Lib.deBruijn64tab.map fun n=>Value.int .u8 (Int.ofNat n))[j]?=some v):w.cell? ⟨1,j,none⟩=some v:=by
 have c5:Tryz.prog.cellsOf 5=1:=by kernel_rfl
 obtain ⟨g,t,cs,fuel,p,hg,hty,hvar,hd⟩:=h
 obtain rfl:=Option.some.inj ((show Tryz.prog.globalNamed "math/bits.deBruijn64tab"=some 1 by kernel_rfl).symm.trans hg)
 obtain rfl:=Option.some.inj ((show (Tryz.prog.globals[1]?).map (·.type)=some 169 by kernel_rfl).symm.trans hty)
 have hcs:=cells_of_tab Tryz.underlying169 Tryz.underlying5 c5 (by kernel_rfl) hd
 rw [World.var?_cell hg hvar j,←Array.getElem?_toList,hcs,List.map_map]
 exact hv
theorem vflat {cx:Cx} {w:World} {v u:Value} (h:VRep cx w (.t (.flat v)) u):u=v:=by
 cases h with | t x v h=>cases h;rfl
theorem flat_rep {x:Value} (h:oneV x=true) (cx:Cx) (w:World):VRep cx w (.t (.flat x)) x:=.t _ _ (.flat _ h)
theorem law_true {P:Program} {f:FuncId} {args:List V} (h:Fun P f args (fB true)) {W:World} {cargs:Array Value} (hT:Tab (fun b=>b<W.heap.size) W) (hr:VReps (Cx.none fun b=>b<W.heap.size) W args cargs):
 Calls P f cargs W fun e W'=>e=.returned (.bool true)∧Below W.heap.size W W':=
 (h.2 _ W cargs (fun b h=>h) hT hr).mono fun e w' ⟨u,h1,h2,h3⟩=>by
  obtain rfl:=vflat h3
  exact ⟨h1,h2⟩
end Lw
end Go.Proofs.YtjhbgkakhaonaaaGreatDoor
namespace Go.Proofs.YtjhbgkakhaonaaaGreatDoor
open Go Go.RowKit Go.Lib
open Ab Sh
namespace Lw
theorem tab1_of {W:World} (h:laidMet Tryz.prog [("math/bits.deBruijn64tab",Rows.laid_math_bits_deBruijn64tab)] W):Tab (fun b=>b<W.heap.size) W:=by
 have e1:(Rows.laid_math_bits_deBruijn64tab:DataW Unit)=Lib.tabData .u8 (Lib.deBruijn64tab.map Int.ofNat):=by kernel_rfl
 rw [e1] at h
 have r1:=br_of (laidMet.reads h (n:= "math/bits.deBruijn64tab") (by simp))
 refine And.intro (fun p hp=>?_) (And.intro (fun p hp=>nomatch (show p∈([]:List (Nat × Bool)) from hp)) (fun p hp=>nomatch (show p∈([]:List (Nat × List Value)) from hp)))
 rcases List.mem_cons.1 hp with rfl | hp
 · exact ⟨lt_of_cell (r1 0 _ rfl),r1⟩
 · cases hp
end Lw
end Go.Proofs.YtjhbgkakhaonaaaGreatDoor
namespace Go.Proofs.YtjhbgkakhaonaaaGreatDoor
open Go Go.RowKit Go.Sort
open Ab
namespace Sh
theorem perm_uniq {α:Type} {le:α→α→Prop} (anti:∀a b,le a b→le b a→a=b):∀(l m:List α),l.Perm m→l.Pairwise le→m.Pairwise le→l=m
 | [],m,p,_,_=>(List.Perm.eq_nil p.symm).symm
 | a::l,[],p,_,_=>absurd (List.Perm.eq_nil p) (by simp)
 | a::l,b::m,p,hl,hm=>by
   have hl':=List.pairwise_cons.1 hl
   have hm':=List.pairwise_cons.1 hm
   have hab:a=b:=by
    rcases List.mem_cons.1 (p.mem_iff.1 (List.mem_cons_self (a:=a) (l:=l))) with e | h1
    · exact e
    · rcases List.mem_cons.1 (p.mem_iff.2 (List.mem_cons_self (a:=b) (l:=m))) with e | h2
      · exact e.symm
      · exact anti _ _ (hl'.1 b h2) (hm'.1 a h1)
   subst hab
   rw [perm_uniq anti l m (List.perm_cons a |>.1 p) hl'.2 hm'.2]
end Sh
end Go.Proofs.YtjhbgkakhaonaaaGreatDoor
namespace Go.Proofs.YtjhbgkakhaonaaaGreatDoor
open Go Go.RowKit Go.Sort
open Ab
namespace Sh
def NoneL (P:Program) (f:FuncId) (args:List V):Prop:=
 Callable P f∧∀(G:Nat→Prop) (w:World) (p:Option Addr) (cap:Nat) (cargs:Array Value),VReps (Cx.none G) w args cargs→Calls P f (#[.slice p 0 cap]++cargs) w fun e w'=>e=.returned (.tuple #[])∧w'=w
theorem call_noneL {P:Program} {A:Run} {f:FuncId} {ty es id:Nat} {args:List V} {s:St} {K:V→St→Prop} (hM:NoneL P f args) (hrow:s.heap.getD id none=some (.list ty es [])) (hca:args.all V.closedB=true) (hK:K (.tup []) s):CallA P A f (.lst id::args) s K:=by
 refine ⟨hM.1,fun cx a w cargs R hargs=>?_⟩
 obtain ⟨u0,r0,rfl,hu,hr⟩:=hargs.uncons
 have hR:=R.hp.row id _ (getD_row hrow)
 have fin:∀p cap,Calls P f (#[.slice p 0 cap]++r0) w fun e w'=>(∃u v s' cx',e=.returned u∧K v s'∧VRep cx' w' v u∧Rel A cx' s' a w')∨∃ch,e=.panicked ch∧PanAt A a ch w':=fun p cap=>by
  refine (hM.2 cx.G w p cap r0 (closed_reps hr hca)).mono ?_
  rintro e w' ⟨rfl,rfl⟩
  exact .inl ⟨_,_,s,cx,rfl,hK,.tup _ _ rfl (fun i c u h=>by simp at h),R⟩
 cases hu with
 | lstN id a0 z0 h' hz0=>exact fin _ _
 | lst id b cap es' len h'=>
   cases hR with
   | listN _ _ z hat hz=>rw [hat] at h';cases h'
   | list _ _ _ b' cap' vs hat=>
     rw [hat] at h'
     cases h'
     exact fin _ _
theorem set_same {α:Type}:∀{l:List α} {i:Nat} {x:α},l[i]?=some x→l.set i x=l
 | [],_,_,h=>by simp at h
 | a::l,0,x,h=>by simp at h;subst h;rfl
 | a::l,i+1,x,h=>by rw [List.set_cons_succ,set_same (by simpa using h)]
def sortK_g {α:Type} (m:List α→List α) (l:List α):Option (List α):=if l.length≤1000000000 then some (m l) else none
theorem L_sortK {P:Program} {A:Run} {W:Wd} {E:Env} (hE:dom P A=mkE W E) {R:RF} (hR:R=rw) {α:Type} {c:α→List Ab.T} {k:Nat} {m:List α→List α} {f:FuncId} {args:List V} {ty id:Nat} {l:List α} {β:Type} {v:β} {X:List α→Option β} {s:St} {K:V→St→Prop} (h:(sortK_g m l).bind X=some v)
 (hM:∀(l:List α),l.length≤1000000000→∀ty,MethL P f ty k (rw _ c l) args (.tup []) (rw _ c (m l))) (hN:NoneL P f args) (hm:m []=[]) (hca:args.all V.closedB=true) (hrow:s.heap.getD id none=some (.list ty k (R _ c l))) (hK:∀x,X x=some v→K (.tup []) (s.setRow id (.list ty k (R _ c x)))):E.call f (.lst id::args) s K:=by
 unfold sortK_g at h
 split at h
 case isFalse=>cases h
 rename_i hc
 have hcall:(mkE W E).call f (.lst id::args) s K:=by
  rw [←hE]
  subst hR
  cases l with
  | nil=>
    have h0:=hK _ h
    rw [hm] at h0
    have e:s.setRow id (.list ty k (rw _ c []))=s:=by
     unfold St.setRow
     rw [set_same (getD_row hrow)]
    rw [e] at h0
    exact call_noneL hN hrow hca h0
  | cons a r=>exact call_methL (hM _ hc ty) hrow (fun e=>by cases e) hca (hK _ h)
 exact hcall
end Sh
end Go.Proofs.YtjhbgkakhaonaaaGreatDoor
