/- Texts that the proof leans on. -/
import Derived.Sort.EncStr
import Derived.Sort.Grow
import Derived.Test.YtpplemjjeefpdaaGreatDoorK224
import Derived.RangeFuncNested
import Derived.RangeFuncLeaves
import Derived.Shelf.Abstract
import Derived.OwnWalkIn
import Derived.TacticsInMore
import Derived.LoopNIn
import Derived.LoopIn
set_option linter.unusedVariables false
set_option linter.unusedSimpArgs false
set_option maxRecDepth 100000
set_option maxHeartbeats 4000000
namespace Go.Proofs.YtpplemjjeefpdaaGreatDoor
open Go Go.RowKit Go.Sort
open Ab
namespace Sh
def sortS (l:List ByteArray):List ByteArray:=((l.map fun s=>s.data.toList).mergeSort fun x y=>decide (x≤y)).map fun b=>⟨b.toArray⟩
theorem sortS_len (l:List ByteArray):(sortS l).length=l.length:=by unfold sortS;rw [List.length_map,List.length_mergeSort,List.length_map]
def ins (a:ByteArray):List ByteArray→List ByteArray
 | []=>[a]
 | b::l=>if a.data.toList≤b.data.toList then a::b::l else b::ins a l
def isort:List ByteArray→List ByteArray
 | []=>[]
 | a::l=>ins a (isort l)
theorem ins_perm (a:ByteArray):∀l,(ins a l).Perm (a::l)
 | []=>List.Perm.refl _
 | b::l=>by
   unfold ins
   split
   · exact List.Perm.refl _
   · exact ((ins_perm a l).cons b).trans (List.Perm.swap a b l)
theorem isort_perm:∀l,(isort l).Perm l
 | []=>List.Perm.refl _
 | a::l=>(ins_perm a (isort l)).trans ((isort_perm l).cons a)
theorem ins_rise (a:ByteArray):∀l:List ByteArray,l.Pairwise (fun x y=>x.data.toList≤y.data.toList)→(ins a l).Pairwise fun x y=>x.data.toList≤y.data.toList
 | [],_=>by unfold ins;exact List.pairwise_singleton _ _
 | b ::l,h=>by
   have h':=List.pairwise_cons.1 h
   unfold ins
   split
   · rename_i hab
     refine List.pairwise_cons.2 ⟨fun x hx=>?_,h⟩
     rcases List.mem_cons.1 hx with e | hx
     · subst e;exact hab
     · exact List.le_trans hab (h'.1 x hx)
   · rename_i hab
     have hba:b.data.toList≤a.data.toList:=(List.le_total _ _).resolve_left hab
     refine List.pairwise_cons.2 ⟨fun x hx=>?_,ins_rise a l h'.2⟩
     rcases List.mem_cons.1 ((ins_perm a l).mem_iff.1 hx) with e | hx
     · subst e;exact hba
     · exact h'.1 x hx
theorem isort_rise:∀l:List ByteArray,(isort l).Pairwise fun x y=>x.data.toList≤y.data.toList
 | []=>List.Pairwise.nil
 | a::l=>ins_rise a _ (isort_rise l)
theorem perm_uniq {α:Type} {le:α→α→Prop} (anti:∀a b,le a b→le b a→a=b):∀(l m:List α),l.Perm m→l.Pairwise le→m.Pairwise le→l=m
 | [],m,p,_,_=>(List.Perm.eq_nil p.symm).symm
 | a::l,[],p,_,_=>absurd (List.Perm.eq_nil p) (by simp)
 | a::l,b::m,p,hl,hm=>by
   have hl':=List.pairwise_cons.1 hl
   have hm':=List.pairwise_cons.1 hm
   have hab:a=b:=by
    rcases List.mem_cons.1 (p.mem_iff.1 (List.mem_cons_self (a:=a) (l:=l))) with e | h1
    · exact e
    · rcases List.mem_cons.1 (p.mem_iff.2 (List.mem_cons_self (a:=b) (l:=m))) with e | h2
      · exact e.symm
      · exact anti _ _ (hl'.1 b h2) (hm'.1 a h1)
   subst hab
   rw [perm_uniq anti l m (List.perm_cons a |>.1 p) hl'.2 hm'.2]
theorem sortS_eq (l:List ByteArray):sortS l=isort l:=by
 have h:(l.map fun s=>s.data.toList).mergeSort (fun x y=>decide (x≤y))=(isort l).map fun s=>s.data.toList:=by
  refine perm_uniq (le:=fun x y:List UInt8=>x≤y) (fun a b h1 h2=>List.le_antisymm h1 h2) _ _ ?_ ?_ ?_
  · exact (List.mergeSort_perm _ _).trans ((isort_perm l).map _).symm
  · have:=List.pairwise_mergeSort (le:=fun x y:List UInt8=>decide (x≤y)) (fun a b c h1 h2=>by simpa using List.le_trans (by simpa using h1) (by simpa using h2)) (fun a b=>by simpa using List.le_total a b) (l.map fun s=>s.data.toList)
    simpa using this
  · rw [List.pairwise_map];exact isort_rise l
 unfold sortS
 rw [h,List.map_map]
 conv=>rhs;rw [←List.map_id (isort l)]
 apply List.map_congr_left
 intro s _
 cases s;simp
theorem row_of {l:List ByteArray} {i j:Nat} {t:Ab.T} (h:((rw _ cS l)[i]?).bind (fun r=>r[j]?)=some t):j=0∧∃s,l[i]?=some s∧t=.flat (.string s):=by
 unfold rw at h
 rw [List.getElem?_map] at h
 cases hx:l[i]? with
 | none=>rw [hx] at h;cases h
 | some s=>
   rw [hx] at h
   simp only [Option.map_some,Option.bind_some,cS] at h
   cases j with
   | zero=>simp at h;exact ⟨rfl,s,rfl,h.symm⟩
   | succ j=>simp at h
theorem sort_methL {P:Program} {f:FuncId} (hcall:Callable P f)
 (hC:∀(blk cap:Nat) (ss:List (List UInt8)) (w:World),Holds encStr w blk 0 ss.toArray→blk<w.heap.size→ss.length<4611686018427387904→
  Calls P f #[.slice (some ⟨blk,0,none⟩) ss.length cap] w fun e w'=>e=.returned (.tuple #[])∧∃n os,w'=grow (putRow encStr (Sort.ahead w n) blk 0 (ss.mergeSort fun x y=>decide (x≤y)).toArray) os)
 (l:List ByteArray) (hlen:l.length≤1000000000) (ty:TypeId):MethL P f ty 1 (rw _ cS l) [] (.tup []) (rw _ cS (sortS l)):=by
 refine ⟨hcall,fun G w b cap cargs hG hT hrow hargs=>?_⟩
 have hl:(rw _ cS l).length=l.length:=by unfold rw;rw [List.length_map]
 have hl2:(rw _ cS (sortS l)).length=l.length:=by unfold rw;rw [List.length_map,sortS_len]
 obtain rfl:cargs=#[]:=by have:=hargs.1;simpa using this
 generalize hrows:rw _ cS l=rows at hrow
 cases hrow with
 | listN _ _ hat=>cases hat
 | list _ _ _ b' cap' vs hat hb hGb hcap hmax hsz hes hr=>
   subst hrows
   have hat:some (Blk.at b cap 1 (rw _ cS l).length)=some (Blk.at b' cap' 1 (rw _ cS l).length):=hat
   cases hat
   rw [hl] at hcap ⊢
   have hblt:b<w.heap.size:=(Array.getElem?_eq_some_iff.1 hb).1
   have cell:∀j (h:j<l.length),vs[j]?=some (.string l[j]):=fun j h=>by
    obtain ⟨u,h1,h2⟩:=hr j 0 (.flat (.string l[j])) (by unfold rw;simp [h,cS])
    cases h2
    simpa using h1
   have hH:Holds encStr w b 0 (l.map fun s=>s.data.toList).toArray:=fun j hj=>by
    have hj':j<l.length:=by simpa using hj
    refine ⟨?_,?_⟩
    · have e:encStr (l.map fun s=>s.data.toList).toArray[j]! =.string l[j]:=by
       have:(l.map fun s=>s.data.toList).toArray[j]! =l[j].data.toList:=by
        rw [getElem!_pos (l.map fun s=>s.data.toList).toArray j hj];simp
       rw [this]
      rw [e,Nat.zero_add]
      simp only [World.cell?,hb]
      exact cell j hj'
    · simp [World.frozen?,hb,Nat.zero_add]
   have key:=hC b cap (l.map fun s=>s.data.toList) w hH hblt (by rw [List.length_map];omega)
   rw [List.length_map] at key
   refine key.mono ?_
   rintro e w' ⟨rfl,n,os,rfl⟩
   obtain ⟨d,hd⟩:∃d,d=(((l.map fun s=>s.data.toList).mergeSort fun x y=>decide (x≤y)).toArray):=⟨_,rfl⟩
   rw [←hd]
   have hdl:d.size=l.length:=by rw [hd,List.size_toArray,List.length_mergeSort,List.length_map]
   have hds:∀j (h:j<l.length),encStr d[j]! =.string ((sortS l)[j]'(by rw [sortS_len];exact h)):=fun j h=>by
    have h1:j<d.size:=by omega
    rw [getElem!_pos d j h1]
    unfold sortS
    rw [List.getElem_map]
    subst hd
    rfl
   have hh:(grow (putRow encStr (Sort.ahead w n) b 0 d) os).heap[b]?=some (.cells (putCells encStr 0 d vs) ty (0,0)):=by
    unfold grow putRow mapBlock
    dsimp only
    rw [Array.getElem?_append_left (by simpa using hblt),Array.getElem?_modify,if_pos rfl]
    show (w.heap[b]?).map _=_
    rw [hb];rfl
   have hsz2:(putCells encStr 0 d vs).size=vs.size:=by unfold putCells;rw [Array.size_mapIdx]
   have hws:w.heap.size≤(grow (putRow encStr (Sort.ahead w n) b 0 d) os).heap.size:=by
    unfold grow putRow mapBlock
    simp
   refine ⟨⟨rfl,rfl,rfl,hws,fun k hk hne=>?_⟩,.tuple #[],rfl,hl2,?_,.tup _ _ rfl (fun i c u h=>by simp at h)⟩
   · unfold grow putRow mapBlock
     dsimp only
     rw [Array.getElem?_append_left (by simpa using hk),Array.getElem?_modify,if_neg (Ne.symm hne)]
     rfl
   · refine .list ty 1 (rw _ cS (sortS l)) b cap (putCells encStr 0 d vs) (by rw [hl2];rfl) hh ?_ (by rw [hl2];exact hcap) hmax (by rw [hsz2];exact hsz) (fun row hrow=>?_) (fun i j t ht=>?_)
     · rintro (h | ⟨h1,h2⟩)
       · exact hGb h
       · omega
     · unfold rw at hrow
       obtain ⟨s,_,rfl⟩:=List.mem_map.1 hrow
       rfl
     · obtain ⟨rfl,s,hs,rfl⟩:=row_of ht
       obtain ⟨hi,rfl⟩:=List.getElem?_eq_some_iff.1 hs
       have hi':i<l.length:=by rwa [sortS_len] at hi
       refine ⟨_,?_,.flat _ rfl⟩
       rw [Nat.mul_one,Nat.add_zero,←hds i hi']
       have hvl:i<vs.size:=(Array.getElem?_eq_some_iff.1 (cell i hi')).1
       unfold putCells
       rw [Array.getElem?_mapIdx,Array.getElem?_eq_getElem hvl]
       simp only [Option.map_some]
       rw [if_pos ⟨Nat.zero_le _,by omega⟩,Nat.sub_zero]
theorem sort_methI {P:Program} {f:FuncId} (hcall:Callable P f)
 (hC:∀(blk cap:Nat) (ss:List (List UInt8)) (w:World),Holds encStr w blk 0 ss.toArray→blk<w.heap.size→ss.length<4611686018427387904→
  Calls P f #[.slice (some ⟨blk,0,none⟩) ss.length cap] w fun e w'=>e=.returned (.tuple #[])∧∃n os,w'=grow (putRow encStr (Sort.ahead w n) blk 0 (ss.mergeSort fun x y=>decide (x≤y)).toArray) os)
 (l:List ByteArray) (hlen:l.length≤1000000000) (ty:TypeId):MethL P f ty 1 (rw _ cS l) [] (.tup []) (rw _ cS (isort l)):=by
 rw [←sortS_eq];exact sort_methL hcall hC l hlen ty
end Sh
end Go.Proofs.YtpplemjjeefpdaaGreatDoor
namespace Go.Proofs.YtpplemjjeefpdaaGreatDoor
open Go Go.RowKit
open Ab Sh
namespace Gn
def r23_Great_s (R:RF) (r:Bool):V:=fB r
def r23_Great_l2 (N:Nat) (k1:Int→Option Bool) (p0:List GMatcher) (p1:List GLabel) (v1:Int):Nat→Int→Option Bool
| 0,_=>none
| m+1,v4=>
 cond (cm .lss v4 (ll (rw _ cLabel p1)))
 ((at_ p1 v4).bind fun r5=>
 (at_ p0 v1).bind fun r6=>
 cond (sc .eql r5.Name r6.Name)
 (cond (sc .eql r5.Name r6.Name)
 (cond (sc .eql r5.Name r6.Name)
 ((at_ p0 v1).bind fun r7=>
 cond (sc .eql r5.Name r6.Name)
 (cond (sc .eql r5.Name r6.Name)
 (cond (sc .eql r5.Name r6.Name)
 (cond (sc .eql r5.Name r6.Name)
 ((at_ p1 v4).bind fun r8=>
 cond (sc .eql r5.Name r6.Name)
 (cond (sc .eql r5.Name r6.Name)
 (cond (sc .eql r5.Name r6.Name)
 (cond (sc .eql r5.Name r6.Name)
 ((r22_Great_g N r7 (sl r8.Value)).bind fun a9=>
 cond (sc .eql r5.Name r6.Name)
 (cond (a9)
 (some true)
 ((r23_Great_l2 N k1 p0 p1 v1 m) (ar .add .i64 v4 1)))
 (none))
 (none))
 (none))
 (none))
 (none))
 (none))
 (none))
 (none))
 (none))
 (none))
 (none))
 (cond (sc .eql r5.Name r6.Name)
 (none)
 (cond (sc .eql r5.Name r6.Name)
 (none)
 (cond (sc .eql r5.Name r6.Name)
 (none)
 (cond (sc .eql r5.Name r6.Name)
 (none)
 (cond (sc .eql r5.Name r6.Name)
 (none)
 (cond (sc .eql r5.Name r6.Name)
 (none)
 (cond (sc .eql r5.Name r6.Name)
 (none)
 (cond (sc .eql r5.Name r6.Name)
 (none)
 (cond (sc .eql r5.Name r6.Name)
 (none)
 (cond (sc .eql r5.Name r6.Name)
 (none)
 (cond (sc .eql r5.Name r6.Name)
 (none)
 ((r23_Great_l2 N k1 p0 p1 v1 m) (ar .add .i64 v4 1))))))))))))))
 (k1 (ar .add .i64 v1 1))
def r23_Great_l1 (N:Nat) (p0:List GMatcher) (p1:List GLabel):Nat→Int→Option Bool
| 0,_=>none
| m+1,v1=>
 cond (cm .lss v1 (ll (rw _ cMatcher p0)))
 ((at_ p0 v1).bind fun r2=>
 (r22_Great_g N r2 0).bind fun a3=>
 cond (a3)
 (some true)
 (r23_Great_l2 N (r23_Great_l1 N p0 p1 m) p0 p1 v1 N 0))
 (some false)
def r23_Great_g (N:Nat) (p0:List GMatcher) (p1:List GLabel):Option Bool:=
 (cond (cm .gtr (ll (rw _ cMatcher p0)) 70)
 (some true)
 (some (cm .gtr (ll (rw _ cLabel p1)) 40)):Option Bool).bind fun j1=>
 cond (j1)
 (some true)
 (r23_Great_l1 N p0 p1 N 0)
def selector_wrong_s (R:RF) (r:GFault):V:=.agg [fI .i64 r.E,fI .i64 r.At]
def selector_wrong_g (p0:ByteArray) (p1:Int):Option GFault:=
 cond (cm .geq p1 (sl p0))
 (some (⟨1,sl p0⟩:GFault))
 (some (⟨2,p1⟩:GFault))
def selector_Take_s (R:RF) (r:(List GMatcher)× Int × GFault):V:=.tup [.t (.slc (R _ cMatcher r.1)),fI .i64 r.2.1,.agg [fI .i64 r.2.2.E,fI .i64 r.2.2.At]]
def selector_Take_l1 (N:Nat) (p0:ByteArray):Nat→Int→List GMatcher→Option ((List GMatcher)× Int × GFault)
| 0,_,_=>none
| m+1,v4,v5=>
 (cond (cm .eql (ll (rw _ cMatcher v5)) 64)
 (some (cm .lss v4 (sl p0)))
 (some false):Option Bool).bind fun j3=>
 cond (j3)
 (some ([],0,(⟨3,v4⟩:GFault)))
 ((matcher_Take_g N p0 v4).bind fun a6=>
 cond (cm .neq a6.2.2.E 0)
 (some ([],0,a6.2.2))
 ((app cMatcher v5 [a6.1]).bind fun l7=>
 cond (ssinB p0 a6.2.1 (sl p0)) ((strings_HasPrefix_g (ss p0 a6.2.1 (sl p0)) (ByteArray.mk #[125])).bind fun a8=>
 cond (a8)
 (some (l7,ar .add .i64 a6.2.1 1,(⟨0,0⟩:GFault)))
 (cond (ssinB p0 a6.2.1 (sl p0)) ((strings_HasPrefix_g (ss p0 a6.2.1 (sl p0)) (ByteArray.mk #[44])).bind fun a9=>
 cond (!a9)
 ((selector_wrong_g p0 a6.2.1).bind fun a10=>
 some ([],0,a10))
 (cond (ssinB p0 (ar .add .i64 a6.2.1 1) (sl p0)) ((strings_HasPrefix_g (ss p0 (ar .add .i64 a6.2.1 1) (sl p0)) (ByteArray.mk #[32])).bind fun a11=>
 cond (!a11)
 ((selector_wrong_g p0 (ar .add .i64 a6.2.1 1)).bind fun a12=>
 some ([],0,a12))
 ((selector_Take_l1 N p0 m) (ar .add .i64 a6.2.1 2) l7)) none)) none)) none))
def selector_Take_g (N:Nat) (p0:ByteArray) (p1:Int):Option ((List GMatcher)× Int × GFault):=
 (cond (cm .lss p1 0)
 (some true)
 (some (cm .gtr p1 (sl p0))):Option Bool).bind fun j1=>
 cond (j1)
 (some ([],0,(⟨7,0⟩:GFault)))
 (cond (ssinB p0 p1 (sl p0)) ((strings_HasPrefix_g (ss p0 p1 (sl p0)) (ByteArray.mk #[123])).bind fun a1=>
 cond (!a1)
 ((selector_wrong_g p0 p1).bind fun a2=>
 some ([],0,a2))
 (cond (ssinB p0 p1 (sl p0)) ((strings_HasPrefix_g (ss p0 p1 (sl p0)) (ByteArray.mk #[123,125])).bind fun a3=>
 cond (a3)
 (some ([],ar .add .i64 p1 2,(⟨0,0⟩:GFault)))
 (selector_Take_l1 N p0 N (ar .add .i64 p1 1) [])) none)) none)
def selector_Parse_s (R:RF) (r:(List GMatcher)× GFault):V:=.tup [.t (.slc (R _ cMatcher r.1)),.agg [fI .i64 r.2.E,fI .i64 r.2.At]]
def selector_Parse_g (N:Nat) (p0:ByteArray):Option ((List GMatcher)× GFault):=
 (selector_Take_g N p0 0).bind fun a1=>
 cond (cm .neq a1.2.2.E 0)
 (some ([],a1.2.2))
 (cond (cm .lss a1.2.1 (sl p0))
 ((selector_wrong_g p0 a1.2.1).bind fun a2=>
 some ([],a2))
 (some (a1.1,(⟨0,0⟩:GFault))))
def selector_Text_s (R:RF) (r:ByteArray):V:=fS r
def selector_Text_l1 (N:Nat) (p0:List GMatcher):Nat→Int→List Int→Option ByteArray
| 0,_,_=>none
| m+1,v4,v5=>
 cond (cm .lss v4 (ll (rw _ cMatcher p0)))
 ((at_ p0 v4).bind fun r6=>
 (cond (cm .gtr v4 0)
 ((app (cI .u8) v5 (Sh.bytes (ByteArray.mk #[44,32]))).bind fun l7=>
 some l7)
 (some v5):Option (List Int)).bind fun j4=>
 (matcher_Text_g N r6).bind fun a8=>
 (app (cI .u8) j4 (Sh.bytes a8)).bind fun l9=>
 (selector_Text_l1 N p0 m) (ar .add .i64 v4 1) l9)
 ((strB v5).bind fun s10=>
 cond (ctB (ByteArray.mk #[123]) s10) (cond (ctB (ct (ByteArray.mk #[123]) s10) (ByteArray.mk #[125])) (some (ct (ct (ByteArray.mk #[123]) s10) (ByteArray.mk #[125]))) none) none)
def selector_Text_g (N:Nat) (p0:List GMatcher):Option ByteArray:=
 cond (cm .lss 0 (ll (rw _ cMatcher p0)))
 ((at_ p0 0).bind fun r1=>
 cond (cm .gtr 0 0)
 (none)
 ((matcher_Text_g N r1).bind fun a2=>
 (app (cI .u8) [] (Sh.bytes a2)).bind fun l3=>
 selector_Text_l1 N p0 N (ar .add .i64 0 1) l3))
 (cond (ctB (ByteArray.mk #[123]) ByteArray.empty) (cond (ctB (ct (ByteArray.mk #[123]) ByteArray.empty) (ByteArray.mk #[125])) (some (ct (ct (ByteArray.mk #[123]) ByteArray.empty) (ByteArray.mk #[125]))) none) none)
def porterbase_SameSel_s (R:RF) (r:Bool):V:=fB r
def porterbase_SameSel_l1 (p0:List GMatcher) (p1:List GMatcher):Nat→Int→Option Bool
| 0,_=>none
| m+1,v1=>
 cond (cm .lss v1 (ll (rw _ cMatcher p0)))
 ((at_ p0 v1).bind fun r2=>
 (at_ p1 v1).bind fun r3=>
 cond (!(conj [sc .eql r2.Name r3.Name,cm .eql r2.Op r3.Op,sc .eql r2.Value r3.Value]))
 (some false)
 ((porterbase_SameSel_l1 p0 p1 m) (ar .add .i64 v1 1)))
 (some true)
def porterbase_SameSel_g (N:Nat) (p0:List GMatcher) (p1:List GMatcher):Option Bool:=
 cond (cm .neq (ll (rw _ cMatcher p0)) (ll (rw _ cMatcher p1)))
 (some false)
 (porterbase_SameSel_l1 p0 p1 N 0)
def selector_Holds_s (R:RF) (r:Bool):V:=fB r
def selector_Holds_l3 (N:Nat) (p0:List GMatcher) (p1:List GLabel):Nat→Int→Option Bool
| 0,_=>none
| m+1,v1=>
 cond (cm .lss v1 (ll (rw _ cMatcher p0)))
 ((at_ p0 v1).bind fun r2=>
 (matcher_Holds_g N r2 p1).bind fun a3=>
 cond (!a3)
 (some (!(cm .geq v1 0)))
 ((selector_Holds_l3 N p0 p1 m) (ar .add .i64 v1 1)))
 (some (!(cm .geq (-1) 0)))
def selector_Holds_g (N:Nat) (p0:List GMatcher) (p1:List GLabel):Option Bool:=
 selector_Holds_l3 N p0 p1 N 0
end Gn
end Go.Proofs.YtpplemjjeefpdaaGreatDoor
namespace Go.Proofs.YtpplemjjeefpdaaGreatDoor
open Go Go.RowKit Go.Shelf
attribute [local go_sem] Oper.semAt_some
namespace So
theorem cell_alloc_s {w:World} {b:Nat} (h:b<w.heap.size) (o:Obj) (i:Nat):(w.alloc o).cell? ⟨b,i,none⟩=w.cell? ⟨b,i,none⟩:=((Below.refl w.heap.size w).alloc (Nat.le_refl _) o).cell (p:=⟨b,i,none⟩) h
theorem cell_putObj_s {w:World} {b l:Nat} (h:b<l) (o:Obj):(w.putObj l o).cell? ⟨b,0,none⟩=w.cell? ⟨b,0,none⟩:=World.cell?_of_block (World.putObj_heap_other (show b≠l by omega))
theorem cells3_new (W:World) (v0 v1 v2:Value) (t:TypeId):∀(j:Nat) (u:Value),[v0,v1,v2][j]?=some u→(W.alloc (.cells #[v0,v1,v2] t)).cell? ((⟨W.heap.size,0,none⟩:Addr).add j)=some u:=by
 intro j u h
 rcases j with _ | _ | _ | j<;>simp at h<;>subst h<;>simp [Addr.add]
structure M3 where
 n:ByteArray
 o:Int
 v:ByteArray
structure ListAt (W:World) (a:Option Addr) (b o:Nat) (xs:List M3):Prop where
 ad:xs≠[]→a=some ⟨b,o,none⟩
 c0:∀i (hi:i<xs.length),W.cell? ⟨b,o+i*3,none⟩=some (.string xs[i].n)
 c1:∀i (hi:i<xs.length),W.cell? ⟨b,o+i*3+1,none⟩=some (.int .i64 xs[i].o)
 c2:∀i (hi:i<xs.length),W.cell? ⟨b,o+i*3+2,none⟩=some (.string xs[i].v)
def Kp (n₀ B2:Nat) (A B:World):Prop:=Below n₀ A B∧B.cell? ⟨B2,0,none⟩=A.cell? ⟨B2,0,none⟩
theorem Kp.trans {n₀ B2:Nat} {A B C:World} (h:Kp n₀ B2 A B) (k:Kp n₀ B2 B C):Kp n₀ B2 A C:=⟨h.1.trans k.1,k.2.trans h.2⟩
theorem Kp.alloc {n₀ B2:Nat} {A B:World} (h:Kp n₀ B2 A B) (h1:n₀≤B.heap.size) (h2:B2<B.heap.size) (o:Obj):Kp n₀ B2 A (B.alloc o):=⟨h.1.alloc h1 o,(cell_alloc_s h2 o 0).trans h.2⟩
def want (xs:List M3) (nm:ByteArray):List M3:=xs.filter fun m=>decide (m.n=nm)
theorem want_yes {xs:List M3} {nm:ByteArray} {i:Nat} (hi:i<xs.length) (h:xs[i].n=nm):want (xs.take (i+1)) nm=want (xs.take i) nm++[xs[i]]:=by
 unfold want
 rw [List.take_add_one,List.getElem?_eq_getElem hi,List.filter_append]
 simp [h]
theorem want_no {xs:List M3} {nm:ByteArray} {i:Nat} (hi:i<xs.length) (h:¬ xs[i].n=nm):want (xs.take (i+1)) nm=want (xs.take i) nm:=by
 unfold want
 rw [List.take_add_one,List.getElem?_eq_getElem hi,List.filter_append]
 simp [h]
theorem want_pre {xs:List M3} {nm:ByteArray} (i:Nat):want (xs.take i) nm<+:want xs nm:=(List.take_prefix i xs).filter _
theorem want_len {xs:List M3} {nm:ByteArray} (i:Nat):(want (xs.take i) nm).length≤i:=Nat.le_trans (List.length_filter_le _ _) (by rw [List.length_take];omega)
theorem asked1_in (F:Fence) (n:Nat) (hF:F.fn 83) (hro:F.round=none) (hn:1≤n) (l B1 B2 n₀:Nat) (a:Option Addr) (b o cap:Nat) (xs:List M3) (nm:ByteArray) (hlen:xs.length≤1000000000) (J Jx:List M3→World→Prop)
 (hY:∀pre x W,J pre W→pre.length<xs.length→YieldAt F (n-1) Tryz.prog l #[.agg #[.string x.n,.int .i64 x.o,.string x.v]] W fun e W'=>
  (e=.returned (.bool true)∧J (pre++[x]) W'∧Kp n₀ B2 W W')∨(e=.returned (.bool false)∧Jx (pre++[x]) W'))
 (hA:∀pre W W',J pre W→W.grownBy W' none→J pre W')
 (hb:xs≠[]→b<n₀)
 (W:World) (hB2:B2<W.heap.size) (h1:W.cell? ⟨B1,0,none⟩=some (.slice a xs.length cap)) (h2:W.cell? ⟨B2,0,none⟩=some (.string nm)) (hL:ListAt W a b o xs) (h0:J [] W) (hn0:n₀≤W.heap.size):
 CallsIn F n Tryz.prog 83 #[.func (.yield l) #[] #[],.pointer (some ⟨B1,0,none⟩),.pointer (some ⟨B2,0,none⟩)] W fun e W'=>(∃v,e=.returned v)∧
  ((∃ys,ys=want xs nm∧J ys W')∨(∃pre,pre<+:want xs nm∧Jx pre W')):=by
 refine callsIn_of_wp Tryz.func83 rfl hF ?_ hro
 simp only [Tryz.ntmps83,List.size_toArray,List.length_cons,List.length_nil,Nat.reduceAdd,Nat.reduceSub,Array.replicate_succ,Array.replicate_zero,List.push_toArray,List.append_toArray,List.nil_append,List.cons_append]
 gi_wp2
 gi_loopw [8] (fun p wr=>∃i:Nat,p=.int .i64 (i:Int)∧i≤xs.length∧J (want (xs.take i) nm) wr∧Kp n₀ B2 W wr) (fun p _=>xs.length-(intOf p).toNat)
 case atStart=>
  exact ⟨0,rfl,Nat.zero_le _,h0,Below.refl _ _,rfl⟩
 case round=>
  obtain ⟨i,rfl,hi,hJ,hB⟩:=hrel
  by_cases hlt:i<xs.length
  · have hne:xs≠[]:=fun e=>by rw [e] at hlt;simp at hlt
    have ha:=hL.ad hne
    have c0:wr.cell? ⟨b,o+i*3,none⟩=some (.string xs[i].n):=(hB.1.cell (p:=⟨b,o+i*3,none⟩) (hb hne)).trans (hL.c0 i hlt)
    have c1:wr.cell? ⟨b,o+i*3+1,none⟩=some (.int .i64 xs[i].o):=(hB.1.cell (p:=⟨b,o+i*3+1,none⟩) (hb hne)).trans (hL.c1 i hlt)
    have c2:wr.cell? ⟨b,o+i*3+2,none⟩=some (.string xs[i].v):=(hB.1.cell (p:=⟨b,o+i*3+2,none⟩) (hb hne)).trans (hL.c2 i hlt)
    have e2:∀o,(wr.alloc o).cell? ⟨B2,0,none⟩=some (.string nm):=fun o=>(cell_alloc_s (Nat.lt_of_lt_of_le hB2 hB.1.size) o _).trans (hB.2.trans h2)
    have HB:=hid_mk hB
    have hJ2:∀o,J (want (xs.take i) nm) (wr.alloc o):=fun o=>hA _ _ _ hJ (World.grownBy_alloc _ _ _)
    have hlen2:(want (xs.take i) nm).length<xs.length:=Nat.lt_of_le_of_lt (want_len i) hlt
    have hpre:want (xs.take (i+1)) nm<+:want xs nm:=want_pre _
    subst ha
    by_cases hq:xs[i].n=nm
    · have heq:(xs[i].n.toList==nm.toList)=true:=by rw [hq];simp
      have hw:=hid_mk (want_yes hlt hq)
      generalize xs[i]=x at *
      obtain ⟨fn,tmps,assign,body,hy,hR⟩:=hY _ x _ (hJ2 (.cells #[.string x.n,.int .i64 x.o,.string x.v] 46)) hlen2
      have HR:=hide hR
      clear hR hY hJ hB hq hJ2 h0 hL h1
      gi_wp2
      refine (unhide HR).mono ?_
      rintro e W3 (⟨rfl,hJ3,hk3⟩ | ⟨rfl,hJx3⟩)
      · have HJ3:=hid_mk hJ3
        have HK3:=hid_mk hk3
        clear hJ3 hk3
        gi_wp2
        go_roundw
        case rel=>exact ⟨i+1,by simp,by omega,by rw [hw.out];exact HJ3.out,(HB.out.alloc (Nat.le_trans hn0 HB.out.1.size) (Nat.lt_of_lt_of_le hB2 HB.out.1.size) _).trans HK3.out⟩
        case measure=>show xs.length-((i:Int)+1).toNat<xs.length-(i:Int).toNat;omega
      · gi_wp2
        refine bodyPost_ret (results_none rfl _ _ _) rfl ?_
        exact ⟨⟨_,rfl⟩,.inr ⟨_,by rw [←hw.out];exact hpre,hJx3⟩⟩
    · have heq:(xs[i].n.toList==nm.toList)=false:=by
       rw [ByteArray.toList_eq,ByteArray.toList_eq]
       have:¬ xs[i].n.data.toList=nm.data.toList:=fun e=>hq (by
        exact ByteArray.ext (Array.toList_inj.1 e))
       simpa using this
      have hw:=hid_mk (want_no hlt hq)
      have HJ2:=hide hJ2
      generalize xs[i]=x at *
      clear hJ hB hq h0 hL h1 hJ2
      gi_wp2
      refine And.intro (fun f h=>nomatch (show (none:Option FuncId)=some f from h)) ?_
      gi_wp2
      go_roundw
      case rel=>exact ⟨i+1,by simp,by omega,by rw [hw.out];exact HJ2.out _,HB.out.alloc (Nat.le_trans hn0 HB.out.1.size) (Nat.lt_of_lt_of_le hB2 HB.out.1.size) _⟩
      case measure=>show xs.length-((i:Int)+1).toNat<xs.length-(i:Int).toNat;omega
  · obtain rfl:i=xs.length:=by omega
    have HJ:=hide hJ
    clear hJ hB h0 hL h1
    gi_wp2
    go_end0
    exact ⟨⟨_,rfl⟩,.inl ⟨_,by rw [List.take_length],HJ.out⟩⟩
theorem asked_in (F:Fence) (n:Nat) (hF:F.fn 52) (hro:F.round=none) (a:Option Addr) (k cap:Nat) (nm:ByteArray) (w:World):
 CallsIn F n Tryz.prog 52 #[.slice a k cap,.string nm] w fun e w'=>e=.returned (.func (.func 83) #[] #[.pointer (some ⟨w.heap.size,0,none⟩),.pointer (some ⟨w.heap.size+1,0,none⟩)])∧w'=(w.alloc (.cells #[.slice a k cap] 22)).alloc (.cells #[.string nm] 9):=by
 refine callsIn_of_wp Tryz.func52 rfl hF ?_ hro
 simp only [Tryz.ntmps52,List.size_toArray,List.length_cons,List.length_nil,Nat.reduceAdd,Nat.reduceSub,Array.replicate_succ,Array.replicate_zero,List.push_toArray,List.append_toArray,List.nil_append,List.cons_append]
 gi_wp2
 go_ret
 exact ⟨rfl,rfl⟩
theorem asked_stops (F:Fence) (n:Nat) (hF:F.fn 83) (hro:F.round=none) (hn:1≤n) (B1 B2 n₀:Nat) (a:Option Addr) (b o cap:Nat) (xs:List M3) (nm:ByteArray) (hlen:xs.length≤1000000000) (hb:xs≠[]→b<n₀)
 (w:World) (hB1:B1<w.heap.size) (hB2:B2<w.heap.size) (h1:w.cell? ⟨B1,0,none⟩=some (.slice a xs.length cap)) (h2:w.cell? ⟨B2,0,none⟩=some (.string nm)) (hL:ListAt w a b o xs) (hn0:n₀≤w.heap.size):
 SeqStopsK F n Tryz.prog 83 #[.pointer (some ⟨B1,0,none⟩),.pointer (some ⟨B2,0,none⟩)] (fun x:M3=>#[.agg #[.string x.n,.int .i64 x.o,.string x.v]]) (Kp n₀ B2) (fun ys=>ys=want xs nm) (fun pre=>pre<+:want xs nm) xs.length w:=fun l J Jx W hW hAJ _ hY h0=>
 asked1_in F n hF hro hn l B1 B2 n₀ a b o cap xs nm hlen J Jx hY (fun pre A B hJ hg=>hAJ pre A B none hJ hg (fun r e=>by cases e)) hb W (Nat.lt_of_lt_of_le hB2 hW.size)
  ((hW.cell (p:=⟨B1,0,none⟩) hB1).trans h1) ((hW.cell (p:=⟨B2,0,none⟩) hB2).trans h2)
  ⟨hL.ad,fun i hi=>(hW.cell (p:=⟨b,o+i*3,none⟩) (Nat.lt_of_lt_of_le (hb (fun e=>by rw [e] at hi;simp at hi)) hn0)).trans (hL.c0 i hi),fun i hi=>(hW.cell (p:=⟨b,o+i*3+1,none⟩) (Nat.lt_of_lt_of_le (hb (fun e=>by rw [e] at hi;simp at hi)) hn0)).trans (hL.c1 i hi),fun i hi=>(hW.cell (p:=⟨b,o+i*3+2,none⟩) (Nat.lt_of_lt_of_le (hb (fun e=>by rw [e] at hi;simp at hi)) hn0)).trans (hL.c2 i hi)⟩ h0 (Nat.le_trans hn0 hW.size)
def flat3 (xs:List M3):List Value:=xs.flatMap fun x=>[.string x.n,.int .i64 x.o,.string x.v]
theorem flat3_snoc (xs:List M3) (x:M3):flat3 (xs++[x])=flat3 xs++[.string x.n,.int .i64 x.o,.string x.v]:=by simp [flat3]
theorem info_m:(Tryz.prog.info? 46).map (fun i=>(i.zero,i.size,i.bytes))=some (some (.agg #[.string ⟨#[]⟩,.int .i64 0,.string ⟨#[]⟩]),3,40):=by kernel_rfl
theorem Of_in (F:Fence) (n:Nat) (hF0:F.fn 25) (hF1:F.fn 52) (hF2:F.fn 83) (hro:F.round=none) (hn:6≤n) (a:Option Addr) (b o cap:Nat) (xs:List M3) (nm:ByteArray) (hlen:xs.length≤1000000000)
 (w:World) (hb:xs≠[]→b<w.heap.size) (hL:ListAt w a b o xs):
 CallsIn F n Tryz.prog 25 #[.slice a xs.length cap,.string nm] w fun e W'=>∃v,e=.returned v∧W'.ownsRow w.heap.size 46 3 v (want xs nm).length (flat3 (want xs nm))∧Below w.heap.size w W':=by
 have h1:1≤n:=by omega
 refine callsIn_of_wp_marks Tryz.func25 rfl hF0 ?_ hro
 simp only [Tryz.ntmps25,List.size_toArray,List.length_cons,List.length_nil,Nat.reduceAdd,Nat.reduceSub,Array.replicate_succ,Array.replicate_zero,List.push_toArray,List.append_toArray,List.nil_append,List.cons_append]
 gi_wp2_with (gi_at_call 52;refine (asked_in F (n-1) hF1 hro _ _ _ _ _).mono ?_;rintro e w' ⟨rfl,rfl⟩)
 have b0:=((Boxed.new w 22 (.slice none 0 0)).alloc (.cells #[.slice a xs.length cap] 22)).alloc (.cells #[.string nm] 9)
 have b1:=(Boxed.new (w.alloc (.cells #[.slice none 0 0] 22)) 22 (.slice a xs.length cap)).alloc (.cells #[.string nm] 9)
 have b2:=Boxed.new ((w.alloc (.cells #[.slice none 0 0] 22)).alloc (.cells #[.slice a xs.length cap] 22)) 9 (.string nm)
 simp only [World.size_alloc] at b1 b2
 have hB0:Below w.heap.size w (((w.alloc (.cells #[.slice none 0 0] 22)).alloc (.cells #[.slice a xs.length cap] 22)).alloc (.cells #[.string nm] 9)):=(((Below.refl _ w).alloc (Nat.le_refl _) _).alloc (by simp) _).alloc (by simp;omega) _
 have hsz:(((w.alloc (.cells #[.slice none 0 0] 22)).alloc (.cells #[.slice a xs.length cap] 22)).alloc (.cells #[.string nm] 9)).heap.size=w.heap.size+3:=by simp
 obtain ⟨W0,hW0⟩:∃W0,((w.alloc (.cells #[.slice none 0 0] 22)).alloc (.cells #[.slice a xs.length cap] 22)).alloc (.cells #[.string nm] 9)=W0:=⟨_,rfl⟩
 rw [hW0] at b0 b1 b2 hB0 hsz ⊢
 clear hW0
 have hL0:ListAt W0 a b o xs:=⟨hL.ad,fun i hi=>(hB0.cell (p:=⟨b,o+i*3,none⟩) (hb (fun e=>by rw [e] at hi;simp at hi))).trans (hL.c0 i hi),fun i hi=>(hB0.cell (p:=⟨b,o+i*3+1,none⟩) (hb (fun e=>by rw [e] at hi;simp at hi))).trans (hL.c1 i hi),fun i hi=>(hB0.cell (p:=⟨b,o+i*3+2,none⟩) (hb (fun e=>by rw [e] at hi;simp at hi))).trans (hL.c2 i hi)⟩
 have hlt2:w.heap.size+1+1<W0.heap.size:=by omega
 refine wpIn_rangeFunc_ownH hro h1 (gf:=83) (lb:=#[.pointer (some ⟨w.heap.size+1,0,none⟩),.pointer (some ⟨w.heap.size+1+1,0,none⟩)]) rfl hF2 (enters_of Tryz.func83 (by kernel_rfl) rfl)
  (asked_stops F (n-1) hF2 hro (by omega) (w.heap.size+1) (w.heap.size+1+1) w.heap.size a b o cap xs nm hlen hb W0 (by omega) (by omega) b1.cell b2.cell hL0 (by omega)) (fun h k=>h.trans k)
  (fun W l o o' hl ho hc hw=>⟨belowK_b (w:=W0) (by omega) W l o o' hl ho hc hw,cell_putObj_s (by omega) o'⟩) (Below.refl _ _) (fun _=>rfl)
  (fun pre W=>((∃v,Boxed W w.heap.size 22 v∧W.ownsRow w.heap.size 46 3 v pre.length (flat3 pre)∧True)∧Boxed W (w.heap.size+1+1) 9 (.string nm))∧Below w.heap.size w W)
  (fun _ _ _=>False)
  (OwnFrom.and (OwnFrom.and (Own.from (holdsRow_own w.heap.size w.heap.size 22 46 3 List.length flat3 (fun _ _=>True)) _) (Own.from (boxed_own _ _ (fun _=>.string nm)) _)) (ownFrom_below (Nat.le_refl _) (by omega)))
  (fun _ _ _ _ _ hs _ _=>hs)
  ⟨⟨⟨_,b0,⟨rfl,.inl ⟨rfl,rfl⟩⟩,trivial⟩,b2⟩,hB0⟩
  (fun x a' W=>∃Bx,W.heap[Bx]?=some (.cells #[.string x.n,.int .i64 x.o,.string x.v] 46 (0,0))∧a'={tmps:=#[.slice a xs.length cap,.string nm,undef,undef,.slice none 0 0,.pointer (some ⟨w.heap.size,0,none⟩),.pointer (some ⟨Bx,0,none⟩),.slice a xs.length cap,.string nm,.func (.func 83) #[] #[.pointer (some ⟨w.heap.size+1,0,none⟩),.pointer (some ⟨w.heap.size+1+1,0,none⟩)],.agg #[.string x.n,.int .i64 x.o,.string x.v],undef,undef,undef,undef,undef],defers:=[]})
  (fun x a' _ X Y row hs hg hr=>by
   obtain ⟨Bx,h1,h2⟩:=hs
   refine ⟨Bx,(hg.block Bx (Array.getElem?_eq_some_iff.1 h1).1 (fun e=>?_)).trans h1,h2⟩
   obtain ⟨o,ho,hc⟩:=(hr Bx e.symm).2
   rw [h1] at ho;cases ho;cases hc)
  ?assign ?body ?done ?stop
 case assign=>
  rintro l pre x W K hI hK
  gi_wp2
  exact hK _ _ ((KeepsOthers.alloc _ _).from _) ⟨(Below.refl _ W).alloc hI.2.size _,cell_alloc_s hI.1.2.lt _ _⟩ ⟨⟨by obtain ⟨v,h1,h2,h3⟩:=hI.1.1;exact ⟨v,h1.alloc _,h2.alloc _,h3⟩,hI.1.2.alloc _⟩,hI.2.alloc hI.2.size _⟩ ⟨W.heap.size,World.alloc_heap_new W _,rfl⟩
 case body=>
  rintro l pre x a' W hl _ ⟨⟨⟨v,hv,hrow,-⟩,hb2⟩,hB⟩ ⟨Bx,hBx,rfl⟩ hlt
  have cv:=hv.cell
  have m0:W.cell? ⟨Bx,0,none⟩=some (.string x.n):=by simp [World.cell?,hBx]
  have m1:W.cell? ⟨Bx,1,none⟩=some (.int .i64 x.o):=by simp [World.cell?,hBx]
  have m2:W.cell? ⟨Bx,2,none⟩=some (.string x.v):=by simp [World.cell?,hBx]
  obtain ⟨i0,hi,hz0,hz1,hz2⟩:=info_parts info_m
  have hsW:=hB.size
  have hmx:pre.length+1≤maxLen:=by show pre.length+1≤9223372036854775807;omega
  gi_wp2_with (first
   | (gi_at_builtin;refine wpListIn_append_own _ rfl _ _ 22 rfl w.heap.size 46 i0 (.agg #[.string ⟨#[]⟩,.int .i64 0,.string ⟨#[]⟩]) 3 40 Tryz.underlying22 hi hz0 hz1 hz2 rfl (by decide) _ _ _ rfl (hrow.alloc _) ⟨W.heap.size,0,none⟩ 1 1 [.string x.n,.int .i64 x.o,.string x.v] rfl rfl (cells3_new _ _ _ _ _) (by simp [Value.oneCell']) hmx (by omega) (by simp;omega) ?_;intro v' w3 hown' hg3 hnil3
      obtain ⟨g',cap',rfl⟩:=ownsRow_succ hown'
      obtain ⟨q1,q2,q3,q4,q5⟩:=Boxed.appended hv (by decide) hrow hsW (Nat.le_refl _) hown' hg3
      have hb3:=((hb2.alloc _).kept hg3 (hb2.not_row (by decide) hrow)).other (B':=w.heap.size) (by omega) (.slice (some ⟨g',0,none⟩) (pre.length+1) cap')
      have hcb:=q1.cell
      have hfb:=q1.frozen
      have Q2:=hid_mk q2
      have Q3:=hid_mk q3
      have Q4:=hid_mk q4
      have Q5:=hid_mk q5
      clear q1 q2 q3 q4 q5 hv hrow hown' hg3 cv)
   | gi_in)
  exact ⟨Q4.out.from _,⟨Q5.out,hb3.cell.trans hb2.cell.symm⟩,⟨⟨_,Q2.out,by rw [flat3_snoc,List.length_append];exact Q3.out,trivial⟩,hb3⟩,hB.trans Q5.out⟩
 case done=>
  rintro D ys W hD rfl ⟨⟨⟨v,hv,hrow,-⟩,-⟩,hB⟩ hK
  have cv:=hv.cell
  obtain ⟨a1,k1,c1,rfl⟩:∃a1 k1 c1,v=.slice a1 k1 c1:=by
   rcases hrow.2 with ⟨rfl,_⟩ | ⟨g,cap,cur,rfl,_⟩
   · exact ⟨_,_,_,rfl⟩
   · exact ⟨_,_,_,rfl⟩
  gi_wp2
  refine ⟨by simp,.inl ⟨_,_,rfl,run_takeDeferred hK,?_⟩⟩
  exact ⟨_,results_tmp rfl _ _ _,_,rfl,ownsRow_putObj hrow _ hK rfl,hB.trans (belowK_b (w:=w) (Nat.le_refl _) W D _ _ (by omega) hK rfl rfl)⟩
 case stop=>
  rintro D c pre W _ _ h _
  exact h.elim
end So
end Go.Proofs.YtpplemjjeefpdaaGreatDoor
namespace Go.Proofs.YtpplemjjeefpdaaGreatDoor
open Go Go.RowKit
open Ab Sh
namespace So
def toM (m:Gn.GMatcher):M3:=⟨m.Name,m.Op,m.Value⟩
def cM (x:M3):List Ab.T:=[.flat (.string x.n),.flat (.int .i64 x.o),.flat (.string x.v)]
theorem flat3_at:∀(xs:List M3) (i j:Nat) (t:Ab.T),((xs.map cM)[i]?).bind (fun r=>r[j]?)=some t→∃u,(flat3 xs)[i*3+j]?=some u∧t=.flat u∧oneV u=true∧i*3+j<xs.length*3
 | [],i,j,t,h=>by simp at h
 | x::xs,0,j,t,h=>by
   simp only [List.map_cons,List.getElem?_cons_zero,Option.bind_some] at h
   rcases j with _ | _ | _ | j
   · cases h;exact ⟨_,rfl,rfl,rfl,by simp⟩
   · cases h;exact ⟨_,rfl,rfl,rfl,by simp;omega⟩
   · cases h;exact ⟨_,rfl,rfl,rfl,by simp;omega⟩
   · simp [cM] at h
 | x::xs,i+1,j,t,h=>by
   obtain ⟨u,h1,h2,h3,h4⟩:=flat3_at xs i j t (by simpa using h)
   refine ⟨u,?_,h2,h3,by simp;omega⟩
   rw [show flat3 (x::xs)=[.string x.n,.int .i64 x.o,.string x.v]++flat3 xs from rfl,List.getElem?_append_right (by simp;omega)]
   rw [show (i+1)*3+j-[Value.string x.n,Value.int .i64 x.o,Value.string x.v].length=i*3+j by simp;omega]
   exact h1
theorem Of_list (l:List M3) (nm:ByteArray) (hl:l.length≤1000000000):FunL Tryz.prog 25 [.t (.slc (l.map cM)),fS nm] 46 3 ((want l nm).map cM):=by
 refine ⟨Tryz.call25,fun G w cargs hG hT hargs=>?_⟩
 obtain ⟨u0,r0,rfl,hu,hr0⟩:=hargs.uncons
 obtain ⟨u1,r1,rfl,hv,hr1⟩:=hr0.uncons
 obtain rfl:r1=#[]:=by have:=hr1.1;simpa using this
 cases hu with
 | t x v hx=>
 cases hv with
 | t y v hy=>
 cases hy with
 | flat v hv1=>
 cases hx with
 | slc rows a b o es cap u hcap hnil ha hes hc hr=>
 have hes3:l≠[]→es=3:=fun hne=>by
  cases l with
  | nil=>exact absurd rfl hne
  | cons x l=>exact (hes _ List.mem_cons_self).symm
 have at_:∀i (hi:i<l.length) (j:Nat) (t:Ab.T),(cM l[i])[j]?=some t→∃v,t=.flat v∧w.cell? ⟨b,o+(i*3+j),none⟩=some v:=fun i hi j t ht=>by
  have hne:l≠[]:=fun e=>by rw [e] at hi;simp at hi
  have h1:((l.map cM)[i]?).bind (fun r=>r[j]?)=some t:=by rw [List.getElem?_map,List.getElem?_eq_getElem hi];exact ht
  obtain ⟨v,e⟩:∃v,t=.flat v:=by
   obtain ⟨v,-,e,-⟩:=flat3_at l i j t h1
   exact ⟨v,e⟩
  subst e
  have h2:=hc i j _ h1
  rw [hes3 hne] at h2
  have h3:=hr i j _ h1
  cases h3
  exact ⟨_,rfl,h2⟩
 have hL:ListAt w a b o l:=by
  refine ⟨fun hne=>(ha (by simpa using hne)).1,fun i hi=>?_,fun i hi=>?_,fun i hi=>?_⟩
  · obtain ⟨v,e,h⟩:=at_ i hi 0 _ rfl
    cases e;exact h
  · obtain ⟨v,e,h⟩:=at_ i hi 1 _ rfl
    cases e;exact h
  · obtain ⟨v,e,h⟩:=at_ i hi 2 _ rfl
    cases e;exact h
 have key:=callsIn_wide.1 (Of_in Fence.wide 6 trivial trivial trivial rfl (Nat.le_refl _) a b o cap l nm hl w (fun hne=>hG _ (ha (by simpa using hne)).2) hL)
 rw [List.length_map]
 refine key.mono ?_
 rintro e w' ⟨v,rfl,hown,hb⟩
 refine ⟨hb,?_⟩
 rcases hown.2 with ⟨rfl,hk⟩ | ⟨g,cap',cur,rfl,hg,hcell,hk,hmax,hsz,htake⟩
 · have hw0:want l nm=[]:=List.eq_nil_of_length_eq_zero hk
   refine ⟨⟨at0 .nil,G⟩,_,rfl,fun b h=>.inl h,fun b h=>h,.lstN 0 rfl,?_,fun b cap es len h=>by cases h⟩
   rw [hw0]
   exact .listN _ _ rfl
 · refine ⟨⟨at0 (.at g cap' 3 (want l nm).length),G⟩,_,rfl,fun b h=>.inl h,fun b h=>h,.lst 0 g cap' 3 _ rfl,?_,fun b cap es len h=>by cases h;exact hg⟩
   refine .list _ 3 _ g cap' cur (by rw [List.length_map];rfl) hcell (fun h=>by have:=hG _ h;omega) (by rw [List.length_map];exact hk) hmax hsz (fun row hrow=>?_) (fun i j t ht=>?_)
   · obtain ⟨m,-,rfl⟩:=List.mem_map.1 hrow;rfl
   · obtain ⟨u,h1,rfl,h3,h4⟩:=flat3_at _ i j t ht
     refine ⟨u,?_,.flat u h3⟩
     rw [←htake,List.getElem?_take,if_pos h4] at h1
     simpa using h1
end So
namespace Gn
def selector_Of_g (l:List GMatcher) (n:ByteArray):Option (List GMatcher):=if l.length≤1000000000 then some (l.filter fun m=>decide (m.Name=n)) else none
theorem selector_Of_w {p0:List GMatcher} {p1:ByteArray} {r:List GMatcher} (h:selector_Of_g p0 p1=some r):FunL Tryz.prog 25 [.t (.slc (rw _ cMatcher p0)),fS p1] 46 3 (rw _ cMatcher r):=by
 unfold selector_Of_g at h
 split at h
 case isFalse=>cases h
 rename_i hl
 cases h
 have e:∀l:List GMatcher,rw _ cMatcher l=(l.map So.toM).map So.cM:=fun l=>by rw [List.map_map];rfl
 have e2:((p0.filter fun m=>decide (m.Name=p1)).map So.toM)=So.want (p0.map So.toM) p1:=by
  unfold So.want
  rw [List.filter_map]
  rfl
 rw [e,e,e2]
 exact So.Of_list _ _ (by rw [List.length_map];exact hl)
end Gn
end Go.Proofs.YtpplemjjeefpdaaGreatDoor
