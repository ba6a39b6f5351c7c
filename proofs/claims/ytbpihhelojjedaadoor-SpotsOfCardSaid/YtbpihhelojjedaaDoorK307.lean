/- Texts that the proof leans on. -/
import Derived.Lib.OthersKept
import Derived.Test.YtbpihhelojjedaaDoorK306
import Derived.Lib.AppendStr
set_option linter.unusedVariables false
set_option linter.unusedSimpArgs false
set_option maxRecDepth 100000
set_option maxHeartbeats 4000000
namespace Go.Proofs.YtbpihhelojjedaaDoor
open Go Go.RowKit
namespace Ab
section
variable {P:Program} {A:Run} {L:TypeId→Option Lt}
structure But (b:Nat) (w w':World):Prop where
 os:w'.os=w.os
 tape:w'.tape=w.tape
 output:w'.output=w.output
 size:w'.heap.size=w.heap.size
 other:∀k,k≠b→w'.heap[k]?=w.heap[k]?
theorem RowRep.but {cx:Cx} {w w':World} {id:Nat} {r:Row} (h:RowRep cx w id r) {b:Nat} (hb:But b w w') (hG:¬ cx.G b) (hne:∀c cap es len,cx.at_ id=some (.at c cap es len)→c≠b):RowRep cx w' id r:=by
 have hs:Same cx.G w w':=fun c hc=>hb.other c (fun e=>hG (e▸hc))
 cases h with
 | box ty cs c vs hat hbl hn hr=>exact .box ty cs c vs hat (by rw [hb.other c (hne _ _ _ _ hat)];exact hbl) hn (hr.mono hs (Cx.le.refl _))
 | listN ty es z hat hz=>exact .listN ty es z hat hz
 | list ty es rows c cap vs hat hbl hn hcap hmax hsz hes hr=>
   refine .list ty es rows c cap vs hat (by rw [hb.other c (hne _ _ _ _ hat)];exact hbl) hn hcap hmax hsz hes (fun i j t ht=>?_)
   obtain ⟨u,h1,h2⟩:=hr i j t ht
   exact ⟨u,h1,h2.mono hs (fun _ h=>h)⟩
 | iter s pos c hat hbl hn h0=>exact .iter s pos c hat (by rw [hb.other c (hne _ _ _ _ hat)];exact hbl) hn h0
 | map k rows c es clock hat hbl hn h0=>exact .map k rows c es clock hat (by rw [hb.other c (hne _ _ _ _ hat)];exact hbl) hn h0
 | hole ty rows r kid c cap vs hat hbl hn hcap hmax hsz hes hlt hr hk=>
   refine .hole ty rows r kid c cap vs hat (by rw [hb.other c (hne _ _ _ _ hat)];exact hbl) hn hcap hmax hsz hes hlt (fun i t hi ht=>?_) fun k hk'=>?_
   · obtain ⟨u,h1,h2⟩:=hr i t hi ht
     exact ⟨u,h1,h2.mono hs (fun _ h=>h)⟩
   · obtain ⟨u,h1,h2⟩:=hk k hk'
     exact ⟨u,h1,h2.mono hs (Cx.le.refl _)⟩
theorem HRep.live_lt {cx:Cx} {heap:List (Option Row)} {w:World} (h:HRep cx heap w) {id:Nat} {r:Row} {b cap es len:Nat} (hr:heap[id]?=some (some r)) (hat:cx.at_ id=some (.at b cap es len)):b<w.heap.size∧¬ cx.G b:=by
 have:=h.row id r hr
 cases this with
 | box ty cs b' vs hat' hbl hn=>rw [hat] at hat';cases hat';exact ⟨lt_size hbl,hn⟩
 | listN ty es z hat' hz=>rw [hat] at hat';cases hat'
 | list ty es rows b' cap' vs hat' hbl hn=>rw [hat] at hat';cases hat';exact ⟨lt_size hbl,hn⟩
 | iter s pos b' hat' hbl hn=>rw [hat] at hat';cases hat';exact ⟨lt_size hbl,hn⟩
 | map k rows b' es' clock hat' hbl hn=>rw [hat] at hat';cases hat';exact ⟨lt_size hbl,hn⟩
 | hole ty rows r kid b' cap' vs' hat' hbl hn=>rw [hat] at hat';cases hat';exact ⟨lt_size hbl,hn⟩
theorem getD_row' {heap:List (Option Row)} {id:Nat} {r:Row} (h:heap.getD id none=some r):heap[id]?=some (some r):=by
 rw [List.getD_eq_getElem?_getD] at h
 cases hg:heap[id]? with
 | none=>rw [hg] at h;cases h
 | some z=>rw [hg] at h;simp at h;rw [h]
def isList:Row→Bool
 | .list _ _ _=>true
 | .hole _ _ _ _=>true
 | _=>false
theorem Rel.write {cx:Cx} {s:St} {a:Act} {w w':World} {id b cap es len:Nat} {r r':Row} (R:Rel A cx s a w) (hr:s.heap[id]?=some (some r)) (hat:cx.at_ id=some (.at b cap es len)) (hb:But b w w')
 (hnew:RowRep cx w' id r') (hk:isList r'=true→isList r=true):Rel A cx (s.setRow id r') a w':=by
 obtain ⟨hlt,hnG⟩:=R.hp.live_lt hr hat
 have hs:Same cx.G w w':=fun c hc=>hb.other c (fun e=>hnG (e▸hc))
 have hid:id<s.heap.length:=(List.getElem?_eq_some_iff.1 hr).1
 have hg:∀(i:Nat) x,(s.heap.set id (some r'))[i]?=some (some x)→(i≠id∧s.heap[i]?=some (some x))∨(i=id∧x=r'):=fun i x hx=>by
  by_cases e:id=i
  · subst e
    rw [List.getElem?_set_self hid] at hx
    cases hx
    exact .inr ⟨rfl,rfl⟩
  · rw [List.getElem?_set_ne e] at hx
    exact .inl ⟨Ne.symm e,hx⟩
 have old:∀(i:Nat) x,(s.heap.set id (some r'))[i]?=some (some x)→∃y,s.heap[i]?=some (some y):=fun i x hx=>by
  rcases hg i x hx with ⟨-,h⟩ | ⟨rfl,-⟩
  · exact ⟨x,h⟩
  · exact ⟨r,hr⟩
 constructor
 · exact R.tm.mono hs (Cx.le.refl _)
 · exact R.df
 · constructor
   · intro i x hx
     rcases hg i x hx with ⟨hne,h⟩ | ⟨rfl,rfl⟩
     · refine (R.hp.row i x h).but hb hnG fun c cap' es' len' hc e=>?_
       subst e
       exact hne (R.hp.inj _ _ _ _ _ _ _ _ _ _ _ h hr hc hat)
     · exact hnew
   · intro i i' x x' c cap' es' len' cap2 es2 len2 h1 h2 h3 h4
     obtain ⟨y,hy⟩:=old i x h1
     obtain ⟨y',hy'⟩:=old i' x' h2
     exact R.hp.inj _ _ _ _ _ _ _ _ _ _ _ hy hy' h3 h4
   · intro i hi
     exact R.hp.dom i (by simpa [St.setRow] using hi)
 · constructor
   · rw [hb.os];exact R.kp.os
   · rw [hb.tape];exact R.kp.tape
   · rw [hb.output];exact R.kp.output
   · rw [hb.size];exact R.kp.size
   · intro c hc hM
     rw [hb.other c (fun e=>?_)]
     · exact R.kp.block c hc hM
     · subst e
       rcases R.kp.live _ _ _ _ _ _ hr hat with h | h
       · exact hM h
       · omega
   · intro i x c cap' es' len' hx hc
     obtain ⟨y,hy⟩:=old i x hx
     exact R.kp.live _ _ _ _ _ _ hy hc
   · exact R.kp.G0
   · rw [hb.size];exact R.kp.G1
   · exact R.kp.G2
   · exact R.kp.pin
   · have:=R.kp.base
     simpa [St.setRow] using this
   · exact R.kp.tab.mono hs (fun _ h=>h)
 · exact R.bs
theorem setBlock_but {w:World} {b:Nat} {o:Obj}:But b w (ChangeMaps.setBlock w b o):=⟨rfl,rfl,rfl,by simp [ChangeMaps.setBlock],fun k hk=>by simp [ChangeMaps.setBlock,Array.getElem?_setIfInBounds,Ne.symm hk]⟩
theorem iterAt_but {w:World} {b:Nat} {s:ByteArray} {p:Nat}:But b w (w.iterAt b s p):=⟨rfl,rfl,rfl,Lib.iterAt_size _ _ _ _,fun k hk=>Lib.iterAt_other _ _ _ _ _ hk⟩
theorem Stored.but {w w':World} {b o:Nat} {us:List Value} {arr:Array Value} {ty:TypeId} (h:Stored w w' b o us arr ty):But b w w':=⟨h.os,h.tape,h.output,h.size,h.other⟩
theorem run_storeVar {t:TypeId} {b o:Nat} {v:Value} {ty:TypeId} {arr:Array Value} {info:TypeInfo} {w:World} (hi:P.info? t=some info) (hsz:v.cells.size=info.size) (hb:w.heap[b]?=some (.cells arr ty (0,0)))
 (hle:o+v.cells.size≤arr.size) (ho:∀u∈v.cells,oneV u=true):∃w',(storeVar t ⟨b,o,none⟩ v).run P w=.ok () w'∧Stored w w' b o v.cells.toList arr ty:=by
 obtain ⟨w',h1,h2⟩:=run_storeCells (P:=P) (b:=b) (o:=o) v.cells.toList 0 w arr hb (by rw [Array.length_toList];omega) (fun u hu=>ho u (Array.mem_toList_iff.1 hu))
 refine ⟨w',?_,h2⟩
 simp only [storeVar,Sem.run_bind,run_sizeOf hi,Result.andThen_ok]
 rw [if_neg (by simp [hsz])]
 exact h1
theorem store_wp {cx:Cx} {s:St} {a:Act} {w:World} {o:Oper} {t:TypeId} {x y:Operand} {K:St→Prop} (hL:LayOk P L) (hop:o.op=.store t x y) (R:Rel A cx s a w) (h:pop (dom P A) L o s K):
 ∀next Q,(∀s' w',K s'→Rel A cx s' a w'→next a w')→o.wp P a w next Q:=fun next Q hn=>by
 have he:=eyes_of R.tm
 simp only [pop,hop] at h
 split at h
 · rename_i id off hd hxv
   have hx:=he x
   rw [hxv] at hx
   split at h
   case h_2=>exact h.elim
   rename_i ty cs hrow
   split at h
   case isFalse=>exact h.elim
   rename_i hle
   split at h
   case isFalse=>exact h.elim
   rename_i hall
   split at h
   case h_2=>exact h.elim
   rename_i lt hlt
   split at h
   case isFalse=>exact h.elim
   rename_i hsz
   obtain ⟨info,_,_,hi,_,hisz,_⟩:=hL t lt hlt
   obtain ⟨hv,hone⟩:=(he y).cells hall
   have hrow':s.heap[id]?=some (some (.box ty cs)):=by
    rw [List.getD_eq_getElem?_getD] at hrow
    cases hg:s.heap[id]? with
    | none=>rw [hg] at hrow;cases hrow
    | some z=>rw [hg] at hrow;simp at hrow;rw [hrow]
   have hR:=R.hp.row id _ hrow'
   generalize hy:a.eval x=z at hx
   cases hR with
   | box ty cs b vs hat hbl hnG hr=>
     cases hx with
     | ptr id off b' cap es len h'=>
       rw [hat] at h'
       cases h'
       obtain ⟨w',h1,h2⟩:=run_storeVar (P:=P) (o:=off) hi (by rw [hv.1,hsz,hisz]) hbl (by rw [hv.1,hr.1];exact hle) hone
       have hdst:a.put o.dst undef=a:=by rw [hd];rfl
       unfold Oper.wp
       have hrun:(execOp a.eval o).run P w=.ok .skip w':=by
        simp only [execOp,hop,Instr.storeAt,hy,Instr.sureAddr,Sem.run_bind,Sem.run_pure,Result.andThen_ok,h1]
       rw [hrun,Oper.upon_skip,hdst]
       refine hn _ _ h (R.write hrow' hat h2.but ?_ (fun e=>by cases e))
       obtain ⟨arr',g1,g2,g3⟩:=h2.here
       have hs:Same cx.G w w':=fun c hc=>h2.other c (fun e=>hnG (e▸hc))
       have hpl:(patch cs off (s.ev y).cells).length=cs.length:=patch_len hle
       refine .box ty _ b arr' (by rw [hpl];exact hat) g1 hnG ?_
       exact VReps.patch (hr.mono hs (Cx.le.refl _)) (hv.mono hs (Cx.le.refl _)) hle g2 (fun j=>by rw [g3 j,Array.length_toList,Array.getElem?_toList])
 · rename_i id r off hd hxv
   have hx:=he x
   rw [hxv] at hx
   split at h
   case h_2=>exact h.elim
   rename_i ty es rows hrow
   obtain ⟨cs,h0,hcs',h⟩:=h
   split at h
   case h_2=>
    rename_i hts
    split at h
    case h_2=>exact h.elim
    rename_i j hyv
    split at h
    case h_2=>exact h.elim
    rename_i lt hlt
    split at h
    case isFalse=>exact h.elim
    rename_i hsz
    obtain ⟨info,_,_,hi,_,hisz,_⟩:=hL t lt hlt
    have hyr:=he y
    rw [hyv] at hyr
    obtain ⟨hone,hvc,-⟩:=hyr.one rfl
    have hvl:(a.eval y).cells.size=1:=by rw [hvc];rfl
    have hrow':=getD_row' hrow
    have hR:=R.hp.row id _ hrow'
    generalize hy:a.eval x=z at hx
    cases hR with
    | listN=>simp at hcs'
    | list ty es rows b cap vs hat hbl hnG hcap hmax hvsz hes hr=>
      cases hx with
      | elt id row off b' cap' es' len h'=>
        rw [hat] at h'
        cases h'
        have hi1:r.toNat<rows.length:=(List.getElem?_eq_some_iff.1 hcs').1
        obtain ⟨w',h1,h2⟩:=run_storeVar (P:=P) (o:=r.toNat*1+0) hi (by rw [hvl,hsz,hisz]) hbl (by rw [hvl];omega) (by rw [hvc];intro u hu;simp at hu;rw [hu];exact hone)
        have hdst:a.put o.dst undef=a:=by rw [hd];rfl
        unfold Oper.wp
        have hrun:(execOp a.eval o).run P w=.ok .skip w':=by
         simp only [execOp,hop,hy,Instr.storeAt,Instr.sureAddr,Sem.run_bind,Sem.run_pure,Result.andThen_ok,h1]
        rw [hrun,Oper.upon_skip,hdst]
        refine hn _ _ h (R.write hrow' hat h2.but ?_ (fun _=>rfl))
        obtain ⟨arr',g1,g2,g3⟩:=h2.here
        have hs:Same cx.G w w':=fun c hc=>h2.other c (fun e=>hnG (e▸hc))
        refine .hole ty rows r _ b cap arr' hat g1 hnG hcap hmax (by rw [g2];omega) hes hi1 (fun i t' hne ht'=>?_) fun k hk=>?_
        · obtain ⟨u,q1,q2⟩:=hr i 0 t' (by rw [ht'];rfl)
          rw [g3,Array.length_toList,hvl,if_neg (by omega)]
          exact ⟨u,by simpa using q1,q2.mono hs (fun _ h=>h)⟩
        · cases hk
          refine ⟨a.eval y,?_,hyr.mono hs (Cx.le.refl _)⟩
          rw [g3,Array.length_toList,hvl,if_pos (by omega),hvc]
          simp
   rename_i ts hts
   split at h
   case isFalse=>exact h.elim
   rename_i hle
   split at h
   case h_2=>exact h.elim
   rename_i lt hlt
   split at h
   case isFalse=>exact h.elim
   rename_i hsz
   obtain ⟨info,_,_,hi,_,hisz,_⟩:=hL t lt hlt
   have hcells:=toTs_eq hts
   have hall:(s.ev y).cells.all V.cellB=true:=by
    rw [hcells,List.all_eq_true]
    intro c hc
    obtain ⟨t,-,rfl⟩:=List.mem_map.1 hc
    rfl
   obtain ⟨hv,hone⟩:=(he y).cells hall
   have hvl:(a.eval y).cells.size=ts.length:=by rw [hv.1,hcells,List.length_map]
   have hrow':s.heap[id]?=some (some (.list ty es rows)):=by
    rw [List.getD_eq_getElem?_getD] at hrow
    cases hg:s.heap[id]? with
    | none=>rw [hg] at hrow;cases hrow
    | some z=>rw [hg] at hrow;simp at hrow;rw [hrow]
   have hR:=R.hp.row id _ hrow'
   generalize hy:a.eval x=z at hx
   cases hR with
   | listN=>simp at hcs'
   | list ty es rows b cap vs hat hbl hnG hcap hmax hvsz hes hr=>
     cases hx with
     | elt id row off b' cap' es' len h'=>
       rw [hat] at h'
       cases h'
       have hi1:r.toNat<rows.length:=(List.getElem?_eq_some_iff.1 hcs').1
       have hcl:cs.length=es:=hes cs (List.mem_of_getElem? hcs')
       have hbound:r.toNat*es+es≤vs.size:=by
        have:(r.toNat+1)*es≤cap*es:=Nat.mul_le_mul_right _ (by omega)
        rw [Nat.succ_mul] at this
        omega
       obtain ⟨w',h1,h2⟩:=run_storeVar (P:=P) (o:=r.toNat*es+off) hi (by rw [hvl,hsz,hisz]) hbl (by omega) hone
       have hdst:a.put o.dst undef=a:=by rw [hd];rfl
       unfold Oper.wp
       have hrun:(execOp a.eval o).run P w=.ok .skip w':=by
        simp only [execOp,hop,Instr.storeAt,hy,Instr.sureAddr,Sem.run_bind,Sem.run_pure,Result.andThen_ok,h1]
       rw [hrun,Oper.upon_skip,hdst]
       refine hn _ _ h (R.write hrow' hat h2.but ?_ (fun e=>rfl))
       obtain ⟨arr',g1,g2,g3⟩:=h2.here
       have hs:Same cx.G w w':=fun c hc=>h2.other c (fun e=>hnG (e▸hc))
       have hpl:(patchT cs off ts).length=cs.length:=patch_len hle
       have hll:((dom P A).lset rows r (patchT cs off ts)).length=rows.length:=by simp [dom]
       refine .list ty es _ b cap arr' (by rw [hll];exact hat) g1 hnG (by rw [hll];exact hcap) hmax (by rw [g2];exact hvsz) (fun row hrow=>?_) (fun i j t' ht'=>?_)
       · rcases List.mem_or_eq_of_mem_set hrow with h | h
         · exact hes row h
         · rw [h,hpl,hcl]
       · rw [g3,Array.length_toList,hvl]
         by_cases e:i=r.toNat
         · subst e
           have:((dom P A).lset rows r (patchT cs off ts))[r.toNat]?=some (patchT cs off ts):=by
            show (rows.set r.toNat _)[r.toNat]?=_
            rw [List.getElem?_set_self hi1]
           rw [this,Option.bind_some,patchT,patch_get hle] at ht'
           have hjl:j<es:=by
            split at ht'
            · omega
            · have:=(List.getElem?_eq_some_iff.1 ht').1;omega
           split at ht'
           · rename_i hc
             rw [if_pos (by omega)]
             rw [show r.toNat*es+j-(r.toNat*es+off)=j-off by omega,Array.getElem?_toList]
             have hlt:j-off<(a.eval y).cells.size:=by omega
             refine ⟨_,Array.getElem?_eq_getElem hlt,?_⟩
             have:=hv.2 (j-off) (.t t') _ (by rw [hcells,List.getElem?_map,ht'];rfl) (Array.getElem?_eq_getElem hlt)
             cases this with | t x v h=>exact h.mono hs (fun _ h=>h)
           · rename_i hc
             rw [if_neg (by omega)]
             obtain ⟨u,e1,e2⟩:=hr r.toNat j t' (by rw [hcs',Option.bind_some];exact ht')
             exact ⟨u,e1,e2.mono hs (fun _ h=>h)⟩
         · have:((dom P A).lset rows r (patchT cs off ts))[i]?=rows[i]?:=by
            show (rows.set r.toNat _)[i]?=_
            rw [List.getElem?_set_ne (Ne.symm e)]
           rw [this] at ht'
           obtain ⟨u,e1,e2⟩:=hr i j t' ht'
           refine ⟨u,?_,e2.mono hs (fun _ h=>h)⟩
           have hj:j<es:=by
            cases hri:rows[i]? with
            | none=>rw [hri] at ht';cases ht'
            | some row=>
              rw [hri,Option.bind_some] at ht'
              have h1:=(List.getElem?_eq_some_iff.1 ht').1
              rw [hes row (List.mem_of_getElem? hri)] at h1
              exact h1
           rw [if_neg ?_]
           · exact e1
           · intro hc
             rcases Nat.lt_or_gt_of_ne e with hlt | hlt
             · have:(i+1)*es≤r.toNat*es:=Nat.mul_le_mul_right _ hlt
               rw [Nat.succ_mul] at this
               omega
             · have:(r.toNat+1)*es≤i*es:=Nat.mul_le_mul_right _ hlt
               rw [Nat.succ_mul] at this
               omega
 · exact h.elim
end
end Ab
end Go.Proofs.YtbpihhelojjedaaDoor
namespace Go.Proofs.YtbpihhelojjedaaDoor
open Go Go.RowKit
namespace Ab
section
variable {P:Program} {A:Run} {L:TypeId→Option Lt}
theorem killK_some {id k:Nat} {o:Option Nat} (h:killK id o=some k):k≠id∧o=some k:=by
 unfold killK at h
 split at h
 · split at h
   · cases h
   · cases h;exact ⟨‹_›,rfl⟩
 · cases h
theorem killL_map (id:Nat):∀l:List V,killL id l=l.map (V.kill id)
 | []=>rfl
 | v::r=>by rw [killL,killL_map id r];rfl
theorem killAny_no {id:Nat}:∀{l:List V},killAny id l=false→∀(i:Nat) (c:V),l[i]?=some c→c.names id=false
 | [],_,i,c,h=>by simp at h
 | v::r,hn,i,c,h=>by
   simp only [killAny,Bool.or_eq_false_iff] at hn
   cases i with
   | zero=>simp at h;subst h;exact hn.1
   | succ i=>exact killAny_no hn.2 i c (by simpa using h)
theorem VRep.kill2 {cx cx':Cx} {w w':World} {v:V} {u:Value} {id:Nat} (h:VRep cx w v u) (hs:Same cx.G w w') (hat:∀i B,i≠id→cx.at_ i=some B→cx'.at_ i=some B) (hG:∀b,cx.G b→cx'.G b):
 (v.names id=false→VRep cx' w' v u)∧VRep cx' w' (v.kill id) u:=by
 induction h with
 | t x v h=>exact ⟨fun _=>.t x v (h.mono hs hG),.t x v (h.mono hs hG)⟩
 | agg cs vs hn hcb hr ih=>
   have key:killAny id cs=false→VRep cx' w' (.agg cs) (.agg vs):=fun hno=>.agg cs vs hn hcb fun i c u h1 h2=>(ih i c u h1 h2).1 (killAny_no hno i c h1)
   refine ⟨fun hno=>key hno,?_⟩
   rw [V.kill]
   cases hk:killAny id cs with
   | true=>rw [if_pos rfl];exact .junk _
   | false=>rw [if_neg (by simp)];exact key hk
 | tup cs vs hn hr ih=>
   refine ⟨fun hno=>.tup cs vs hn fun i c u h1 h2=>(ih i c u h1 h2).1 (killAny_no hno i c h1),?_⟩
   rw [V.kill,killL_map]
   refine .tup _ vs (by simpa using hn) fun i c u h1 h2=>?_
   rw [List.getElem?_map] at h1
   obtain ⟨c',hc',rfl⟩:=Option.map_eq_some_iff.1 h1
   exact (ih i c' u hc' h2).2
 | lstN i a0 z0 h hz0=>
   have key:i≠id→VRep cx' w' (.lst i) (.slice a0 0 0):=fun hne=>.lstN i a0 z0 (hat _ _ hne h) hz0
   refine ⟨fun hno=>key (by simpa [V.names] using hno),?_⟩
   rw [V.kill]
   split
   · exact .junk _
   · rename_i hne;exact key hne
 | lst i b cap es len h=>
   have key:i≠id→VRep cx' w' (.lst i) (.slice (some ⟨b,0,none⟩) len cap):=fun hne=>.lst i b cap es len (hat _ _ hne h)
   refine ⟨fun hno=>key (by simpa [V.names] using hno),?_⟩
   rw [V.kill]
   split
   · exact .junk _
   · rename_i hne;exact key hne
 | ptr i off b cap es len h=>
   have key:i≠id→VRep cx' w' (.ptr i off) (.pointer (some ⟨b,off,none⟩)):=fun hne=>.ptr i off b cap es len (hat _ _ hne h)
   refine ⟨fun hno=>key (by simpa [V.names] using hno),?_⟩
   rw [V.kill]
   split
   · exact .junk _
   · rename_i hne;exact key hne
 | elt i row off b cap es len h=>
   have key:i≠id→VRep cx' w' (.elt i row off) (.pointer (some ⟨b,row.toNat*es+off,none⟩)):=fun hne=>.elt i row off b cap es len (hat _ _ hne h)
   refine ⟨fun hno=>key (by simpa [V.names] using hno),?_⟩
   rw [V.kill]
   split
   · exact .junk _
   · rename_i hne;exact key hne
 | win i lo b cap es len h=>
   have key:i≠id→VRep cx' w' (.win i lo) (.slice (some ⟨b,if cap=lo.toNat then 0 else lo.toNat*es,none⟩) (len-lo.toNat) (cap-lo.toNat)):=fun hne=>.win i lo b cap es len (hat _ _ hne h)
   refine ⟨fun hno=>key (by simpa [V.names] using hno),?_⟩
   rw [V.kill]
   split
   · exact .junk _
   · rename_i hne;exact key hne
 | pre i n b cap es len h=>
   have key:i≠id→VRep cx' w' (.pre i n) (.slice (some ⟨b,0,none⟩) n.toNat cap):=fun hne=>.pre i n b cap es len (hat _ _ hne h)
   refine ⟨fun hno=>key (by simpa [V.names] using hno),?_⟩
   rw [V.kill]
   split
   · exact .junk _
   · rename_i hne;exact key hne
 | mp i b cap es len h=>
   have key:i≠id→VRep cx' w' (.mp i) (.map (some b)):=fun hne=>.mp i b cap es len (hat _ _ hne h)
   refine ⟨fun hno=>key (by simpa [V.names] using hno),?_⟩
   rw [V.kill]
   split
   · exact .junk _
   · rename_i hne;exact key hne
 | ipt cells off b o u hb hc hr=>
   have key:VRep cx' w' (.ipt cells off) (.pointer (some ⟨b,o+off,none⟩)):=.ipt cells off b o u (hG _ hb) (fun j t h=>by rw [hs.cell hb];exact hc j t h) (fun j t h=>(hr j t h).mono hs hG)
   exact ⟨fun _=>key,key⟩
 | fn f cs vs hn hr ih=>
   refine ⟨fun hno=>.fn f cs vs hn fun i c u h1 h2=>(ih i c u h1 h2).1 (killAny_no hno i c h1),?_⟩
   rw [V.kill,killL_map]
   refine .fn f _ vs (by simpa using hn) fun i c u h1 h2=>?_
   rw [List.getElem?_map] at h1
   obtain ⟨c',hc',rfl⟩:=Option.map_eq_some_iff.1 h1
   exact (ih i c' u hc' h2).2
 | ifc t v u h ih=>exact ⟨fun hno=>.ifc t v u (ih.1 (by simpa [V.names] using hno)),.ifc t _ u ih.2⟩
 | junk v=>exact ⟨fun _=>.junk v,.junk v⟩
theorem VReps.killL {cx cx':Cx} {w w':World} {cs:List V} {vs:Array Value} {id:Nat} (h:VReps cx w cs vs) (hs:Same cx.G w w') (hat:∀i B,i≠id→cx.at_ i=some B→cx'.at_ i=some B) (hG:∀b,cx.G b→cx'.G b):
 VReps cx' w' (Ab.killL id cs) vs:=by
 rw [killL_map]
 refine ⟨by simpa using h.1,fun i c u h1 h2=>?_⟩
 rw [List.getElem?_map] at h1
 obtain ⟨c',hc',rfl⟩:=Option.map_eq_some_iff.1 h1
 exact ((h.2 i c' u hc' h2).kill2 hs hat hG).2
theorem news_of {n es:Nat} {f:Nat→Nat→Value} (he:0<es):((List.range (n*es)).map fun k=>f (k / es) (k % es)).length=n*es∧
 ∀i j,i<n→j<es→((List.range (n*es)).map fun k=>f (k / es) (k % es))[i*es+j]?=some (f i j):=by
 refine ⟨by simp,fun i j hi hj=>?_⟩
 have h1:i*es+j<n*es:=mul_lt hi hj
 have h2:(i*es+j) / es=i:=by rw [Nat.mul_comm,Nat.mul_add_div he,Nat.div_eq_of_lt hj,Nat.add_zero]
 have h3:(i*es+j) % es=j:=by rw [Nat.mul_comm,Nat.mul_add_mod];exact Nat.mod_eq_of_lt hj
 rw [List.getElem?_map,List.getElem?_range h1]
 simp [h2,h3]
theorem rows_news {cx:Cx} {s:St} {a:Act} {w:World} (R:Rel A cx s a w) {y:V} {yv:Value} (hy:VRep cx w y yv) {new:Rows} (h:rowsAt s.heap y=some new) {es:Nat} (he:0<es) (hfit:∀row∈new,row.length=es):
 (new=[]∧yv=.slice none 0 0)∨∃(ad:Addr) (c:Nat) (news:List Value),yv=.slice (some ad) new.length c∧news.length=new.length*es∧(∀(j:Nat) (u:Value),news[j]?=some u→w.cell? (ad.add j)=some u)∧(∀u∈news,oneV u=true)∧
  ∀(i j:Nat) (t:T),(new[i]?).bind (fun r=>r[j]?)=some t→∃u,news[i*es+j]?=some u∧TRep cx.G w t u:=by
 have ones:∀{t:T} {u:Value},TRep cx.G w t u→oneV u=true:=fun h=>by cases h with | flat v h=>exact h | slc=>rfl
 have cell_in:∀{i j:Nat} {t:T},(new[i]?).bind (fun r=>r[j]?)=some t→i<new.length∧j<es:=fun {i j t} ht=>by
  cases hri:new[i]? with
  | none=>rw [hri] at ht;cases ht
  | some row=>
    rw [hri,Option.bind_some] at ht
    have h1:=(List.getElem?_eq_some_iff.1 ht).1
    rw [hfit row (List.mem_of_getElem? hri)] at h1
    exact ⟨(List.getElem?_eq_some_iff.1 hri).1,h1⟩
 have there:∀{k:Nat},k<new.length*es→∃t,(new[k / es]?).bind (fun r=>r[k % es]?)=some t:=fun {k} hk=>by
  have h1:k / es<new.length:=Nat.div_lt_of_lt_mul (by rw [Nat.mul_comm];exact hk)
  have h2:k % es<es:=Nat.mod_lt _ he
  have h3:=hfit _ (List.getElem_mem h1)
  exact ⟨(new[k / es])[k % es]'(by rw [h3];exact h2),by rw [List.getElem?_eq_getElem h1,Option.bind_some,List.getElem?_eq_getElem]⟩
 unfold rowsAt at h
 split at h
 · cases h
   cases hy with
   | t x v hT=>
     cases hT with
     | slc rows a b oo es' cap u hcap hnil ha hes hc hr=>
       by_cases hne:new=[]
       · subst hne
         cases a with
         | none=>
           cases cap with
           | zero=>exact .inl ⟨rfl,rfl⟩
           | succ cap=>exact absurd (hnil rfl) (by omega)
         | some ad=>exact .inr ⟨ad,cap,[],rfl,by simp,fun j u h=>by simp at h,fun u h=>by simp at h,fun i j t h=>by simp at h⟩
       · obtain ⟨rfl,hG⟩:=ha hne
         have hee:es'=es:=by
          obtain ⟨row,hrow⟩:=List.exists_mem_of_ne_nil _ hne
          rw [←hes row hrow,hfit row hrow]
         subst hee
         obtain ⟨n1,n2⟩:=news_of (n:=new.length) (f:=u) he
         refine .inr ⟨⟨b,oo,none⟩,cap,_,rfl,n1,fun j v hj=>?_,fun v hv=>?_,fun i j t ht=>?_⟩
         · rw [List.getElem?_map] at hj
           obtain ⟨k,hk,rfl⟩:=Option.map_eq_some_iff.1 hj
           have hlt:j<new.length*es':=by have:=(List.getElem?_eq_some_iff.1 hk).1;simpa using this
           rw [List.getElem?_range hlt] at hk
           cases hk
           obtain ⟨t,ht⟩:=there hlt
           have:=hc _ _ t ht
           rw [add_none]
           rw [show j / es'*es'+j % es'=j by rw [Nat.mul_comm];exact Nat.div_add_mod j es'] at this
           exact this
         · obtain ⟨k,hk,rfl⟩:=List.mem_map.1 hv
           obtain ⟨t,ht⟩:=there (List.mem_range.1 hk)
           exact ones (hr _ _ t ht)
         · obtain ⟨c1,c2⟩:=cell_in ht
           exact ⟨_,n2 i j c1 c2,hr i j t ht⟩
 · cases h
   cases hy with
   | t x v hT=>cases hT;exact .inl ⟨rfl,rfl⟩
 · rename_i id
   split at h
   · rename_i ty es' rows hrow
     cases h
     have hrow':s.heap[id]?=some (some (.list ty es' new)):=by
      rw [List.getD_eq_getElem?_getD] at hrow
      cases hg:s.heap[id]? with
      | none=>rw [hg] at hrow;cases hrow
      | some z=>rw [hg] at hrow;simp at hrow;rw [hrow]
     have hR:=R.hp.row id _ hrow'
     cases hR with
     | listN ty es z1 hat hz1=>
       cases hy with
       | lstN i a0 z0 h' hz0=>cases a0 with
         | none=>exact .inl ⟨rfl,rfl⟩
         | some ad=>exact .inr ⟨ad,0,[],rfl,by simp,fun j u h=>by simp at h,fun u h=>by simp at h,fun i j t h=>by simp at h⟩
       | lst i b cap es len h'=>rw [hat] at h';cases h'
     | list ty es rows b cap vs hat hbl hnG hcap hmax hsz hes hr=>
       cases hy with
       | lstN i a0 z0 h' hz0=>rw [hat] at h';cases h'
       | lst i b' cap' es'' len h'=>
         rw [hat] at h'
         cases h'
         by_cases hne:new=[]
         · subst hne
           exact .inr ⟨_,_,[],rfl,by simp,fun j u h=>by simp at h,fun u h=>by simp at h,fun i j t h=>by simp at h⟩
         · have hee:es'=es:=by
            obtain ⟨row,hrow⟩:=List.exists_mem_of_ne_nil _ hne
            rw [←hes row hrow,hfit row hrow]
           subst hee
           have hle:new.length*es'≤vs.size:=by rw [hsz];exact Nat.mul_le_mul_right _ hcap
           have hvl:vs.toList.length=vs.size:=by simp
           refine .inr ⟨_,_,vs.toList.take (new.length*es'),rfl,by rw [List.length_take,hvl];omega,fun j v hj=>?_,fun v hv=>?_,fun i j t ht=>?_⟩
           · rw [List.getElem?_take] at hj
             split at hj
             · rw [Array.getElem?_toList] at hj
               rw [add_none,cell_of_block hbl,Nat.zero_add]
               exact hj
             · cases hj
           · obtain ⟨k,hk,rfl⟩:=List.mem_iff_getElem.1 hv
             have hk':k<new.length*es':=by rw [List.length_take,hvl] at hk;omega
             obtain ⟨t,ht⟩:=there hk'
             obtain ⟨u,h1,h2⟩:=hr _ _ t ht
             rw [show k / es'*es'+k % es'=k by rw [Nat.mul_comm];exact Nat.div_add_mod k es'] at h1
             have:(vs.toList.take (new.length*es'))[k]=u:=by
              rw [List.getElem_take]
              have:=(Array.getElem?_eq_some_iff.1 h1).2
              simpa using this
             rw [this]
             exact ones h2
           · obtain ⟨c1,c2⟩:=cell_in ht
             obtain ⟨u,h1,h2⟩:=hr i j t ht
             refine ⟨u,?_,h2⟩
             rw [List.getElem?_take,if_pos (mul_lt c1 c2),Array.getElem?_toList]
             exact h1
   · cases h
 · cases h
theorem one_cell' {u:Value} (h:oneV u=true):u.oneCell'=true:=by cases u<;>first | rfl | (simp [oneV] at h)
theorem own_form {w:World} {e size:Nat} {v:Value} {n:Nat} {xs:List Value} (h:w.ownsRow 0 e size v n xs):(v=.slice none 0 0∧n=0)∨
 ∃g cap cur,v=.slice (some ⟨g,0,none⟩) n cap∧w.heap[g]?=some (.cells cur e (0,0))∧n≤cap∧cap≤maxLen∧cur.size=cap*size∧cur.toList.take (n*size)=xs:=by
 rcases h.2 with h | ⟨g,cap,cur,h1,-,h2⟩
 · exact .inl h
 · exact .inr ⟨g,cap,cur,h1,h2⟩
theorem rows_news' {cx:Cx} {s:St} {a:Act} {w:World} (R:Rel A cx s a w) {y:V} {yv:Value} (hy:VRep cx w y yv) {new:Rows} (h:rowsAt s.heap y=some new) {es:Nat} (he:0<es) (hfit:∀row∈new,row.length=es):
 ∃ news:List Value,news.length=new.length*es∧(∀u∈news,oneV u=true)∧
   ((new.length=0∧yv=.slice none 0 0)∨∃(ad:Addr) (c:Nat),yv=.slice (some ad) new.length c∧∀(j:Nat) (u:Value),news[j]?=some u→w.cell? (ad.add j)=some u)∧
   ∀(i j:Nat) (t:T),(new[i]?).bind (fun r=>r[j]?)=some t→∃u,news[i*es+j]?=some u∧TRep cx.G w t u:=by
 rcases rows_news R hy h he hfit with ⟨rfl,rfl⟩ | ⟨ad,c,news,h1,h2,h3,h4,h5⟩
 · exact ⟨[],by simp,fun u h=>by simp at h,.inl ⟨rfl,rfl⟩,fun i j t h=>by simp at h⟩
 · exact ⟨news,h2,h4,.inr ⟨ad,c,h1,h3⟩,h5⟩
def Src (P:Program) (w:World) (t u e:TypeId) (i:TypeInfo) (yv:Value) (m:Nat) (news:List Value):Prop:=
 (u=t∧((m=0∧yv=.slice none 0 0)∨∃(ad:Addr) (c:Nat),yv=.slice (some ad) m c∧∀(j:Nat) (v:Value),news[j]?=some v→w.cell? (ad.add j)=some v))∨
 (P.underlying u=some .string∧i.zero=some (.int .u8 0)∧i.size=1∧i.bytes=1∧∃str:ByteArray,yv=.string str∧m=str.size∧news=Lib.strCells str)
theorem append_zero {w:World} {t u e ty size bytes m:Nat} {i:TypeInfo} {z:Value} (ht:P.underlying t=some (.slice e)) (hi:P.info? e=some i) (hz:i.zero=some z) (hsize:i.size=size) (hby:i.bytes=bytes)
 (hzs:z.cells.size=size) (hsz:0<size) {ad:Addr} {yv:Value} {news:List Value} (hl:news.length=m*size)
 (hy:Src P w t u e i yv m news) (h63:m≤maxLen) (hbytes:m*bytes≤2 ^ 47):
 (m=0∧(Builtin.append_ #[t,u] ty #[.slice (some ad) 0 0,yv]).run P w=.ok (.slice (some ad) 0 0) w)∨(0<m∧(Builtin.append_ #[t,u] ty #[.slice (some ad) 0 0,yv]).run P w=(Builtin.append_ #[t,u] ty #[.slice none 0 0,yv]).run P w):=by
 rcases Nat.eq_zero_or_pos m with h0 | h0
 · subst h0
   refine .inl ⟨rfl,?_⟩
   rcases hy with ⟨rfl,⟨-,rfl⟩ | ⟨ad2,c,rfl,hc⟩⟩ | ⟨hu,hz0,hs1,hb1,str,rfl,hm,rfl⟩
   · simp [Builtin.append_,run_underlying ht,sizeOf,typeInfo,hi,Builtin.lenOf,Builtin.firstCells,go_sem]
   · simp [Builtin.append_,run_underlying ht,sizeOf,typeInfo,hi,Builtin.lenOf,Builtin.firstCells,go_sem]
   · have hs0:str.size=0:=hm.symm
     simp [Builtin.append_,run_underlying ht,run_underlying hu,sizeOf,typeInfo,hi,Builtin.lenOf,Builtin.firstCells,hs0,go_sem]
 · refine .inr ⟨h0,?_⟩
   have hnc:Builtin.nextslicecap m 0=m:=by unfold Builtin.nextslicecap;rw [if_pos (by omega)]
   have hno:¬(281474976710656:Nat)<m*i.bytes:=by rw [hby];omega
   have hne:¬ m=0:=by omega
   rcases hy with ⟨rfl,⟨rfl,rfl⟩ | ⟨ad2,c,rfl,hc⟩⟩ | ⟨hu,hz0,hs1,hb1,str,rfl,hm,rfl⟩
   · omega
   · simp [Builtin.append_,run_underlying ht,sizeOf,typeInfo,hi,Builtin.lenOf,Builtin.firstCells,hnc,hno,hne,go_sem]
   · rw [hm] at hnc hno hne
     simp [Builtin.append_,run_underlying ht,run_underlying hu,sizeOf,typeInfo,hi,Builtin.lenOf,Builtin.firstCells,hnc,hno,hne,go_sem]
theorem append_run {w:World} {t u e ty size bytes n m:Nat} {i:TypeInfo} {z:Value} (ht:P.underlying t=some (.slice e)) (hi:P.info? e=some i) (hz:i.zero=some z) (hsize:i.size=size) (hby:i.bytes=bytes)
 (hzs:z.cells.size=size) (hsz:0<size) {v yv:Value} {xs news:List Value} (hown:w.ownsRow 0 e size v n xs) (hl:news.length=m*size) (ho:∀u∈news,oneV u=true)
 (hy:Src P w t u e i yv m news) (h63:n+m≤maxLen) (hbytes:(n+m)*bytes≤2 ^ 47):
 ∃v' w',(Builtin.append_ #[t,u] ty #[v,yv]).run P w=.ok v' w'∧w'.ownsRow 0 e size v' (n+m) (xs++news)∧w.grownBy w' v.ownBlock∧(v'.ownBlock=v.ownBlock∨v'.ownBlock=some w.heap.size):=by
 rcases hy with ⟨rfl,⟨rfl,rfl⟩ | ⟨ad,c,rfl,hc⟩⟩ | ⟨hu,hz0,hs1,hb1,str,rfl,rfl,rfl⟩
 · have:news=[]:=by simpa using hl
   subst this
   exact ⟨v,w,run_append_owned_none w 0 u ty e i size ht hi v n xs hown,by simpa using hown,⟨rfl,rfl,rfl,Nat.le_refl _,fun _ _ _=>rfl⟩,.inl rfl⟩
 · obtain ⟨v',w',h1,h2,h3,-,h5⟩:=run_append_own_at (P:=P) w 0 u ty e i z size bytes ht hi hz hsize hby hzs hsz v n xs hown ad m c news hl hc (fun u hu=>one_cell' (ho u hu)) h63 (by omega) (Nat.zero_le _)
   exact ⟨v',w',h1,h2,h3,h5⟩
 · obtain rfl:size=1:=hsize.symm.trans hs1
   obtain rfl:bytes=1:=hby.symm.trans hb1
   obtain ⟨v',w',h1,h2,h3,h4⟩:=Lib.run_append_own_string (P:=P) w 0 t u ty e i ht hu hi hz0 hs1 hb1 v n xs hown str h63 (by omega) (Nat.zero_le _)
   refine ⟨v',w',h1,h2,h3,?_⟩
   rcases own_form hown with ⟨rfl,rfl⟩ | ⟨g,cap,cur,rfl,g1,g2,g3,g4,g5⟩
   · obtain ⟨v2,w2,k1,k2,-,-⟩:=Lib.run_append_own_string (P:=P) w w.heap.size t u ty e i ht hu hi hz0 hs1 hb1 (.slice none 0 0) 0 xs ⟨hown.1,.inl ⟨rfl,rfl⟩⟩ str h63 (by omega) (Nat.le_refl _)
     rw [h1] at k1
     injection k1 with k1 k1'
     subst k1
     subst k1'
     rcases k2.2 with ⟨rfl,-⟩ | ⟨g,cap,cur,rfl,g0,g1,-⟩
     · exact .inl rfl
     · rcases h2.2 with ⟨e,-⟩ | ⟨g',cap',cur',e,-,g1',-⟩
       · cases e
       · cases e
         refine .inr ?_
         show some g=some w.heap.size
         congr 1
         rcases Nat.lt_or_ge w.heap.size g with h | h
         · exfalso
           have hl:=Lib.strCells_length str
           by_cases h0:str.size=0
           · exact absurd (h4.2 ⟨rfl,h0⟩) (by simp)
           · have hr:=run_append_nil_string (P:=P) w t u ty e i (.int .u8 0) ht hu hi hz0 str (by omega) (by unfold maxLen at h63;omega) (by rw [hb1];omega)
             rw [h1] at hr
             injection hr with hr _
             injection hr with hr
             injection hr with hr
             injection hr with hr
             omega
         · omega
   · by_cases hroom:n+str.size≤cap
     · have hr:=Lib.run_append_room_string (P:=P) w t u ty e i ht hu hi hs1 g n cap cur g1 str hroom (by omega)
       rw [h1] at hr
       injection hr with hr _
       subst hr
       exact .inl rfl
     · have holds:∀j v,xs[j]?=some v→w.cell? ((⟨g,0,none⟩:Addr).add j)=some v:=hown.cells (g:=g) rfl
       have hr:=Lib.run_append_grow_string (P:=P) w t u ty e i (.int .u8 0) ht hu hi hz0 ⟨g,0,none⟩ n cap xs (by rw [hs1];exact hown.1) holds str (by omega) (by unfold maxLen at h63;omega) (by rw [hb1];exact growslice_fits (by omega) (by omega))
       rw [h1] at hr
       injection hr with hr _
       subst hr
       exact .inr rfl
end
end Ab
end Go.Proofs.YtbpihhelojjedaaDoor
