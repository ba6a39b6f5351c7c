/- Texts that the proof leans on. -/
import Derived.Laws.CopyRow
import Derived.Test.YtbpihhelojjedaaDoorK307
set_option linter.unusedVariables false
set_option linter.unusedSimpArgs false
set_option maxRecDepth 100000
set_option maxHeartbeats 4000000
namespace Go.Proofs.YtbpihhelojjedaaDoor
open Go Go.RowKit
namespace Ab
section
variable {P:Program} {A:Run} {L:TypeId→Option Lt}
theorem Rel.grow {cx:Cx} {s:St} {a:Act} {w w':World} {id ty es:Nat} {rows rows':Rows} {B:Blk} {row:Option Nat} (R:Rel A cx s a w) (hr:s.heap[id]?=some (some (.list ty es rows))) (hfree:A.pin id=none)
 (hg:w.grownBy w' row) (hrow:∀k,row=some k→∃cap len es',cx.at_ id=some (.at k cap es' len))
 (hB:∀b cap es' len,B=.at b cap es' len→(some b=row∨w.heap.size≤b)∧b<w'.heap.size)
 (hnew:RowRep ⟨fun i=>if i=id then some B else cx.at_ i,cx.G⟩ w' id (.list ty es rows')):
 Rel A ⟨fun i=>if i=id then some B else cx.at_ i,cx.G⟩ ((s.kill id).setRow id (.list ty es rows')) a w':=by
 have hid:id<s.heap.length:=(List.getElem?_eq_some_iff.1 hr).1
 have rowG:∀k,row=some k→¬ cx.G k:=fun k hk=>by
  obtain ⟨cap,len,es',hat⟩:=hrow k hk
  exact (R.hp.live_lt hr hat).2
 have hs:Same cx.G w w':=fun c hc=>hg.block c (R.kp.G1 c hc) (fun e=>rowG c e.symm hc)
 have hat':∀i B',i≠id→cx.at_ i=some B'→(if i=id then some B else cx.at_ i)=some B':=fun i B' hne h=>by rw [if_neg hne];exact h
 have hh:∀(i:Nat) x,((s.kill id).setRow id (.list ty es rows')).heap[i]?=some (some x)→(i≠id∧∃y,s.heap[i]?=some (some y)∧killRow id (some y)=some x)∨(i=id∧x=.list ty es rows'):=fun i x hx=>by
  simp only [St.setRow,St.kill] at hx
  by_cases e:id=i
  · subst e
    rw [List.getElem?_set_self (by simpa using hid)] at hx
    cases hx
    exact .inr ⟨rfl,rfl⟩
  · rw [List.getElem?_set_ne e,List.getElem?_map] at hx
    obtain ⟨y,hy,hk⟩:=Option.map_eq_some_iff.1 hx
    cases y with
    | none=>cases hk
    | some y=>exact .inl ⟨Ne.symm e,y,hy,hk⟩
 have atne:∀{i:Nat},i≠id→(if i=id then some B else cx.at_ i)=cx.at_ i:=fun h=>if_neg h
 have ateq:(if id=id then some B else cx.at_ id)=some B:=if_pos rfl
 -- the block of another row is not the one that may have been written
 have apart:∀(i:Nat) y b cap es' len,i≠id→s.heap[i]?=some (some y)→cx.at_ i=some (.at b cap es' len)→b<w.heap.size∧some b≠row:=fun i y b cap es' len hne hy hb=>by
  refine ⟨(R.hp.live_lt hy hb).1,fun e=>?_⟩
  obtain ⟨cap2,len2,es2,h2⟩:=hrow b e.symm
  exact hne (R.hp.inj _ _ _ _ _ _ _ _ _ _ _ hy hr hb h2)
 constructor
 · exact R.tm.killL hs hat' (fun _ h=>h)
 · exact R.df
 · constructor
   · intro i x hx
     rcases hh i x hx with ⟨hne,y,hy,hk⟩ | ⟨rfl,rfl⟩
     · have hR:=R.hp.row i y hy
       cases hR with
       | box ty' cs b vs hat hbl hn hrr=>
         simp only [killRow,Option.some.injEq] at hk
         subst hk
         obtain ⟨a1,a2⟩:=apart i _ b _ _ _ hne hy hat
         refine .box ty' _ b vs ?_ (by rw [hg.block b a1 a2];exact hbl) hn (hrr.killL hs hat' (fun _ h=>h))
         show (if i=id then some B else cx.at_ i)=_
         rw [atne hne,hat,killL_map,List.length_map]
       | listN ty' es' z1 hat hz1=>
         simp only [killRow,Option.some.injEq] at hk
         subst hk
         exact .listN _ _ z1 (by show (if i=id then some B else cx.at_ i)=_;rw [atne hne];exact hat) hz1
       | list ty' es' rows2 b cap vs hat hbl hn hcap hmax hsz hes hrr=>
         simp only [killRow,Option.some.injEq] at hk
         subst hk
         obtain ⟨a1,a2⟩:=apart i _ b _ _ _ hne hy hat
         refine .list ty' es' rows2 b cap vs (by show (if i=id then some B else cx.at_ i)=_;rw [atne hne];exact hat) (by rw [hg.block b a1 a2];exact hbl) hn hcap hmax hsz hes (fun k j t ht=>?_)
         obtain ⟨u,h1,h2⟩:=hrr k j t ht
         exact ⟨u,h1,h2.mono hs (fun _ h=>h)⟩
       | iter s' pos b hat hbl hn h0=>
         simp only [killRow,Option.some.injEq] at hk
         subst hk
         obtain ⟨a1,a2⟩:=apart i _ b _ _ _ hne hy hat
         exact .iter s' pos b (by show (if i=id then some B else cx.at_ i)=_;rw [atne hne];exact hat) (by rw [hg.block b a1 a2];exact hbl) hn h0
       | map c' rows' b es' clock' hat hbl hn h0=>
         simp only [killRow,Option.some.injEq] at hk
         subst hk
         obtain ⟨a1,a2⟩:=apart i _ b _ _ _ hne hy hat
         exact .map c' rows' b es' clock' (by show (if i=id then some B else cx.at_ i)=_;rw [atne hne];exact hat) (by rw [hg.block b a1 a2];exact hbl) hn h0
       | hole ty' rows2 r kid b cap vs hat hbl hn hcap hmax hsz hes hlt hrr hk2=>
         simp only [killRow,Option.some.injEq] at hk
         subst hk
         obtain ⟨a1,a2⟩:=apart i _ b _ _ _ hne hy hat
         refine .hole ty' rows2 r _ b cap vs (by show (if i=id then some B else cx.at_ i)=_;rw [atne hne];exact hat) (by rw [hg.block b a1 a2];exact hbl) hn hcap hmax hsz hes hlt (fun j t hj ht=>?_) fun k hk'=>?_
         · obtain ⟨u,h1,h2⟩:=hrr j t hj ht
           exact ⟨u,h1,h2.mono hs (fun _ h=>h)⟩
         · obtain ⟨hne2,hk'⟩:=killK_some hk'
           obtain ⟨u,h1,h2⟩:=hk2 k hk'
           exact ⟨u,h1,(VRep.kill2 (cx':=⟨fun i=>if i=id then some B else cx.at_ i,cx.G⟩) (id:=id) h2 hs hat' (fun _ h=>h)).1 (by simpa [V.names] using hne2)⟩
     · exact hnew
   · intro i i' x x' b cap es1 len cap' es2 len' h1 h2 h3 h4
     have h3':(if i=id then some B else cx.at_ i)=some (.at b cap es1 len):=h3
     have h4':(if i'=id then some B else cx.at_ i')=some (.at b cap' es2 len'):=h4
     rcases hh i x h1 with ⟨hne,y,hy,-⟩ | ⟨rfl,rfl⟩<;>rcases hh i' x' h2 with ⟨hne',y',hy',-⟩ | ⟨rfl,rfl⟩
     · rw [atne hne] at h3'
       rw [atne hne'] at h4'
       exact R.hp.inj _ _ _ _ _ _ _ _ _ _ _ hy hy' h3' h4'
     · rw [atne hne] at h3'
       rw [ateq] at h4'
       cases h4'
       obtain ⟨a1,a2⟩:=apart i _ b _ _ _ hne hy h3'
       rcases (hB _ _ _ _ rfl).1 with h | h
       · exact absurd h a2
       · omega
     · rw [atne hne'] at h4'
       rw [ateq] at h3'
       cases h3'
       obtain ⟨a1,a2⟩:=apart i' _ b _ _ _ hne' hy' h4'
       rcases (hB _ _ _ _ rfl).1 with h | h
       · exact absurd h a2
       · omega
     · rfl
   · intro i hi
     simp only [St.setRow,St.kill,List.length_set,List.length_map] at hi
     show (if i=id then some B else cx.at_ i)=none
     rw [if_neg (by omega)]
     exact R.hp.dom i hi
 · constructor
   · rw [hg.os];exact R.kp.os
   · rw [hg.tape];exact R.kp.tape
   · rw [hg.output];exact R.kp.output
   · exact Nat.le_trans R.kp.size hg.size
   · intro b hb hM
     rw [hg.block b (Nat.lt_of_lt_of_le hb R.kp.size) (fun e=>?_)]
     · exact R.kp.block b hb hM
     · obtain ⟨cap,len,es',hat⟩:=hrow b e.symm
       rcases R.kp.live _ _ _ _ _ _ hr hat with h | h
       · exact hM h
       · omega
   · intro i x b cap es1 len hx hb
     have hb':(if i=id then some B else cx.at_ i)=some (.at b cap es1 len):=hb
     rcases hh i x hx with ⟨hne,y,hy,-⟩ | ⟨rfl,rfl⟩
     · rw [atne hne] at hb'
       exact R.kp.live _ _ _ _ _ _ hy hb'
     · rw [ateq] at hb'
       cases hb'
       rcases (hB _ _ _ _ rfl).1 with h | h
       · obtain ⟨cap,len,es',hat⟩:=hrow b h.symm
         exact R.kp.live _ _ _ _ _ _ hr hat
       · exact .inr (Nat.le_trans R.kp.size h)
   · exact R.kp.G0
   · exact fun b h=>Nat.lt_of_lt_of_le (R.kp.G1 b h) hg.size
   · exact R.kp.G2
   · intro i B' hp
     obtain ⟨h1,h2⟩:=R.kp.pin i B' hp
     refine ⟨?_,h2⟩
     show (if i=id then some B else cx.at_ i)=some B'
     rw [if_neg]
     · exact h1
     · rintro rfl
       rw [hfree] at hp
       cases hp
   · have:=R.kp.base
     simpa [St.setRow,St.kill] using this
   · exact R.kp.tab.mono hs (fun _ h=>h)
 · exact R.bs
theorem Rel.put {cx:Cx} {s:St} {a:Act} {w:World} (R:Rel A cx s a w) {v:V} {u:Value} (h:VRep cx w v u) (d:Option Tmp):Rel A cx (s.put d v) (a.put d u) w:=by
 cases d with
 | none=>exact R
 | some d=>exact ⟨R.tm.set h d,R.df,R.hp,R.kp,R.bs⟩
theorem appended {G:Nat→Prop} {w w':World} {es:Nat} {rows new:Rows} {xs news:List Value} {cur:Array Value} (hxs:xs.length=rows.length*es) (hnl:news.length=new.length*es) (hfit:∀row∈rows,row.length=es) (hfit2:∀row∈new,row.length=es)
 (hcur:cur.toList.take ((rows.length+new.length)*es)=xs++news) (hs:Same G w w')
 (h1:∀(i j:Nat) (t:T),(rows[i]?).bind (fun r=>r[j]?)=some t→∃u,xs[i*es+j]?=some u∧TRep G w t u)
 (h2:∀(i j:Nat) (t:T),(new[i]?).bind (fun r=>r[j]?)=some t→∃u,news[i*es+j]?=some u∧TRep G w t u):
 ∀(i j:Nat) (t:T),((rows++new)[i]?).bind (fun r=>r[j]?)=some t→∃u,cur[i*es+j]?=some u∧TRep G w' t u:=by
 intro i j t ht
 have key:∀{k:Nat} {u:Value},(xs++news)[k]?=some u→cur[k]?=some u:=fun {k u} h=>by
  rw [←hcur,List.getElem?_take] at h
  split at h
  · rwa [Array.getElem?_toList] at h
  · cases h
 have small:∀{l:Rows} {i j:Nat} {t:T},(∀row∈l,row.length=es)→(l[i]?).bind (fun r=>r[j]?)=some t→i<l.length∧j<es:=fun {l i j t} hf ht=>by
  cases hri:l[i]? with
  | none=>rw [hri] at ht;cases ht
  | some row=>
    rw [hri,Option.bind_some] at ht
    have h1:=(List.getElem?_eq_some_iff.1 ht).1
    rw [hf row (List.mem_of_getElem? hri)] at h1
    exact ⟨(List.getElem?_eq_some_iff.1 hri).1,h1⟩
 by_cases hi:i<rows.length
 · rw [List.getElem?_append_left hi] at ht
   obtain ⟨u,e1,e2⟩:=h1 i j t ht
   obtain ⟨c1,c2⟩:=small hfit ht
   refine ⟨u,key ?_,e2.mono hs (fun _ h=>h)⟩
   rw [List.getElem?_append_left (by rw [hxs];exact mul_lt c1 c2)]
   exact e1
 · rw [List.getElem?_append_right (by omega)] at ht
   obtain ⟨u,e1,e2⟩:=h2 _ j t ht
   refine ⟨u,key ?_,e2.mono hs (fun _ h=>h)⟩
   have hm:rows.length*es≤i*es:=Nat.mul_le_mul_right _ (by omega)
   rw [List.getElem?_append_right (by rw [hxs];omega),hxs]
   rw [show i*es+j-rows.length*es=(i-rows.length)*es+j by rw [Nat.sub_mul];omega]
   exact e1
theorem src_of {cx:Cx} {s:St} {a:Act} {w:World} {t u elem:TypeId} {le:Lt} {ei:TypeInfo} {z:Value} (hL:LayOk P L) (R:Rel A cx s a w) {y:V} {yv:Value} (hy:VRep cx w y yv) {new:Rows} (h:newRows (dom P A) L elem t u s.heap y=some new) (hle:L elem=some le)
 (hei:P.info? elem=some ei) (hz:ei.zero=some z) (hesz:ei.size=le.size) (heby:ei.bytes=le.bytes) (hone:∀v∈le.zero,oneV v=true) (hzl:z.cells.toList=le.zero) (he:0<le.size) (hfit:∀row∈new,row.length=le.size):
 ∃ news:List Value,news.length=new.length*le.size∧(∀u∈news,oneV u=true)∧Src P w t u elem ei yv new.length news∧
   ∀(i j:Nat) (t:T),(new[i]?).bind (fun r=>r[j]?)=some t→∃u,news[i*le.size+j]?=some u∧TRep cx.G w t u:=by
 unfold newRows at h
 split at h
 · rename_i str
   split at h
   case h_2=>cases h
   rename_i lu le' hlu hle'
   obtain rfl:le=le':=by rw [hle] at hle';exact Option.some.inj hle'
   split at h
   case isFalse=>cases h
   rename_i hk4
   split at h
   case h_2=>cases h
   rename_i hik hzero hbytes
   cases h
   obtain ⟨_,du,_,_,hdu,_,_,_,_,_,_,⟨_,_,_,hu4,_⟩,_⟩:=hL u lu hlu
   obtain rfl:=hu4 hk4
   obtain ⟨ei',_,z',hei',_,hes',_,hz',hzl',_,hlen',_,_,hone'⟩:=hL elem le hle
   have hs1:le.size=1:=by rw [←hlen',hzero];rfl
   have ez:z=.int .u8 0:=by
    rw [hei] at hei'
    cases hei'
    rw [hz] at hz'
    cases hz'
    have h1:=hone' _ hik
    rw [hzero] at hzl
    have h2:z.cells=#[z]:=by cases z<;>first | rfl | (simp [oneV] at h1)
    rw [h2] at hzl
    simpa using hzl
   have:=inv_flat hy
   subst this
   refine ⟨Lib.strCells str,by rw [Lib.strCells_length,hs1];simp [dom],fun v hv=>?_,.inr ⟨hdu,by rw [hz,ez],by rw [hesz,hs1],by rw [heby,hbytes],str,rfl,by simp [dom],rfl⟩,fun i j t ht=>?_⟩
   · obtain ⟨b,-,rfl⟩:=List.mem_map.1 hv
     rfl
   · have e0:((dom P A).brows str)[i]?=(str.data.toList[i]?).map fun b=>[T.flat (.int .u8 (b.toNat:Int))]:=by show (str.data.toList.map _)[i]?=_;rw [List.getElem?_map]
     rw [e0] at ht
     cases hb:str.data.toList[i]? with
     | none=>rw [hb] at ht;cases ht
     | some b=>
       rw [hb] at ht
       simp only [Option.map_some,Option.bind_some] at ht
       cases j with
       | succ j=>simp at ht
       | zero=>
         simp at ht
         subst ht
         refine ⟨.int .u8 (b.toNat:Int),?_,.flat _ rfl⟩
         rw [hs1,Nat.mul_one,Nat.add_zero,Lib.strCells,List.getElem?_map,hb]
         rfl
 · split at h
   case isFalse=>cases h
   rename_i hut
   subst hut
   obtain ⟨news,n1,n2,n3,n4⟩:=rows_news' R hy h he hfit
   exact ⟨news,n1,n2,.inl ⟨rfl,n3⟩,n4⟩
theorem append_wp {cx:Cx} {s:St} {a:Act} {w:World} {o:Oper} {c:Call} {K:St→Prop} (hL:LayOk P L) (hop:o.op=.call c) (hc:c.callee=.builtin .append) (R:Rel A cx s a w) (h:pop (dom P A) L o s K):
 ∀next Q,(∀s' cx' a' w',K s'→Rel A cx' s' a' w'→next a' w')→o.wp P a w next Q:=fun next Q hn=>by
 have he:=eyes_of R.tm
 simp only [pop,hop,hc] at h
 split at h
 case h_2=>exact h.elim
 rename_i t u x y ht' hx'
 have e1:c.argTypes=#[t,u]:=by cases hh:c.argTypes;simp_all
 have e2:c.args=#[x,y]:=by cases hh:c.args;simp_all
 split at h
 case h_2=>exact h.elim
 rename_i lt hlt
 split at h
 case isFalse=>exact h.elim
 rename_i hk
 obtain ⟨_,d,_,_,hd,_,_,_,_,_,_,⟨_,_,hk3,_⟩,_⟩:=hL t lt hlt
 obtain rfl:=hk3 hk
 split at h
 case h_2=>exact h.elim
 rename_i le hle
 obtain ⟨ei,_,z,hei,_,hesz,heby,hz,hzl,hone,hlen,_⟩:=hL lt.elem le hle
 have hzs:z.cells.size=le.size:=by rw [←Array.length_toList,hzl,hlen]
 split at h
 case isFalse=>exact h.elim
 rename_i hpos
 split at h
 case h_2=>exact h.elim
 rename_i new hnew
 have hx:=he x
 have run_of:∀{v':Value} {w':World},(Builtin.append_ #[t,u] o.type #[a.eval x,a.eval y]).run P w=.ok v' w'→(execOp a.eval o).run P w=.ok (.value v') w':=fun hr=>by
  simp only [execOp,hop,resolve,hc,Sem.run_bind,Sem.run_pure,Result.andThen_ok,invoke,builtin,e1,e2,List.map_toArray,List.map_cons,List.map_nil,hr]
 split at h
 · rename_i id hxv
   rw [hxv] at hx
   split at h
   case h_2=>exact h.elim
   rename_i ty es rows hrow
   split at h
   case isFalse=>exact h.elim
   rename_i hes1
   split at h
   case isFalse=>exact h.elim
   rename_i hty
   subst hes1
   subst hty
   obtain ⟨hfree,⟨hfit,hmx,hby⟩,hK⟩:=h
   have hrow':s.heap[id]?=some (some (.list lt.elem le.size rows)):=by
    rw [List.getD_eq_getElem?_getD] at hrow
    cases hg:s.heap[id]? with
    | none=>rw [hg] at hrow;cases hrow
    | some z=>rw [hg] at hrow;simp at hrow;rw [hrow]
   obtain ⟨news,n1,n2,n3,n4⟩:=src_of hL R (he y) hnew hle hei hz hesz heby hone hzl hpos hfit
   have hR:=R.hp.row id _ hrow'
   have hlapp:(dom P A).lapp rows new=rows++new:=rfl
   rw [hlapp] at hK
   cases hR with
   | listN ty es z1 hat hz1=>
     generalize hy:a.eval x=xv at hx
     cases hx with
     | lst i b cap es len h'=>rw [hat] at h';cases h'
     | lstN i a0 z0 h' hz0=>
       obtain ⟨v',w',r1,r2,r3,r4⟩:=append_run (ty:=o.type) (v:=.slice none 0 0) (n:=0) (xs:=[]) hd hei hz hesz heby hzs hpos ⟨by simp,.inl ⟨rfl,rfl⟩⟩ n1 n2 n3 (by simpa using hmx) (by simpa using hby)
       have r0:(∃ad,a0=some ad∧new=[]∧(Builtin.append_ #[t,u] o.type #[.slice (some ad) 0 0,a.eval y]).run P w=.ok (.slice (some ad) 0 0) w)∨(Builtin.append_ #[t,u] o.type #[.slice a0 0 0,a.eval y]).run P w=.ok v' w':=by
        cases a0 with
        | none=>exact .inr r1
        | some ad=>
          rcases append_zero (ty:=o.type) (ad:=ad) hd hei hz hesz heby hzs hpos n1 n3 (by have:=hmx;simp at this;omega) (by have:=hby;simp at this;omega) with ⟨hm,r⟩ | ⟨-,r⟩
          · exact .inl ⟨ad,rfl,List.eq_nil_of_length_eq_zero hm,r⟩
          · exact .inr (r.trans r1)
       rcases r0 with ⟨ad,rfl,rfl,r0⟩ | r0
       · rw [←hy] at r0
         unfold Oper.wp
         rw [run_of r0,Oper.upon_value,hy]
         have key:=R.grow (B:=.nil z1) (rows':=[]) (row:=none) (w':=w) hrow' hfree ⟨rfl,rfl,rfl,Nat.le_refl _,fun _ _ _=>rfl⟩ (fun k e=>by cases e) (fun b cap es len e=>by cases e) (.listN _ _ z1 (if_pos rfl) hz1)
         rw [hat] at h'
         cases h'
         exact hn _ _ _ _ hK (key.put (.lstN id (some ad) z1 (if_pos rfl) hz0) o.dst)
       clear r1
       have r1:=r0
       rw [←hy] at r1
       unfold Oper.wp
       rw [run_of r1,Oper.upon_value]
       have hsame:Same cx.G w w':=fun c hc=>r3.block c (R.kp.G1 c hc) (fun e=>by cases e)
       rcases own_form r2 with ⟨rfl,hz0⟩ | ⟨g,cap,cur,rfl,g1,g2,g3,g4,g5⟩
       · have hn0:new=[]:=by apply List.eq_nil_of_length_eq_zero;omega
         subst hn0
         have key:=R.grow (B:=.nil true) (rows':=[]) (row:=none) hrow' hfree r3 (fun k e=>by cases e) (fun b cap es len e=>by cases e) (.listN _ _ true (if_pos rfl) (fun h=>by cases h))
         exact hn _ _ _ _ hK (key.put (.lstN id none true (if_pos rfl) (fun _=>rfl)) o.dst)
       · have hg0:g=w.heap.size:=by
          rcases r4 with h | h<;>simp [Value.ownBlock] at h
          exact h
         have key:=R.grow (B:=.at g cap le.size new.length) (rows':=new) (row:=none) hrow' hfree r3 (fun k e=>by cases e) (fun b cap es len e=>by cases e;exact ⟨.inr (by omega),lt_size g1⟩)
          (.list _ _ _ g cap cur (if_pos rfl) g1 (fun hG=>by have:=R.kp.G1 _ hG;omega) (by omega) g3 g4 hfit (fun i j t ht=>by
           have:=appended (rows:=[]) (new:=new) (xs:=[]) (news:=news) (cur:=cur) (w:=w) (w':=w') (G:=cx.G) (by simp) n1 (fun r h=>by simp at h) hfit (by simpa using g5) hsame (fun i j t h=>by simp at h) n4 i j t (by simpa using ht)
           exact this))
         have hv:VRep ⟨fun i=>if i=id then some (.at g cap le.size new.length) else cx.at_ i,cx.G⟩ w' (.lst id) (.slice (some ⟨g,0,none⟩) (0+new.length) cap):=by
          rw [Nat.zero_add]
          exact .lst id _ _ _ _ (if_pos rfl)
         exact hn _ _ _ _ hK (key.put hv o.dst)
   | list ty es rows b cap0 vs hat hbl hnG hcap hmax hsz hes hr=>
     generalize hy:a.eval x=xv at hx
     cases hx with
     | lstN i a0 z0 h' hz0=>rw [hat] at h';cases h'
     | lst i b' cap' es' len h'=>
       rw [hat] at h'
       cases h'
       have hxl:(vs.toList.take (rows.length*le.size)).length=rows.length*le.size:=by
        have:rows.length*le.size≤vs.size:=by rw [hsz];exact Nat.mul_le_mul_right _ hcap
        have hvl:vs.toList.length=vs.size:=by simp
        rw [List.length_take,hvl];omega
       obtain ⟨v',w',r1,r2,r3,r4⟩:=append_run (ty:=o.type) (v:=.slice (some ⟨b,0,none⟩) rows.length cap0) (n:=rows.length) (xs:=vs.toList.take (rows.length*le.size)) hd hei hz hesz heby hzs hpos
        ⟨hxl,.inr ⟨b,cap0,vs,rfl,Nat.zero_le _,hbl,hcap,hmax,hsz,rfl⟩⟩ n1 n2 n3 hmx hby
       rw [←hy] at r1
       unfold Oper.wp
       rw [run_of r1,Oper.upon_value]
       have hsame:Same cx.G w w':=fun c hc=>r3.block c (R.kp.G1 c hc) (fun e=>by cases e;exact hnG hc)
       rcases own_form r2 with ⟨rfl,hz0⟩ | ⟨g,cap,cur,rfl,g1,g2,g3,g4,g5⟩
       · exfalso
         rcases r4 with h | h<;>simp [Value.ownBlock] at h
       · have hg0:g=b∨g=w.heap.size:=by
          rcases r4 with h | h<;>simp [Value.ownBlock] at h
          · exact .inl h
          · exact .inr h
         have hll:(rows++new).length=rows.length+new.length:=List.length_append
         have key:=R.grow (B:=.at g cap le.size (rows++new).length) (rows':=rows++new) (row:=some b) hrow' hfree r3 (fun k e=>by cases e;exact ⟨_,_,_,hat⟩)
          (fun b2 cap es len e=>by cases e;exact ⟨by rcases hg0 with rfl | rfl;exact .inl rfl;exact .inr (Nat.le_refl _),lt_size g1⟩)
          (.list _ _ _ g cap cur (if_pos rfl) g1 (fun hG=>by
           rcases hg0 with rfl | rfl
           · exact hnG hG
           · have:=R.kp.G1 _ hG;omega) (by omega) g3 g4 (fun row hrow=>by
             rcases List.mem_append.1 hrow with h | h
             · exact hes row h
             · exact hfit row h) (fun i j t ht=>by
           refine appended (rows:=rows) (new:=new) (xs:=vs.toList.take (rows.length*le.size)) (news:=news) (cur:=cur) (w:=w) (w':=w') (G:=cx.G) hxl n1 hes hfit g5 hsame (fun i j t h=>?_) n4 i j t ht
           obtain ⟨u,q1,q2⟩:=hr i j t h
           refine ⟨u,?_,q2⟩
           have hb:i*le.size+j<rows.length*le.size:=by
            cases hri:rows[i]? with
            | none=>rw [hri] at h;cases h
            | some row=>
              rw [hri,Option.bind_some] at h
              have h1:=(List.getElem?_eq_some_iff.1 h).1
              rw [hes row (List.mem_of_getElem? hri)] at h1
              exact mul_lt (List.getElem?_eq_some_iff.1 hri).1 h1
           rw [List.getElem?_take,if_pos hb,Array.getElem?_toList]
           exact q1))
         have hv:VRep ⟨fun i=>if i=id then some (.at g cap le.size (rows++new).length) else cx.at_ i,cx.G⟩ w' (.lst id) (.slice (some ⟨g,0,none⟩) (rows.length+new.length) cap):=by
          rw [←hll]
          exact .lst id _ _ _ _ (if_pos rfl)
         exact hn _ _ _ _ hK (key.put hv o.dst)
 · rename_i hxv
   rw [hxv] at hx
   have hxn:=inv_flat hx
   obtain ⟨⟨hfit,hmx,hby⟩,hK⟩:=h
   simp only [List.length_nil,Nat.zero_add] at hmx hby
   obtain ⟨news,n1,n2,n3,n4⟩:=src_of hL R (he y) hnew hle hei hz hesz heby hone hzl hpos hfit
   obtain ⟨v',w',r1,r2,r3,r4⟩:=append_run (ty:=o.type) (v:=.slice none 0 0) (n:=0) (xs:=[]) hd hei hz hesz heby hzs hpos ⟨by simp,.inl ⟨rfl,rfl⟩⟩ n1 n2 n3 (by simpa using hmx) (by simpa using hby)
   rw [←hxn] at r1
   unfold Oper.wp
   rw [run_of r1,Oper.upon_value]
   have hsame:Same cx.G w w':=fun c hc=>r3.block c (R.kp.G1 c hc) (fun e=>by cases e)
   have hbelow:Below w.heap.size w w':=⟨r3.os,r3.tape,r3.output,r3.size,fun k hk=>r3.block k hk (fun e=>by cases e)⟩
   have h0:cx.at_ s.heap.length=none:=R.hp.dom _ (Nat.le_refl _)
   have fin:∀(B:Blk) (u':Value),u'=v'→RowRep ⟨fun i=>if i=s.heap.length then some B else cx.at_ i,cx.G⟩ w' s.heap.length (.list lt.elem le.size new)→
    VRep ⟨fun i=>if i=s.heap.length then some B else cx.at_ i,cx.G⟩ w' (.lst s.heap.length) u'→(∀b cap es len,B=.at b cap es len→w.heap.size≤b∧b<w'.heap.size)→next (a.put o.dst v') w':=fun B u' hu hR hV hb=>by
    subst hu
    have X:Res cx w s.heap.length (some (.list lt.elem le.size new)) ⟨fun i=>if i=s.heap.length then some B else cx.at_ i,cx.G⟩ w' (.lst s.heap.length) u':=
     ⟨hbelow,fun id hid=>if_neg hid,(fun e=>by cases e),fun b h=>h,fun b h=>.inl h,hV,fun r e=>by
      cases e
      refine ⟨hR,fun b cap es len hat=>?_⟩
      have:(if s.heap.length=s.heap.length then some B else cx.at_ s.heap.length)=some (.at b cap es len):=hat
      rw [if_pos rfl] at this
      cases this
      exact hb _ _ _ _ rfl⟩
    have:=R.step X h0 o.dst (s.heap++[some (.list lt.elem le.size new)]) (fun id r hr=>by
     by_cases hl:id<s.heap.length
     · rw [List.getElem?_append_left hl] at hr
       exact .inl ⟨by omega,hr⟩
     · rw [List.getElem?_append_right (by omega)] at hr
       have hi:id-s.heap.length=0:=by
        have:=(List.getElem?_eq_some_iff.1 hr).1
        simp at this
        omega
       rw [hi] at hr
       simp at hr
       exact .inr ⟨by omega,by rw [hr]⟩) (by simp) (fun _=>by simp)
    have e3:(⟨(s.put o.dst (.lst s.heap.length)).tmps,s.heap++[some (.list lt.elem le.size new)],s.base⟩:St)=(s.put o.dst (.lst s.heap.length)).push (some (.list lt.elem le.size new)):=by simp [St.push,put_heap,put_base]
    rw [e3] at this
    exact hn _ _ _ _ hK this
   rcases own_form r2 with ⟨rfl,hz0⟩ | ⟨g,cap,cur,rfl,g1,g2,g3,g4,g5⟩
   · have hn0:new=[]:=by apply List.eq_nil_of_length_eq_zero;omega
     subst hn0
     exact fin (.nil true) _ rfl (.listN _ _ true (if_pos rfl) (fun h=>by cases h)) (.lstN _ none true (if_pos rfl) (fun _=>rfl)) (fun b cap es len e=>by cases e)
   · have hg0:g=w.heap.size:=by
      rcases r4 with h | h<;>simp [Value.ownBlock] at h
      exact h
     refine fin (.at g cap le.size new.length) _ rfl (.list _ _ _ g cap cur (if_pos rfl) g1 (fun hG=>by have:=R.kp.G1 _ hG;omega) (by omega) g3 g4 hfit (fun i j t ht=>?_)) ?_ (fun b cap es len e=>by cases e;exact ⟨by omega,lt_size g1⟩)
     · exact appended (rows:=[]) (new:=new) (xs:=[]) (news:=news) (cur:=cur) (w:=w) (w':=w') (G:=cx.G) (by simp) n1 (fun r h=>by simp at h) hfit (by simpa using g5) hsame (fun i j t h=>by simp at h) n4 i j t (by simpa using ht)
     · rw [Nat.zero_add]
       exact .lst _ _ _ _ _ (if_pos rfl)
 · exact h.elim
theorem cut_wp {cx:Cx} {s:St} {a:Act} {w:World} {o:Oper} {t:TypeId} {x z:Operand} {id:Nat} {K:St→Prop} (hL:LayOk P L) (hop:o.op=.slice t x none (some z) none) (hx0:s.ev x=.lst id) (R:Rel A cx s a w) (h:match L t with
 | some lt=>
   if lt.kind=3 then
    match L lt.elem,s.heap.getD id none,s.ev z with
    | some le,some (.list ty es rows),.t (.flat (.int _ h))=>
      if es=le.size then (dom P A).free id∧(dom P A).wsin rows h es∧K (((s.kill id).setRow id (.list ty es ((dom P A).lsub rows 0 h))).put o.dst (.lst id)) else False
    | _,_,_=>False
   else False
 | none=>False):
 ∀next Q,(∀s' cx' a' w',K s'→Rel A cx' s' a' w'→next a' w')→o.wp P a w next Q:=fun next Q hn=>by
 have he:=eyes_of R.tm
 split at h
 case h_2=>exact h.elim
 rename_i lt hlt
 split at h
 case isFalse=>exact h.elim
 rename_i hk
 obtain ⟨_,d,_,_,hd,_,_,_,_,_,_,⟨_,_,hk3,_⟩,_⟩:=hL t lt hlt
 obtain rfl:=hk3 hk
 split at h
 case h_2=>exact h.elim
 rename_i le ty es rows kk n hle hrow hz
 obtain ⟨ei,_,_,hei,_,hesz,_⟩:=hL lt.elem le hle
 split at h
 case isFalse=>exact h.elim
 rename_i hes
 obtain ⟨hfree,⟨hne,h0,h1,hfit⟩,hK⟩:=h
 have hx:=he x
 rw [hx0] at hx
 have hrow':s.heap[id]?=some (some (.list ty es rows)):=by
  rw [List.getD_eq_getElem?_getD] at hrow
  cases hg:s.heap[id]? with
  | none=>rw [hg] at hrow;cases hrow
  | some z=>rw [hg] at hrow;simp at hrow;rw [hrow]
 have hR:=R.hp.row id _ hrow'
 cases hR with
 | listN=>exact absurd rfl hne
 | list ty es rows b cap vs hat hbl hnG hcap hmax hsz hes2 hr=>
   generalize hy:a.eval x=xv at hx
   cases hx with
   | lstN i a0 z0 h' hz0=>rw [hat] at h';cases h'
   | lst i b' cap' es' len h'=>
     rw [hat] at h'
     cases h'
     have hl2:numV s.ev (some z) (rows.length:Int)=some n:=by simp only [numV,hz]
     have hbd:=run_bounds (P:=P) (w:=w) (b:=true) (lo:=none) (hi:=some z) (len:=rows.length) (cap:=cap) (l:=0) (h:=n) he rfl hl2 (Int.le_refl 0) h0 h1 hcap
     rw [Option.map_none] at hbd
     have hrun:(execOp a.eval o).run P w=.ok (.value (.slice (some ⟨b,0,none⟩) n.toNat cap)) w:=by
      simp only [execOp,hop,Instr.sliceAt,Sem.run_bind,run_underlying hd,Result.andThen_ok,Instr.slice,hy,Option.map_none,hbd,run_sizeOf hei,Sem.run_pure,Int.toNat_zero,Nat.sub_zero]
      by_cases hcl:cap=0
      · rw [if_pos hcl]
      · rw [if_neg hcl,Option.map_some,add_none,Nat.zero_mul]
     have hll:((dom P A).lsub rows 0 n)=rows.take n.toNat:=by show (rows.take n.toNat).drop 0=_;rfl
     rw [hll] at hK
     have hl:(rows.take n.toNat).length=n.toNat:=by rw [List.length_take];omega
     have key:=R.grow (w':=w) (B:=.at b cap es n.toNat) (rows':=rows.take n.toNat) (row:=some b) hrow' hfree ⟨rfl,rfl,rfl,Nat.le_refl _,fun _ _ _=>rfl⟩ (fun k e=>by cases e;exact ⟨_,_,_,hat⟩)
      (fun b2 cap2 es2 len2 e=>by cases e;exact ⟨.inl rfl,lt_size hbl⟩)
      (.list _ _ _ b cap vs (by rw [hl];exact if_pos rfl) hbl hnG (by omega) hmax hsz (fun row hrow=>hes2 row (List.mem_of_mem_take hrow)) (fun i j t ht=>by
       rw [List.getElem?_take] at ht
       split at ht
       · exact hr i j t ht
       · simp at ht))
     unfold Oper.wp
     rw [hrun,Oper.upon_value]
     exact hn _ _ _ _ hK (key.put (.lst id _ _ _ _ (if_pos rfl)) o.dst)
theorem getD_rowN {heap:List (Option Row)} {id:Nat} {r:Row} (h:heap.getD id none=some r):heap[id]?=some (some r):=by
 rw [List.getD_eq_getElem?_getD] at h
 cases hg:heap[id]? with
 | none=>rw [hg] at h;cases h
 | some z=>rw [hg] at h;simp at h;rw [h]
theorem clear_row {cx:Cx} {s:St} {a:Act} {w:World} {o:Oper} {c:Call} {K:St→Prop} {t:TypeId} {x:Operand} {le:Lt} {ei:TypeInfo} {z:Value} {lt:Lt} (hop:o.op=.call c) (hc:c.callee=.builtin .clear) (R:Rel A cx s a w) (e1:c.argTypes=#[t]) (e2:c.args=#[x])
 (hd:P.underlying t=some (.slice lt.elem)) (hei:P.info? lt.elem=some ei) (hz:ei.zero=some z) (hzl:z.cells.toList=le.zero) (hone:∀v∈le.zero,oneV v=true) (hlen:le.zero.length=le.size) {id ty es b cap:Nat} {lo:Int} {rows:Rows} {vs:Array Value} (hes:es=le.size) (hpos:0<es) (h0:0≤lo) (h1:lo≤rows.length) (hrow':s.heap[id]?=some (some (.list ty es rows)))
 (hat:cx.at_ id=some (.at b cap es rows.length)) (hbl:w.heap[b]?=some (.cells vs ty (0,0))) (hnG:¬ cx.G b) (hcap:rows.length≤cap) (hmax:cap≤maxLen) (hsz:vs.size=cap*es) (hes2:∀row∈rows,row.length=es) (hr:∀(i j:Nat) (t:T),(rows[i]?).bind (fun r=>r[j]?)=some t→∃u,vs[i*es+j]?=some u∧TRep cx.G w t u)
 (hy:a.eval x=.slice (some ⟨b,if cap=lo.toNat then 0 else lo.toNat*es,none⟩) (rows.length-lo.toNat) (cap-lo.toNat)) (hK:K ((s.setRow id (.list ty es (rows.take lo.toNat++List.replicate (rows.length-lo.toNat) (le.zero.map T.flat)))).put o.dst (.tup []))):
 ∀next Q,(∀s' cx' a' w',K s'→Rel A cx' s' a' w'→next a' w')→o.wp P a w next Q:=fun next Q hn=>by
 have hzs:z.cells.size=es:=by rw [←Array.length_toList,hzl,hlen,hes]
 have hat2:=hat
 have hzrow:(le.zero.map T.flat).length=es:=by rw [List.length_map,hlen,hes]
 have hll:(rows.take lo.toNat++List.replicate (rows.length-lo.toNat) (le.zero.map T.flat)).length=rows.length:=by
  rw [List.length_append,List.length_take,List.length_replicate];omega
 by_cases hfull:rows.length-lo.toNat=0
 · have hsame:rows.take lo.toNat++List.replicate (rows.length-lo.toNat) (le.zero.map T.flat)=rows:=by
    rw [hfull,List.replicate_zero,List.append_nil,List.take_of_length_le (by omega)]
   rw [hsame] at hK
   have hrun:(execOp a.eval o).run P w=.ok (.value (.tuple #[])) w:=by
    simp only [execOp,hop,resolve,hc,Sem.run_bind,Sem.run_pure,Result.andThen_ok,invoke,builtin,e1,e2,List.map_toArray,List.map_cons,List.map_nil,hy,hfull]
    simp [Builtin.clear_,run_underlying hd,go_sem]
   unfold Oper.wp
   rw [hrun,Oper.upon_value]
   exact hn _ cx _ _ hK ((R.write (w':=w) hrow' hat2 ⟨rfl,rfl,rfl,rfl,fun _ _=>rfl⟩ (.list ty es rows b cap vs hat hbl hnG hcap hmax hsz hes2 hr) (fun _=>rfl)).put (.tup _ _ rfl (fun i c u h=>by simp at h)) o.dst)
 · have hclo:¬ cap=lo.toNat:=by omega
   rw [if_neg hclo] at hy
   have hul:(Builtin.zeroCells z.cells (rows.length-lo.toNat)).toList.length=(rows.length-lo.toNat)*es:=by
    rw [Array.length_toList];unfold Builtin.zeroCells;rw [Array.size_map,Array.size_range,hzs]
   have hug:∀k,k<(rows.length-lo.toNat)*es→(Builtin.zeroCells z.cells (rows.length-lo.toNat)).toList[k]?=z.cells[k % es]?:=fun k hk=>by
    have hm:k % es<es:=Nat.mod_lt _ hpos
    unfold Builtin.zeroCells
    rw [Array.getElem?_toList,Array.getElem?_map,Array.getElem?_range,hzs,if_pos hk,Option.map_some,Array.getElem?_eq_getElem (by omega),getElem!_pos z.cells (k % es) (by omega)]
   have hones:∀u∈(Builtin.zeroCells z.cells (rows.length-lo.toNat)).toList,oneV u=true:=fun u hu=>by
    obtain ⟨k,hk,rfl⟩:=List.getElem_of_mem hu
    rw [hul] at hk
    have hm:k % es<es:=Nat.mod_lt _ hpos
    have:=hug k hk
    rw [List.getElem?_eq_getElem (by rw [hul];exact hk),Array.getElem?_eq_getElem (by omega)] at this
    rw [Option.some.inj this]
    exact hone _ (by rw [←hzl];exact Array.mem_toList_iff.2 (Array.getElem_mem _))
   have hbound:lo.toNat*es+0+(rows.length-lo.toNat)*es≤vs.size:=by
    have:(lo.toNat+(rows.length-lo.toNat))*es≤cap*es:=Nat.mul_le_mul_right _ (by omega)
    rw [Nat.add_mul] at this
    omega
   obtain ⟨w',q1,q2⟩:=run_storeCells (P:=P) (b:=b) (o:=lo.toNat*es) (ty:=ty) (Builtin.zeroCells z.cells (rows.length-lo.toNat)).toList 0 w vs hbl (by rw [hul];exact hbound) hones
   have hrun:(execOp a.eval o).run P w=.ok (.value (.tuple #[])) w':=by
    simp only [execOp,hop,resolve,hc,Sem.run_bind,Sem.run_pure,Result.andThen_ok,invoke,builtin,e1,e2,List.map_toArray,List.map_cons,List.map_nil,hy]
    obtain ⟨m,hm⟩:∃m,rows.length-lo.toNat=m+1:=⟨rows.length-lo.toNat-1,by omega⟩
    rw [hm] at q1 ⊢
    simp only [Value.cells] at q1
    simp [Builtin.clear_,run_underlying hd,go_sem,run_zero hei hz,q1]
   unfold Oper.wp
   rw [hrun,Oper.upon_value]
   have hs:Same cx.G w w':=fun c hc=>q2.other c (fun e=>hnG (e▸hc))
   obtain ⟨arr',g1,g2,g3⟩:=q2.here
   refine hn _ cx _ _ hK ((R.write (w':=w') hrow' hat2 q2.but ?_ (fun _=>rfl)).put (.tup _ _ rfl (fun i c u h=>by simp at h)) o.dst)
   refine .list ty es _ b cap arr' (by rw [hll];exact hat2) g1 hnG (by rw [hll];exact hcap) hmax (by rw [g2];exact hsz) (fun row hrow=>?_) (fun i j t' ht'=>?_)
   · rcases List.mem_append.1 hrow with h | h
     · exact hes2 row (List.mem_of_mem_take h)
     · rw [(List.mem_replicate.1 h).2];exact hzrow
   · rw [g3,hul]
     by_cases hi:i<lo.toNat
     · rw [List.getElem?_append_left (by rw [List.length_take];omega),List.getElem?_take,if_pos hi] at ht'
       obtain ⟨u,p1,p2⟩:=hr i j t' ht'
       refine ⟨u,?_,p2.mono hs (fun _ h=>h)⟩
       have hj:j<es:=by
        cases hri:rows[i]? with
        | none=>rw [hri] at ht';cases ht'
        | some row=>
          rw [hri,Option.bind_some] at ht'
          have h1:=(List.getElem?_eq_some_iff.1 ht').1
          rw [hes2 row (List.mem_of_getElem? hri)] at h1
          exact h1
       have:(i+1)*es≤lo.toNat*es:=Nat.mul_le_mul_right _ hi
       rw [Nat.succ_mul] at this
       rw [if_neg (by omega)]
       exact p1
     · rw [List.getElem?_append_right (by rw [List.length_take];omega),List.length_take,List.getElem?_replicate] at ht'
       split at ht'
       case isFalse=>cases ht'
       rename_i hin
       rw [Option.bind_some,List.getElem?_map] at ht'
       obtain ⟨u,hu,rfl⟩:=Option.map_eq_some_iff.1 ht'
       have hj:j<es:=by have:=(List.getElem?_eq_some_iff.1 hu).1;omega
       have hmin:min lo.toNat rows.length=lo.toNat:=by omega
       rw [hmin] at hin
       have e5:i*es+j=lo.toNat*es+((i-lo.toNat)*es+j):=by
        rw [Nat.sub_mul]
        have:lo.toNat*es≤i*es:=Nat.mul_le_mul_right _ (by omega)
        omega
       have hk:(i-lo.toNat)*es+j<(rows.length-lo.toNat)*es:=by
        have:(i-lo.toNat+1)*es≤(rows.length-lo.toNat)*es:=Nat.mul_le_mul_right _ (by omega)
        rw [Nat.succ_mul] at this
        omega
       rw [if_pos (by omega),show i*es+j-(lo.toNat*es+0)=(i-lo.toNat)*es+j by omega,hug _ hk]
       have hmod:((i-lo.toNat)*es+j) % es=j:=by
        rw [Nat.mul_comm,Nat.mul_add_mod,Nat.mod_eq_of_lt hj]
       rw [hmod,←Array.getElem?_toList,hzl,hu]
       exact ⟨u,rfl,.flat _ (hone _ (List.mem_of_getElem? hu))⟩
theorem clear_wp {cx:Cx} {s:St} {a:Act} {w:World} {o:Oper} {c:Call} {K:St→Prop} (hL:LayOk P L) (hop:o.op=.call c) (hc:c.callee=.builtin .clear) (R:Rel A cx s a w) (h:pop (dom P A) L o s K):
 ∀next Q,(∀s' cx' a' w',K s'→Rel A cx' s' a' w'→next a' w')→o.wp P a w next Q:=fun next Q hn=>by
 have he:=eyes_of R.tm
 simp only [pop,hop,hc] at h
 split at h
 case h_2=>exact h.elim
 rename_i t x ht' hx'
 have e1:c.argTypes=#[t]:=by cases hh:c.argTypes;simp_all
 have e2:c.args=#[x]:=by cases hh:c.args;simp_all
 split at h
 case h_2=>exact h.elim
 rename_i lt hlt
 split at h
 case isFalse=>exact h.elim
 rename_i hk
 obtain ⟨_,d,_,_,hd,_,_,_,_,_,_,⟨_,_,hk3,_⟩,_⟩:=hL t lt hlt
 obtain rfl:=hk3 hk
 split at h
 case h_2=>exact h.elim
 rename_i le hle
 obtain ⟨ei,_,z,hei,_,hesz,heby,hz,hzl,hone,hlen,_⟩:=hL lt.elem le hle
 split at h
 case h_3=>exact h.elim
 · rename_i id lo hxv
   split at h
   case h_2=>exact h.elim
   rename_i ty es rows hrow
   split at h
   case isFalse=>exact h.elim
   rename_i hes
   split at h
   case isFalse=>exact h.elim
   rename_i hpos
   obtain ⟨⟨hne,h0,h1,hfit⟩,hK⟩:=h
   have hx:=he x
   rw [hxv] at hx
   have hrow':=getD_rowN hrow
   have hR:=R.hp.row id _ hrow'
   have hml:(maxLen:Int)≤9223372036854775807:=by decide
   cases hR with
   | listN=>exact absurd rfl hne
   | list ty es rows b cap vs hat hbl hnG hcap hmax hsz hes2 hr=>
     generalize hy:a.eval x=xv at hx
     cases hx with
     | win i lo b' cap' es' len' h'=>
       have hat2:=hat
       rw [hat] at h'
       cases h'
       have e3:(dom P A).ar .sub .i64 ((dom P A).llen rows) lo=((rows.length-lo.toNat:Nat):Int):=by
        show IntKind.i64.wrap ((rows.length:Int)-lo)=_
        rw [IntKind.wrap_i64]
        omega
       rw [e3] at hK
       exact clear_row hop hc R e1 e2 hd hei hz hzl hone hlen hes hpos h0 h1 hrow' hat2 hbl hnG hcap hmax hsz hes2 hr hy hK next Q hn
 · rename_i id hxv
   split at h
   case h_2=>exact h.elim
   rename_i ty es rows hrow
   split at h
   case isFalse=>exact h.elim
   rename_i hes
   split at h
   case isFalse=>exact h.elim
   rename_i hpos
   have hK:=h
   have hx:=he x
   rw [hxv] at hx
   have hrow':=getD_rowN hrow
   have hR:=R.hp.row id _ hrow'
   have nop:∀a0:Option Addr,rows=[]→a.eval x=.slice a0 0 0→o.wp P a w next Q:=fun a0 hr0 hv=>by
    subst hr0
    have hrun:(execOp a.eval o).run P w=.ok (.value (.tuple #[])) w:=by
     simp only [execOp,hop,resolve,hc,Sem.run_bind,Sem.run_pure,Result.andThen_ok,invoke,builtin,e1,e2,List.map_toArray,List.map_cons,List.map_nil,hv]
     cases a0<;>simp [Builtin.clear_,run_underlying hd,go_sem]
    unfold Oper.wp
    rw [hrun,Oper.upon_value]
    have hset:s.setRow id (.list ty es ((dom P A).lzero ((dom P A).llen []) (le.zero.map .flat)))=s:=by
     unfold St.setRow
     have hl:=List.getElem?_eq_some_iff.1 hrow'
     have:s.heap.set id (some (.list ty es ((dom P A).lzero ((dom P A).llen []) (le.zero.map .flat))))=s.heap:=by
      refine List.ext_getElem? fun i=>?_
      by_cases e:id=i
      · subst e;rw [List.getElem?_set_self hl.1,hrow'];rfl
      · rw [List.getElem?_set_ne e]
     rw [this]
    rw [hset] at hK
    exact hn _ cx _ _ hK (R.put (.tup _ _ rfl (fun i c u h=>by simp at h)) o.dst)
   cases hR with
   | listN ty es z1 hat hz1=>
     generalize hy:a.eval x=xv at hx
     cases hx with
     | lstN i a0 z0 h' hz0=>exact nop a0 rfl hy
     | lst i b' cap' es' len' h'=>rw [hat] at h';cases h'
   | list ty es rows b cap vs hat hbl hnG hcap hmax hsz hes2 hr=>
     generalize hy:a.eval x=xv at hx
     cases hx with
     | lstN i a0 z0 h' hz0=>rw [hat] at h';cases h'
     | lst i b' cap' es' len' h'=>
       have hat2:=hat
       rw [hat] at h'
       cases h'
       have hK2:K ((s.setRow id (.list ty es (rows.take (0:Int).toNat++List.replicate (rows.length-(0:Int).toNat) (le.zero.map T.flat)))).put o.dst (.tup [])):=hK
       refine clear_row (lo:=0) hop hc R e1 e2 hd hei hz hzl hone hlen hes hpos (Int.le_refl 0) (by omega) hrow' hat2 hbl hnG hcap hmax hsz hes2 hr ?_ hK2 next Q hn
       rw [hy]
       simp
def rowK (κ:V→V) (id:Nat):Option Row→Option Row
 | some (.box ty cs)=>some (.box ty (cs.map κ))
 | r=>killRow id r
theorem VReps.mapK {cx cx':Cx} {w w':World} {cs:List V} {vs:Array Value} {κ:V→V} (h:VReps cx w cs vs) (hκ:∀v u,VRep cx w v u→VRep cx' w' (κ v) u):VReps cx' w' (cs.map κ) vs:=by
 refine ⟨by simpa using h.1,fun i c u h1 h2=>?_⟩
 rw [List.getElem?_map] at h1
 obtain ⟨c',hc',rfl⟩:=Option.map_eq_some_iff.1 h1
 exact hκ _ _ (h.2 i c' u hc' h2)
theorem Rel.dropK {cx:Cx} {s:St} {a:Act} {w:World} {id ty es:Nat} {rows:Rows} (R:Rel A cx s a w) (hr:s.heap[id]?=some (some (.list ty es rows))) (hfree:A.pin id=none) (κ:V→V)
 (hκ:∀v u,VRep cx w v u→VRep ⟨fun i=>if i=id then none else cx.at_ i,fun b=>cx.G b∨∃cap es len,cx.at_ id=some (.at b cap es len)⟩ w (κ v) u):
 Rel A ⟨fun i=>if i=id then none else cx.at_ i,fun b=>cx.G b∨∃cap es len,cx.at_ id=some (.at b cap es len)⟩ ⟨s.tmps.map κ,(s.heap.map (rowK κ id)).set id none,s.base⟩ a w:=by
 have hid:id<s.heap.length:=(List.getElem?_eq_some_iff.1 hr).1
 have hs:Same cx.G w w:=Same.refl _ _
 have hat':∀i B',i≠id→cx.at_ i=some B'→(if i=id then none else cx.at_ i)=some B':=fun i B' hne h=>by rw [if_neg hne];exact h
 have hG:∀b,cx.G b→(cx.G b∨∃cap es len,cx.at_ id=some (.at b cap es len)):=fun b h=>.inl h
 have hh:∀(i:Nat) x,((s.heap.map (rowK κ id)).set id none)[i]?=some (some x)→i≠id∧∃y,s.heap[i]?=some (some y)∧rowK κ id (some y)=some x:=fun i x hx=>by
  by_cases e:id=i
  · subst e
    rw [List.getElem?_set_self (by simpa using hid)] at hx
    cases hx
  · rw [List.getElem?_set_ne e,List.getElem?_map] at hx
    obtain ⟨y,hy,hk⟩:=Option.map_eq_some_iff.1 hx
    cases y with
    | none=>cases hk
    | some y=>exact ⟨Ne.symm e,y,hy,hk⟩
 have atne:∀{i:Nat},i≠id→(if i=id then none else cx.at_ i)=cx.at_ i:=fun h=>if_neg h
 have apart:∀(i:Nat) y b cap es' len,i≠id→s.heap[i]?=some (some y)→cx.at_ i=some (.at b cap es' len)→¬(cx.G b∨∃cap es len,cx.at_ id=some (.at b cap es len)):=fun i y b cap es' len hne hy hb h=>by
  rcases h with h | ⟨c2,e2,l2,h⟩
  · exact (R.hp.live_lt hy hb).2 h
  · exact hne (R.hp.inj _ _ _ _ _ _ _ _ _ _ _ hy hr hb h)
 constructor
 · exact R.tm.mapK hκ
 · exact R.df
 · constructor
   · intro i x hx
     obtain ⟨hne,y,hy,hk⟩:=hh i x hx
     have hR:=R.hp.row i y hy
     cases hR with
     | box ty' cs b vs hat hbl hn hrr=>
       simp only [rowK,killRow,Option.some.injEq] at hk
       subst hk
       refine .box ty' _ b vs ?_ hbl (apart i _ b _ _ _ hne hy hat) (hrr.mapK hκ)
       show (if i=id then none else cx.at_ i)=_
       rw [atne hne,hat,List.length_map]
     | listN ty' es' z1 hat hz1=>
       simp only [rowK,killRow,Option.some.injEq] at hk
       subst hk
       exact .listN _ _ z1 (by show (if i=id then none else cx.at_ i)=_;rw [atne hne];exact hat) hz1
     | list ty' es' rows2 b cap vs hat hbl hn hcap hmax hsz hes hrr=>
       simp only [rowK,killRow,Option.some.injEq] at hk
       subst hk
       refine .list ty' es' rows2 b cap vs (by show (if i=id then none else cx.at_ i)=_;rw [atne hne];exact hat) hbl (apart i _ b _ _ _ hne hy hat) hcap hmax hsz hes (fun k j t ht=>?_)
       obtain ⟨u,h1,h2⟩:=hrr k j t ht
       exact ⟨u,h1,h2.mono hs hG⟩
     | iter s' pos b hat hbl hn h0=>
       simp only [rowK,killRow,Option.some.injEq] at hk
       subst hk
       exact .iter s' pos b (by show (if i=id then none else cx.at_ i)=_;rw [atne hne];exact hat) hbl (apart i _ b _ _ _ hne hy hat) h0
     | map c' rows' b es' clock' hat hbl hn h0=>
       simp only [rowK,killRow,Option.some.injEq] at hk
       subst hk
       exact .map c' rows' b es' clock' (by show (if i=id then none else cx.at_ i)=_;rw [atne hne];exact hat) hbl (apart i _ b _ _ _ hne hy hat) h0
     | hole ty' rows2 r kid b cap vs hat hbl hn hcap hmax hsz hes hlt hrr hk2=>
       simp only [rowK,killRow,Option.some.injEq] at hk
       subst hk
       refine .hole ty' rows2 r _ b cap vs (by show (if i=id then none else cx.at_ i)=_;rw [atne hne];exact hat) hbl (apart i _ b _ _ _ hne hy hat) hcap hmax hsz hes hlt (fun j t hj ht=>?_) fun k hk'=>?_
       · obtain ⟨u,h1,h2⟩:=hrr j t hj ht
         exact ⟨u,h1,h2.mono hs hG⟩
       · obtain ⟨hne2,hk'⟩:=killK_some hk'
         obtain ⟨u,h1,h2⟩:=hk2 k hk'
         exact ⟨u,h1,(VRep.kill2 (cx':=⟨fun i=>if i=id then none else cx.at_ i,fun b=>cx.G b∨∃cap es len,cx.at_ id=some (.at b cap es len)⟩) (id:=id) h2 hs hat' hG).1 (by simpa [V.names] using hne2)⟩
   · intro i i' x x' b cap es1 len cap' es2 len' h1 h2 h3 h4
     obtain ⟨hne,y,hy,-⟩:=hh i x h1
     obtain ⟨hne',y',hy',-⟩:=hh i' x' h2
     have h3':(if i=id then none else cx.at_ i)=some (.at b cap es1 len):=h3
     have h4':(if i'=id then none else cx.at_ i')=some (.at b cap' es2 len'):=h4
     rw [atne hne] at h3'
     rw [atne hne'] at h4'
     exact R.hp.inj _ _ _ _ _ _ _ _ _ _ _ hy hy' h3' h4'
   · intro i hi
     simp only [St.drop,List.length_set,List.length_map] at hi
     show (if i=id then none else cx.at_ i)=none
     rw [if_neg (by omega)]
     exact R.hp.dom i hi
 · constructor
   · exact R.kp.os
   · exact R.kp.tape
   · exact R.kp.output
   · exact R.kp.size
   · exact R.kp.block
   · intro i x b cap es' len h1 h2
     obtain ⟨hne,y,hy,-⟩:=hh i x h1
     have h2':(if i=id then none else cx.at_ i)=some (.at b cap es' len):=h2
     rw [atne hne] at h2'
     exact R.kp.live _ _ _ _ _ _ hy h2'
   · exact fun b h=>.inl (R.kp.G0 b h)
   · rintro b (h | ⟨c,e,l,h⟩)
     · exact R.kp.G1 b h
     · exact (R.hp.live_lt hr h).1
   · rintro b (h | ⟨c,e,l,h⟩)
     · exact R.kp.G2 b h
     · exact .inr (R.kp.live _ _ _ _ _ _ hr h)
   · intro i B h
     have:=R.kp.pin i B h
     have hne:i≠id:=fun e=>by subst e;rw [hfree] at h;cases h
     exact ⟨hat' _ _ hne this.1,this.2⟩
   · simp only [List.length_set,List.length_map];exact R.kp.base
   · exact R.kp.tab.mono hs hG
 · exact R.bs
theorem list_trep {cx:Cx} {w:World} {id ty es:Nat} {rows:Rows} {u:Value} {G':Nat→Prop} (hR:RowRep cx w id (.list ty es rows)) (h:VRep cx w (.lst id) u) (hb:∀b cap es len,cx.at_ id=some (.at b cap es len)→G' b) (hg:∀b,cx.G b→G' b):TRep G' w (.slc rows) u:=by
 cases h with
 | lstN id a0 z0 h hz0=>
   cases hR with
   | listN=>exact .slc [] a0 0 0 0 0 (fun _ _=>undef) (Nat.zero_le _) (fun _=>rfl) (fun h=>absurd rfl h) (fun row h=>by cases h) (fun i j t h=>by simp at h) (fun i j t h=>by simp at h)
   | list ty es rows b cap vs hat=>rw [hat] at h;cases h
 | lst id b cap es len h=>
   cases hR with
   | listN ty es z1 hat hz1=>rw [hat] at h;cases h
   | list ty es rows b' cap' vs hat hbl hn hcap hmax hsz hes hr=>
     have hh:=hb _ _ _ _ h
     rw [hat] at h
     cases h
     refine .slc rows (some ⟨b,0,none⟩) b 0 es cap (fun i j=>vs.getD (i*es+j) undef) hcap (fun h=>by cases h) (fun _=>⟨rfl,hh⟩) hes (fun i j t ht=>?_) (fun i j t ht=>?_)
     · obtain ⟨u,h1,h2⟩:=hr i j t ht
       rw [cell_of_block hbl,Nat.zero_add,h1]
       congr 1
       rw [Array.getD_eq_getD_getElem?,h1]
       rfl
     · obtain ⟨u,h1,h2⟩:=hr i j t ht
       have:vs.getD (i*es+j) undef=u:=by rw [Array.getD_eq_getD_getElem?,h1];rfl
       rw [this]
       exact h2.mono (Same.refl _ _) hg
theorem Rel.drop {cx:Cx} {s:St} {a:Act} {w:World} {id ty es:Nat} {rows:Rows} (R:Rel A cx s a w) (hr:s.heap[id]?=some (some (.list ty es rows))) (hfree:A.pin id=none):
 Rel A ⟨fun i=>if i=id then none else cx.at_ i,fun b=>cx.G b∨∃cap es len,cx.at_ id=some (.at b cap es len)⟩ (s.drop id) a w:=by
 have h:=R.dropK hr hfree (V.kill id) fun v u h=>(VRep.kill2 (cx':=⟨fun i=>if i=id then none else cx.at_ i,fun b=>cx.G b∨∃cap es len,cx.at_ id=some (.at b cap es len)⟩) (id:=id) h (Same.refl _ _) (fun i B' hne h=>by show (if i=id then none else cx.at_ i)=_;rw [if_neg hne];exact h) (fun b h=>.inl h)).2
 have e:(rowK (V.kill id) id)=killRow id:=by
  funext x
  cases x with
  | none=>rfl
  | some y=>cases y<;>simp [rowK,killRow,killL_map]
 rw [e,←killL_map] at h
 exact h
theorem shutL_map (id:Nat) (rows:Rows):∀l:List V,shutL id rows l=l.map (V.shut id rows)
 | []=>rfl
 | v::r=>by rw [shutL,shutL_map id rows r];rfl
theorem VRep.shut {cx cx':Cx} {w:World} {v:V} {u:Value} {id ty es:Nat} {rows:Rows} (hR:RowRep cx w id (.list ty es rows)) (h:VRep cx w v u) (hat:∀i B,i≠id→cx.at_ i=some B→cx'.at_ i=some B) (hG:∀b,cx.G b→cx'.G b)
 (hb:∀b cap es len,cx.at_ id=some (.at b cap es len)→cx'.G b):VRep cx' w (v.shut id rows) u:=by
 have kl:∀{v:V} {u:Value},VRep cx w v u→VRep cx' w (v.kill id) u:=fun h=>(h.kill2 (Same.refl _ _) hat hG).2
 have l1:∀{j:Nat} {u:Value},VRep cx w (.lst j) u→VRep cx' w (V.shut id rows (.lst j)) u:=fun {j u} h=>by
  rw [V.shut]
  split
  · rename_i e
    subst e
    exact .t _ _ (list_trep hR h hb hG)
  · rename_i e
    have h2:=kl h
    rw [V.kill,if_neg e] at h2
    exact h2
 induction h with
 | lstN i a z h hz=>exact l1 (.lstN i a z h hz)
 | lst i b cap es len h=>exact l1 (.lst i b cap es len h)
 | tup cs vs hn hr ih=>
   rw [V.shut,shutL_map]
   refine .tup _ vs (by simpa using hn) fun i c u h1 h2=>?_
   rw [List.getElem?_map] at h1
   obtain ⟨c',hc',rfl⟩:=Option.map_eq_some_iff.1 h1
   exact ih i c' u hc' h2
 | fn f cs vs hn hr ih=>
   rw [V.shut,shutL_map]
   refine .fn f _ vs (by simpa using hn) fun i c u h1 h2=>?_
   rw [List.getElem?_map] at h1
   obtain ⟨c',hc',rfl⟩:=Option.map_eq_some_iff.1 h1
   exact ih i c' u hc' h2
 | ifc t v u h ih=>rw [V.shut];exact .ifc t _ u ih
 | t x v h=>rw [V.shut];exact kl (.t x v h);all_goals (intros;contradiction)
 | agg cs vs hn hcb hr ih=>rw [V.shut];exact kl (.agg cs vs hn hcb hr);all_goals (intros;contradiction)
 | ptr i o b cap es len h=>rw [V.shut];exact kl (.ptr i o b cap es len h);all_goals (intros;contradiction)
 | elt i r o b cap es len h=>rw [V.shut];exact kl (.elt i r o b cap es len h);all_goals (intros;contradiction)
 | win i l b cap es len h=>rw [V.shut];exact kl (.win i l b cap es len h);all_goals (intros;contradiction)
 | mp i b cap es len h=>rw [V.shut];exact kl (.mp i b cap es len h);all_goals (intros;contradiction)
 | pre i n b cap es len h=>rw [V.shut];exact kl (.pre i n b cap es len h);all_goals (intros;contradiction)
 | ipt cells off b o u hg hc hr=>rw [V.shut];exact kl (.ipt cells off b o u hg hc hr);all_goals (intros;contradiction)
 | junk v=>rw [V.shut];exact kl (.junk v);all_goals (intros;contradiction)
theorem Rel.shut {cx:Cx} {s:St} {a:Act} {w:World} {id ty es:Nat} {rows:Rows} (R:Rel A cx s a w) (hr:s.heap[id]?=some (some (.list ty es rows))) (hfree:A.pin id=none):
 ∃cx',Rel A cx' (s.shut id rows) a w:=by
 have h:=R.dropK hr hfree (V.shut id rows) fun v u h=>VRep.shut (R.hp.row id _ hr) h (fun i B' hne h=>by show (if i=id then none else cx.at_ i)=_;rw [if_neg hne];exact h) (fun b h=>.inl h) (fun b cap es len h=>.inr ⟨cap,es,len,h⟩)
 have e:(rowK (V.shut id rows) id)=shutRow id rows:=by
  funext x
  cases x with
  | none=>rfl
  | some y=>cases y<;>simp [rowK,shutRow,shutL_map]
 rw [e,←shutL_map] at h
 exact ⟨_,h⟩
theorem Rel.fill {cx:Cx} {s:St} {a:Act} {w:World} {id j ty es ty':Nat} {rows rows':Rows} {r:Int} (R:Rel A cx s a w) (hr:s.heap[id]?=some (some (.list ty es rows))) (hj:s.heap[j]?=some (some (.hole ty' rows' r (some id)))) (hfree:A.pin id=none):
 ∃cx',Rel A cx' ((s.drop id).setRow j (.list ty' 1 (rows'.set r.toNat [.slc rows]))) a w:=by
 have hne:j≠id:=by rintro rfl;rw [hr] at hj;cases hj
 have R1:=R.drop hr hfree
 have hRi:=R.hp.row id _ hr
 have hRj:=R.hp.row j _ hj
 have hid:id<s.heap.length:=(List.getElem?_eq_some_iff.1 hr).1
 have hrow:(s.drop id).heap[j]?=some (some (.hole ty' rows' r none)):=by
  simp only [St.drop]
  rw [List.getElem?_set_ne (Ne.symm hne),List.getElem?_map,hj]
  simp [killRow,killK]
 have hR1:=R1.hp.row j _ hrow
 cases hRj with
 | hole _ _ _ _ b cap vs hat hb hG hcap hmax hsz hes hlt hrr hk=>
   obtain ⟨u,q1,q2⟩:=hk id rfl
   have hG1:¬(cx.G b∨∃cap es len,cx.at_ id=some (.at b cap es len)):=by
    rintro (h | ⟨c2,e2,l2,h⟩)
    · exact hG h
    · exact hne (R.hp.inj _ _ _ _ _ _ _ _ _ _ _ hj hr hat h)
   have hat1:(if j=id then none else cx.at_ j)=some (.at b cap 1 rows'.length):=by rw [if_neg hne];exact hat
   refine ⟨_,R1.write (w':=w) (b:=b) (cap:=cap) (es:=1) (len:=rows'.length) hrow hat1 ⟨rfl,rfl,rfl,rfl,fun _ _=>rfl⟩ ?_ (fun _=>rfl)⟩
   refine .list ty' 1 _ b cap vs (by rw [List.length_set];exact hat1) hb hG1 (by rw [List.length_set];exact hcap) hmax (by omega) (fun row hm=>?_) fun i k t ht=>?_
   · rcases List.mem_or_eq_of_mem_set hm with h | h
     · exact hes row h
     · rw [h];rfl
   · by_cases e:i=r.toNat
     · subst e
       rw [List.getElem?_set_self hlt,Option.bind_some] at ht
       have hk0:k=0:=by
        have:=(List.getElem?_eq_some_iff.1 ht).1
        simp at this
        exact this
       subst hk0
       cases ht
       exact ⟨u,by simpa using q1,list_trep hRi q2 (fun b cap es len h=>.inr ⟨cap,es,len,h⟩) (fun b h=>.inl h)⟩
     · rw [List.getElem?_set_ne (Ne.symm e)] at ht
       cases hri:rows'[i]? with
       | none=>rw [hri] at ht;cases ht
       | some row=>
         rw [hri,Option.bind_some] at ht
         have hl:=hes row (List.mem_of_getElem? hri)
         obtain ⟨x,rfl⟩:=List.length_eq_one_iff.1 hl
         have hk0:k=0:=by
          have:=(List.getElem?_eq_some_iff.1 ht).1
          simp at this
          exact this
         subst hk0
         cases ht
         obtain ⟨u',z1,z2⟩:=hrr i _ e hri
         exact ⟨u',by simpa using z1,z2.mono (Same.refl _ _) fun b h=>.inl h⟩
theorem holeOf_row {id:Nat}:∀{l:List (Option Row)} {i j:Nat},holeOf id i l=some j→∃m ty rows r,j=i+m∧l[m]?=some (some (.hole ty rows r (some id)))
 | [],i,j,h=>by cases h
 | x ::rest,i,j,h=>by
   have next:holeOf id (i+1) rest=some j→∃m ty rows r,j=i+m∧(x::rest)[m]?=some (some (.hole ty rows r (some id))):=fun h=>by
    obtain ⟨m,ty,rows,r,e,hm⟩:=holeOf_row h
    exact ⟨m+1,ty,rows,r,by omega,by simpa using hm⟩
   unfold holeOf at h
   split at h
   · rename_i e;cases e
   · rename_i e
     cases e
     split at h
     · rename_i e2
       subst e2
       cases h
       exact ⟨0,_,_,_,rfl,rfl⟩
     · exact next h
   · rename_i e
     cases e
     exact next h
theorem copy_wp {cx:Cx} {s:St} {a:Act} {w:World} {o:Oper} {c:Call} {K:St→Prop} (hL:LayOk P L) (hop:o.op=.call c) (hc:c.callee=.builtin .copy) (R:Rel A cx s a w) (h:pop (dom P A) L o s K):
 ∀next Q,(∀s' cx' a' w',K s'→Rel A cx' s' a' w'→next a' w')→o.wp P a w next Q:=fun next Q hn=>by
 have he:=eyes_of R.tm
 simp only [pop,hop,hc] at h
 split at h
 case h_2=>exact h.elim
 rename_i t u x y ht' hx'
 have e1:c.argTypes=#[t,u]:=by cases hh:c.argTypes;simp_all
 have e2:c.args=#[x,y]:=by cases hh:c.args;simp_all
 split at h
 case h_2=>exact h.elim
 rename_i lt hlt
 split at h
 case isFalse=>exact h.elim
 rename_i hk
 obtain ⟨_,d,_,_,hd,_,_,_,_,_,_,⟨_,_,hk3,_⟩,_⟩:=hL t lt hlt
 obtain rfl:=hk3 hk
 split at h
 case h_2=>exact h.elim
 rename_i le hle
 obtain ⟨ei,_,z,hei,_,hesz,_⟩:=hL lt.elem le hle
 split at h
 case isFalse=>exact h.elim
 rename_i hs1
 split at h
 case h_3=>exact h.elim
 case h_1 =>
  rename_i id lo hxv
  split at h
  case h_2=>exact h.elim
  rename_i id2 n ty es rows hyv hrow
  split at h
  case isFalse=>exact h.elim
  rename_i hes1
  subst hes1
  split at h
  case isFalse=>exact h.elim
  rename_i hid
  subst hid
  obtain ⟨⟨hne,h0,h1,hfit⟩,⟨-,h2,h3,-⟩,hK⟩:=h
  have hx:=he x
  rw [hxv] at hx
  have hyr:=he y
  rw [hyv] at hyr
  have hrow':=getD_rowN hrow
  have hR:=R.hp.row _ _ hrow'
  cases hR with
  | listN ty es z1 hat hz1=>exact absurd rfl hne
  | list ty es rows b cap vs hat hbl hnG hcap hmax hsz hes hr=>
    generalize hy:a.eval x=xv at hx
    generalize hy2:a.eval y=yv at hyr
    cases hx with
    | win i lo b' cap' es' len' h'=>
      cases hyr with
      | pre i n b2 cap2 es2 len2 h2'=>
        have hat2:=hat
        rw [hat] at h' h2'
        cases h'
        cases h2'
        rw [Nat.mul_one] at hsz
        have cell1:∀k:Nat,k<rows.length→∃(tt:T) (u:Value),rows[k]?=some [tt]∧vs[k]?=some u∧TRep cx.G w tt u:=fun k hk=>by
         have hrk:=List.getElem?_eq_getElem hk
         have hl:=hes _ (List.getElem_mem hk)
         obtain ⟨tt,htt⟩:=List.length_eq_one_iff.1 hl
         rw [htt] at hrk
         obtain ⟨u,q1,q2⟩:=hr k 0 tt (by rw [hrk];rfl)
         exact ⟨tt,u,hrk,by simpa using q1,q2⟩
        have hml:(maxLen:Int)≤9223372036854775807:=by decide
        generalize hm:min n.toNat (rows.length-lo.toNat)=m
        have hmm:Nat.min n.toNat (rows.length-lo.toNat)=m:=hm
        have hcs:((vs.toList.take m)).length=m:=by rw [List.length_take,Array.length_toList];omega
        have hcsg:∀j:Nat,j<m→(vs.toList.take m)[j]?=vs[j]?:=fun j hj=>by rw [List.getElem?_take,if_pos hj,Array.getElem?_toList]
        have hoff:(if cap=lo.toNat then 0 else lo.toNat*1)+m≤vs.size:=by split<;>omega
        have hrun:=run_copy_row (P:=P) w t u o.type lt.elem b (if cap=lo.toNat then 0 else lo.toNat*1) (rows.length-lo.toNat) (cap-lo.toNat) ⟨b,0,none⟩ n.toNat cap vs ty (vs.toList.take m) hd (by rw [hei];simp [hesz,hs1]) hbl (by rw [hcs];exact hmm.symm) (fun j v hj=>by
         rw [List.getElem?_take] at hj
         split at hj
         · rw [add_none,Nat.zero_add,cell_of_block hbl];simpa using hj
         · cases hj) (by rw [hcs];exact hoff) (fun v hv=>by
         obtain ⟨k,hk⟩:=List.mem_iff_getElem?.1 hv
         rw [List.getElem?_take] at hk
         split at hk
         · rename_i hkm
           obtain ⟨tt,u',q1,q2,q3⟩:=cell1 k (by omega)
           rw [Array.getElem?_toList,q2] at hk
           cases hk
           exact one_cell' ((VRep.t (cx:=cx) _ _ q3).one rfl).1
         · cases hk)
        rw [hcs] at hrun
        have hex:(execOp a.eval o).run P w=.ok (.value (.int .i64 m)) (w.setRow b (vs.toList.take (if cap=lo.toNat then 0 else lo.toNat*1)++vs.toList.take m++vs.toList.drop ((if cap=lo.toNat then 0 else lo.toNat*1)+m)).toArray):=by
         simp only [execOp,hop,resolve,hc,Sem.run_bind,Sem.run_pure,Result.andThen_ok,invoke,builtin,e1,e2,List.map_toArray,List.map_cons,List.map_nil,hy,hy2,hrun]
         rfl
        have hoff0:0<m→(if cap=lo.toNat then 0 else lo.toNat*1)=lo.toNat:=fun h=>by rw [if_neg (by omega),Nat.mul_one]
        generalize (if cap=lo.toNat then 0 else lo.toNat*1)=off at hoff hex hoff0
        have arr:∀k:Nat,(vs.toList.take off++vs.toList.take m++vs.toList.drop (off+m)).toArray[k]?=if off≤k∧k<off+m then vs[k-off]? else vs[k]?:=fun k=>by
         rw [List.getElem?_toArray]
         by_cases h1:k<off
         · rw [List.getElem?_append_left (by rw [List.length_append,List.length_take,List.length_take,Array.length_toList];omega),List.getElem?_append_left (by rw [List.length_take,Array.length_toList];omega),List.getElem?_take,if_pos h1,if_neg (by omega),Array.getElem?_toList]
         · by_cases h2:k<off+m
           · rw [List.getElem?_append_left (by rw [List.length_append,List.length_take,List.length_take,Array.length_toList];omega),List.getElem?_append_right (by rw [List.length_take,Array.length_toList];omega),List.getElem?_take,List.length_take,Array.length_toList,if_pos (by omega),if_pos (by omega),Array.getElem?_toList]
             congr 1
             omega
           · rw [List.getElem?_append_right (by rw [List.length_append,List.length_take,List.length_take,Array.length_toList];omega),List.getElem?_drop,if_neg (by omega),Array.getElem?_toList,List.length_append,List.length_take,List.length_take,Array.length_toList]
             congr 1
             omega
        have hll:((dom P A).lcpw rows lo n).length=rows.length:=by
         show (rows.take lo.toNat++rows.take (min n.toNat (rows.length-lo.toNat))++rows.drop (lo.toNat+min n.toNat (rows.length-lo.toNat))).length=_
         rw [hm]
         simp only [List.length_append,List.length_take,List.length_drop]
         omega
        have hrows:∀k:Nat,((dom P A).lcpw rows lo n)[k]?=if lo.toNat≤k∧k<lo.toNat+m then rows[k-lo.toNat]? else rows[k]?:=fun k=>by
         show (rows.take lo.toNat++rows.take (min n.toNat (rows.length-lo.toNat))++rows.drop (lo.toNat+min n.toNat (rows.length-lo.toNat)))[k]?=_
         rw [hm]
         by_cases h1:k<lo.toNat
         · rw [List.getElem?_append_left (by rw [List.length_append,List.length_take,List.length_take];omega),List.getElem?_append_left (by rw [List.length_take];omega),List.getElem?_take,if_pos h1,if_neg (by omega)]
         · by_cases h2:k<lo.toNat+m
           · rw [List.getElem?_append_left (by rw [List.length_append,List.length_take,List.length_take];omega),List.getElem?_append_right (by rw [List.length_take];omega),List.getElem?_take,List.length_take,if_pos (by omega),if_pos (by omega)]
             congr 1
             omega
           · rw [List.getElem?_append_right (by rw [List.length_append,List.length_take,List.length_take];omega),List.getElem?_drop,if_neg (by omega),List.length_append,List.length_take,List.length_take]
             congr 1
             omega
        have hs:Same cx.G w (w.setRow b (vs.toList.take off++vs.toList.take m++vs.toList.drop (off+m)).toArray):=fun k hk=>setRow_other w b k _ (fun e=>hnG (e▸hk))
        unfold Oper.wp
        rw [hex,Oper.upon_value]
        refine hn _ cx _ _ hK ((R.write (w':=w.setRow b (vs.toList.take off++vs.toList.take m++vs.toList.drop (off+m)).toArray) hrow' hat2 ⟨rfl,rfl,rfl,by simp [World.setRow],fun k hk=>setRow_other w b k _ hk⟩ ?_ (fun _=>rfl)).put ?_ o.dst)
        · refine .list ty 1 _ b cap _ (by rw [hll];exact hat2) (setRow_heap w b vs _ ty (0,0) hbl) hnG (by rw [hll];exact hcap) hmax ?_ ?_ ?_
          · simp only [List.size_toArray,List.length_append,List.length_take,List.length_drop,Array.length_toList]
            omega
          · intro row hrow
            obtain ⟨k,hk⟩:=List.mem_iff_getElem?.1 hrow
            rw [hrows] at hk
            split at hk
            · exact hes row (List.mem_of_getElem? hk)
            · exact hes row (List.mem_of_getElem? hk)
          · intro i j t0 ht0
            rw [hrows] at ht0
            have hlt:i<rows.length:=by
             rcases Nat.lt_or_ge i rows.length with h | h
             · exact h
             · split at ht0
               · omega
               · rw [List.getElem?_eq_none h] at ht0;cases ht0
            by_cases hi:lo.toNat≤i∧i<lo.toNat+m
            · rw [if_pos hi] at ht0
              obtain ⟨tt,u',q1,q2,q3⟩:=cell1 (i-lo.toNat) (by omega)
              rw [q1,Option.bind_some] at ht0
              have hj:j=0:=by
               have:=(List.getElem?_eq_some_iff.1 ht0).1
               simp at this
               exact this
              subst hj
              cases ht0
              refine ⟨u',?_,q3.mono hs (fun _ h=>h)⟩
              rw [arr,hoff0 (by omega),if_pos (by omega),←q2]
              congr 1
              omega
            · rw [if_neg hi] at ht0
              obtain ⟨tt,u',q1,q2,q3⟩:=cell1 i hlt
              rw [q1,Option.bind_some] at ht0
              have hj:j=0:=by
               have:=(List.getElem?_eq_some_iff.1 ht0).1
               simp at this
               exact this
              subst hj
              cases ht0
              refine ⟨u',?_,q3.mono hs (fun _ h=>h)⟩
              rw [arr,←q2]
              by_cases hm0:0<m
              · rw [hoff0 hm0,if_neg (by omega)]
                congr 1
                omega
              · rw [if_neg (by omega)]
                congr 1
                omega
        · have e3:(dom P A).ar .sub .i64 ((dom P A).llen rows) lo=((rows.length-lo.toNat:Nat):Int):=by
           show IntKind.i64.wrap ((rows.length:Int)-lo)=_
           rw [IntKind.wrap_i64]
           omega
          have hm2:((m:Nat):Int)=(dom P A).imin n ((dom P A).ar .sub .i64 ((dom P A).llen rows) lo):=by
           rw [e3]
           show (m:Int)=if ((rows.length-lo.toNat:Nat):Int)<n then ((rows.length-lo.toNat:Nat):Int) else n
           split<;>omega
          rw [hm2]
          exact rep_flat rfl
 rename_i id hxv
 split at h
 case h_2=>exact h.elim
 rename_i ty es rows hrow
 split at h
 case isFalse=>exact h.elim
 rename_i hes1
 subst hes1
 split at h
 case h_2=>exact h.elim
 rename_i new hnew
 have key:(dom P A).cpok rows new→∀next Q,(∀w',Rel A cx (s.setRow id (.list ty 1 ((dom P A).lcopy rows new))) a w'→next (a.put o.dst (.int .i64 ((dom P A).imin ((dom P A).llen new) ((dom P A).llen rows)))) w')→o.wp P a w next Q:=?_
 · split at h
   · exact key h.1 next Q fun w' R1=>hn _ cx _ _ h.2 (R1.put (rep_flat rfl) o.dst)
   · rename_i j hj
     split at h
     case h_2=>exact h.elim
     rename_i ty' rows' r kid hjr
     obtain ⟨hf,hc,hK⟩:=h
     refine key hc next Q fun w' R1=>?_
     obtain ⟨m,ty2,rows2,r2,e,hm⟩:=holeOf_row hj
     rw [Nat.zero_add] at e
     subst e
     have hjr':=getD_rowN hjr
     rw [hm] at hjr'
     cases hjr'
     have hrow':=getD_rowN hrow
     have hid:id<s.heap.length:=(List.getElem?_eq_some_iff.1 hrow').1
     have hne:j≠id:=by rintro rfl;rw [hrow'] at hm;cases hm
     obtain ⟨cx',R2⟩:=R1.fill (id:=id) (j:=j) (by simp only [St.setRow];rw [List.getElem?_set_self hid]) (by simp only [St.setRow];rw [List.getElem?_set_ne (Ne.symm hne)];exact hm) hf
     have hsd:(s.setRow id (.list ty 1 ((dom P A).lcopy rows new))).drop id=s.drop id:=by
      simp only [St.setRow,St.drop,List.map_set,List.set_set]
     rw [hsd] at R2
     exact hn _ cx' _ _ hK (R2.put (rep_flat rfl) o.dst)
 intro ⟨hne,hnn,hfit⟩ next Q hn
 have hx:=he x
 rw [hxv] at hx
 have hrow':=hrow
 have hrow':s.heap[id]?=some (some (.list ty 1 rows)):=by
  rw [List.getD_eq_getElem?_getD] at hrow
  cases hg:s.heap[id]? with
  | none=>rw [hg] at hrow;cases hrow
  | some z=>rw [hg] at hrow;simp at hrow;rw [hrow]
 obtain ⟨news,n1,n2,n3,n4⟩:=rows_news' R (he y) hnew Nat.one_pos hfit
 rw [Nat.mul_one] at n1
 rcases n3 with ⟨h0,-⟩ | ⟨ad,cc,hyv,hcells⟩
 · exact absurd (List.eq_nil_of_length_eq_zero h0) hnn
 have hR:=R.hp.row id _ hrow'
 cases hR with
 | listN ty es z1 hat hz1=>exact absurd rfl hne
 | list ty es rows b cap vs hat hbl hnG hcap hmax hsz hes hr=>
   generalize hy:a.eval x=xv at hx
   cases hx with
   | lstN i a0 z0 h' hz0=>rw [hat] at h';cases h'
   | lst i b' cap' es' len h'=>
     have hat2:=hat
     rw [hat] at h'
     cases h'
     rw [Nat.mul_one] at hsz
     have hml:(news.take (Nat.min new.length rows.length)).length=Nat.min new.length rows.length:=by
      rw [List.length_take,n1]
      show min (min _ _) _=min _ _
      omega
     have hmle:Nat.min new.length rows.length≤rows.length:=Nat.min_le_right _ _
     have hrun:=run_copy_row (P:=P) w t u o.type lt.elem b 0 rows.length cap ad new.length cc vs ty (news.take (Nat.min new.length rows.length)) hd (by rw [hei];simp [hesz,hs1]) hbl hml (fun j v hj=>hcells j v (by
      rw [List.getElem?_take] at hj
      split at hj
      · exact hj
      · cases hj)) (by rw [hml];omega) (fun v hv=>one_cell' (n2 v (List.mem_of_mem_take hv)))
     have hex:(execOp a.eval o).run P w=.ok (.value (.int .i64 (Nat.min new.length rows.length:Nat))) (w.setRow b (vs.toList.take 0++news.take (Nat.min new.length rows.length)++vs.toList.drop (0+(news.take (Nat.min new.length rows.length)).length)).toArray):=by
      simp only [execOp,hop,resolve,hc,Sem.run_bind,Sem.run_pure,Result.andThen_ok,invoke,builtin,e1,e2,List.map_toArray,List.map_cons,List.map_nil,hy,hyv,hrun,hml]
      rfl
     have hcs:∀k,k<Nat.min new.length rows.length→(news.take (Nat.min new.length rows.length))[k]?=news[k]?:=fun k hk=>by rw [List.getElem?_take,if_pos hk]
     generalize news.take (Nat.min new.length rows.length)=cs at hrun hex hml hcs
     have hll:((dom P A).lcopy rows new).length=rows.length:=by
      show (new.take rows.length++rows.drop new.length).length=_
      rw [List.length_append,List.length_take,List.length_drop]
      omega
     have hs:Same cx.G w (w.setRow b (vs.toList.take 0++cs++vs.toList.drop (0+cs.length)).toArray):=fun k hk=>setRow_other w b k _ (fun e=>hnG (e▸hk))
     unfold Oper.wp
     rw [hex,Oper.upon_value]
     have hm2:((Nat.min new.length rows.length:Nat):Int)=(dom P A).imin ((dom P A).llen new) ((dom P A).llen rows):=by
      show ((min new.length rows.length:Nat):Int)=if ((rows.length:Nat):Int)<((new.length:Nat):Int) then ((rows.length:Nat):Int) else ((new.length:Nat):Int)
      split<;>omega
     rw [hm2]
     refine hn _ (R.write (w':=w.setRow b (vs.toList.take 0++cs++vs.toList.drop (0+cs.length)).toArray) hrow' hat2 ⟨rfl,rfl,rfl,by simp [World.setRow],fun k hk=>setRow_other w b k _ hk⟩ ?_ (fun _=>rfl))
     · refine .list ty 1 _ b cap _ (by rw [hll];exact hat2) (setRow_heap w b vs _ ty (0,0) hbl) hnG (by rw [hll];exact hcap) hmax ?_ ?_ ?_
       · simp only [List.take_zero,List.nil_append,List.size_toArray,List.length_append,List.length_drop,Array.length_toList]
         omega
       · intro row hrow
         rcases List.mem_append.1 hrow with h | h
         · exact hfit row (List.mem_of_mem_take h)
         · exact hes row (List.mem_of_mem_drop h)
       · intro i j t0 ht0
         have hm:Nat.min new.length rows.length=min new.length rows.length:=rfl
         have arr:∀k:Nat,(vs.toList.take 0++cs++vs.toList.drop (0+cs.length)).toArray[k]?=if k<Nat.min new.length rows.length then news[k]? else vs[k]?:=fun k=>by
          rw [List.take_zero,List.nil_append,List.getElem?_toArray]
          split
          · rename_i hk
            rw [List.getElem?_append_left (by omega)]
            exact hcs k hk
          · rename_i hk
            rw [List.getElem?_append_right (by omega),List.getElem?_drop,Array.getElem?_toList]
            congr 1
            omega
         rw [arr]
         have ht1:((new.take rows.length++rows.drop new.length)[i]?).bind (fun r=>r[j]?)=some t0:=ht0
         by_cases hi:i<Nat.min new.length rows.length
         · rw [List.getElem?_append_left (by rw [List.length_take];omega),List.getElem?_take,if_pos (by omega)] at ht1
           have hj:j<1:=by
            rw [List.getElem?_eq_getElem (by omega),Option.bind_some] at ht1
            have:=(List.getElem?_eq_some_iff.1 ht1).1
            rw [hfit _ (List.getElem_mem _)] at this
            exact this
           obtain ⟨u,q1,q2⟩:=n4 i j t0 ht1
           rw [if_pos (by omega)]
           exact ⟨u,q1,q2.mono hs (fun _ h=>h)⟩
         · rw [List.getElem?_append_right (by rw [List.length_take];omega),List.getElem?_drop,List.length_take] at ht1
           have hlt:new.length+(i-min rows.length new.length)<rows.length:=by
            rcases Nat.lt_or_ge (new.length+(i-min rows.length new.length)) rows.length with h | h
            · exact h
            · rw [List.getElem?_eq_none h] at ht1;cases ht1
           have hei:new.length+(i-min rows.length new.length)=i:=by omega
           rw [hei] at ht1
           obtain ⟨u,q1,q2⟩:=hr i j t0 ht1
           rw [if_neg (by omega)]
           exact ⟨u,q1,q2.mono hs (fun _ h=>h)⟩
end
end Ab
end Go.Proofs.YtbpihhelojjedaaDoor
