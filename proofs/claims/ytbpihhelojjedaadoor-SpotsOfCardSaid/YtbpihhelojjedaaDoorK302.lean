/- Texts that the proof leans on. -/
import Derived.Maps.Keyed
import Derived.DeepKeys5
import Derived.Test.YtbpihhelojjedaaDoorK301
import Derived.KernelRfl
import Derived.Lib.TrailingZeros
set_option linter.unusedVariables false
set_option linter.unusedSimpArgs false
set_option maxRecDepth 100000
set_option maxHeartbeats 4000000
namespace Go.Proofs.YtbpihhelojjedaaDoor
open Go Go.RowKit
open Go.ChangeMaps (setBlock)
namespace Ab
def Key.val:Key→Value
 | .s b=>.string b
 | .i n=>.int .i64 n
 | .p a b=>.agg #[.int .i64 a,.int .i64 b]
structure KeyOk (P:Program) (k:TypeId) (c:Nat):Prop where
 law:Maps.Keyed P k
 of:∀q:Key,q.code=c→q.ok→∃l,keyOf P k q.val=some l
theorem keyOk_s {P:Program} {k:TypeId} (h:P.underlying k=some .string):KeyOk P k 0:=
 ⟨Maps.string_keyed h,fun q hc ho=>by
  cases q with
  | s b=>exact ⟨_,WideMaps.keyOf_string_mk h ho⟩
  | i n=>cases hc
  | p a b=>cases hc⟩
theorem wf64 {n:Int} (h: -9223372036854775808≤n∧n≤9223372036854775807):(Lit.int .i64 n).wf=true:=by
 have h1:IntKind.min .i64=-9223372036854775808:=by decide
 have h2:IntKind.max .i64=9223372036854775807:=by decide
 simp only [Lit.wf,h1,h2,Bool.and_eq_true,decide_eq_true_eq]
 exact h
theorem keyOk_i {P:Program} {k:TypeId} (h:P.underlying k=some (.int .i64)):KeyOk P k 1:=
 ⟨Maps.int_keyed h,fun q hc ho=>by
  cases q with
  | s b=>cases hc
  | i n=>exact ⟨_,Maps.keyOf_int_mk h (wf64 ho)⟩
  | p a b=>cases hc⟩
theorem keyOk_p {P:Program} {k e:TypeId} (h:P.underlying k=some (.array 2 e)) (he:P.underlying e=some (.int .i64)) (hl:laidOutB P=true) (hs:P.types.size+2≤10000) (hr:k<P.types.size)
 (hk:P.keyType k=true) (hc:P.cellsOf k=2) (h1:P.cellsOf e=1):KeyOk P k 2:=
 ⟨Maps.Keyed.of_law (deep_law_gate hl hs hr hk (by rw [h])),fun q hc' ho=>by
  cases q with
  | s b=>cases hc'
  | i n=>cases hc'
  | p a b=>
    obtain ⟨ha,hb⟩:=ho
    have hf:(Key.val (.p a b)).formed P k=true:=by simp [Key.val,Value.formed,h,hc]
    have w1:=wf64 ha
    have w2:=wf64 hb
    have h0:0<P.types.size:=Nat.lt_of_le_of_lt (Nat.zero_le k) hr
    have hsz:P.types.size+1=(P.types.size-1+1)+1:=by omega
    have hlits:P.keyLits (P.types.size+1) k [.int .i64 a,.int .i64 b]=some [.int .i64 a,.int .i64 b]:=by
     rw [hsz]
     simp [Program.keyLits,h,he,hc,h1,w1,w2,List.range_succ,List.mapM_cons]
    refine ⟨.string (keyBytes [.int .i64 a,.int .i64 b]),?_⟩
    unfold keyOf
    rw [h]
    have hf':(Value.agg #[.int .i64 a,.int .i64 b]).formed P k=true:=hf
    simp only [hk,hf',Bool.and_self,if_true,Key.val,Value.cells]
    rw [hlits]
    rfl⟩
def keyB (P:Program) (k:TypeId) (c:Nat):Bool:=
 match c,P.underlying k with
 | 0,some .string=>true
 | 1,some (.int .i64)=>true
 | 2,some (.array n e)=>n==2&&(match P.underlying e with | some (.int .i64)=>true | _=>false)&&laidOutB P&&decide (P.types.size+2≤10000)&&decide (k<P.types.size)&&P.keyType k&&P.cellsOf k==2&&P.cellsOf e==1
 | _,_=>false
theorem keyB_ok {P:Program} {k:TypeId} {c:Nat} (h:keyB P k c=true):KeyOk P k c:=by
 unfold keyB at h
 split at h
 · exact keyOk_s (by assumption)
 · exact keyOk_i (by assumption)
 · rename_i n e hk
   simp only [Bool.and_eq_true,beq_iff_eq,decide_eq_true_eq] at h
   obtain ⟨⟨⟨⟨⟨⟨⟨rfl,h2⟩,h3⟩,h4⟩,h5⟩,h6⟩,h7⟩,h8⟩:=h
   split at h2
   · exact keyOk_p hk (by assumption) h3 h4 h5 h6 h7 h8
   · cases h2
 · cases h
structure Ents (c:Nat) (rows:Rows) (es:Array MapEntry):Prop where
 size:es.size=rows.length
 each:∀(i:Nat) e r,es[i]?=some e→rows[i]?=some r→∃(q:Key) (v:Value),r=q.cells (.flat v)∧q.code=c∧q.ok∧e.key=q.val∧e.val=v∧(match v with | .agg _=>false | .tuple _=>false | _=>true)=true
 apart:∀(i j:Nat) e e',es[i]?=some e→es[j]?=some e'→e.key=e'.key→i=j
def getOr (o:Option T) (z:Value):Value:=match o with
 | some (.flat v)=>v
 | _=>z
theorem entry_cells (q:Key) (x:T):entry (q.cells x)=some (q,x):=by cases q<;>rfl
theorem val_inj {q q':Key} (h:q.val=q'.val):q=q':=by
 cases q<;>cases q'<;>simp_all [Key.val]
theorem Ents.none (c:Nat):Ents c [] #[]:=⟨rfl,fun i e r h=>by simp at h,fun i j e e' h=>by simp at h⟩
theorem mfind_at:∀{rows:Rows} {q:Key} {v:Value} (j:Nat),rows[j]?=some (q.cells (.flat v))→(∀i r,i<j→(rows[i]?:Option (List T))=some r→∃q' x,r=Key.cells q' x∧q'≠q)→mfindT rows q=some (.flat v)
 | [],_,_,j,h,_=>by simp at h
 | r::rs,q,v,0,h,_=>by
   simp at h
   subst h
   simp [mfindT,entry_cells]
 | r::rs,q,v,j+1,h,hn=>by
   obtain ⟨q',x,rfl,hne⟩:=hn 0 r (by omega) rfl
   simp only [mfindT,entry_cells,if_neg hne]
   exact mfind_at j (by simpa using h) (fun i r hi hr=>hn (i+1) r (by omega) (by simpa using hr))
theorem mfind_none:∀{rows:Rows} {q:Key},(∀(i:Nat) (r:List T),(rows[i]?:Option (List T))=some r→∃q' x,r=Key.cells q' x∧q'≠q)→mfindT rows q=none
 | [],_,_=>rfl
 | r::rs,q,hn=>by
   obtain ⟨q',x,rfl,hne⟩:=hn 0 r rfl
   simp only [mfindT,entry_cells,if_neg hne]
   exact mfind_none (fun i r hr=>hn (i+1) r (by simpa using hr))
theorem mput_none:∀{rows:Rows} {q:Key} {x:T},(∀(i:Nat) (r:List T),(rows[i]?:Option (List T))=some r→∃q' x,r=Key.cells q' x∧q'≠q)→mputT rows q x=rows++[q.cells x]
 | [],_,_,_=>rfl
 | r::rs,q,x,hn=>by
   obtain ⟨q',x',rfl,hne⟩:=hn 0 r rfl
   simp only [mputT,entry_cells,if_neg hne,List.cons_append]
   rw [mput_none (fun i r hr=>hn (i+1) r (by simpa using hr))]
theorem mput_at:∀{rows:Rows} {q:Key} {x y:T} (j:Nat),rows[j]?=some (q.cells y)→(∀i r,i<j→(rows[i]?:Option (List T))=some r→∃q' x,r=Key.cells q' x∧q'≠q)→mputT rows q x=rows.set j (q.cells x)
 | [],_,_,_,j,h,_=>by simp at h
 | r::rs,q,x,y,0,h,_=>by
   simp at h
   subst h
   simp [mputT,entry_cells]
 | r::rs,q,x,y,j+1,h,hn=>by
   obtain ⟨q',x',rfl,hne⟩:=hn 0 r (by omega) rfl
   simp only [mputT,entry_cells,if_neg hne,List.set_cons_succ]
   rw [mput_at j (by simpa using h) (fun i r hi hr=>hn (i+1) r (by omega) (by simpa using hr))]
section
variable {P:Program} {t k e:TypeId} {c:Nat} {b:Nat} {w:World} {es:Array MapEntry} {clock:Nat} {rows:Rows} {q:Key}
theorem Ents.keys (h:Ents c rows es) (K:KeyOk P k c):∀x∈es.toList,∃l,keyOf P k x.key=some l:=fun x hx=>by
 obtain ⟨i,hi,rfl⟩:=Array.mem_iff_getElem.1 (Array.mem_toList_iff.1 hx)
 have hi':i<rows.length:=by rw [←h.size];exact hi
 obtain ⟨q,v,-,hc,ho,hk,-⟩:=h.each i _ (rows[i]'hi') (Array.getElem?_eq_getElem hi) (List.getElem?_eq_getElem hi')
 rw [hk]
 exact K.of q hc ho
theorem Ents.row (h:Ents c rows es) {i:Nat} {r:List T} (hr:rows[i]?=some r):∃(x:MapEntry) (q:Key) (v:Value),es[i]?=some x∧r=q.cells (.flat v)∧q.code=c∧q.ok∧x.key=q.val∧x.val=v∧(match v with | .agg _=>false | .tuple _=>false | _=>true)=true:=by
 have hi:i<es.size:=by rw [h.size];exact (List.getElem?_eq_some_iff.1 hr).1
 obtain ⟨q,v,g⟩:=h.each i _ r (Array.getElem?_eq_getElem hi) hr
 exact ⟨_,q,v,Array.getElem?_eq_getElem hi,g⟩
theorem map_find (h:Ents c rows es) (K:KeyOk P k c) (hc:q.code=c) (ho:q.ok) (w:World):
 ((Instr.findKey k q.val es.toList).run P w=.ok none w∧mfindT rows q=none∧(∀x∈es.toList,x.key≠q.val)∧∀x,mputT rows q x=rows++[q.cells x])∨
 ∃j x v,(Instr.findKey k q.val es.toList).run P w=.ok (some (j,x.val)) w∧es[j]?=some x∧x.key=q.val∧x.val=v∧mfindT rows q=some (.flat v)∧(∀y,mputT rows q y=rows.set j (q.cells y))∧(match v with | .agg _=>false | .tuple _=>false | _=>true)=true:=by
 obtain ⟨l,hl⟩:=K.of q hc ho
 rcases K.law.find w hl es.toList (h.keys K) with ⟨h1,h2⟩ | ⟨j,x,h1,h2,h3⟩
 · have hn:∀(i:Nat) (r:List T),(rows[i]?:Option (List T))=some r→∃q' x,r=Key.cells q' x∧q'≠q:=fun i r hr=>by
    obtain ⟨x,q',v,hx,rfl,-,-,hk,-⟩:=h.row hr
    exact ⟨q',_,rfl,fun e=>h2 x (Array.mem_toList_iff.2 (Array.mem_of_getElem? hx)) (by rw [hk,e])⟩
   exact .inl ⟨h1,mfind_none hn,h2,fun x=>mput_none hn⟩
 · have h2':es[j]?=some x:=by simpa using h2
   have hj:j<rows.length:=by rw [←h.size];exact (Array.getElem?_eq_some_iff.1 h2').1
   obtain ⟨q',v,hr,-,-,hk,hv,hone⟩:=h.each j x _ h2' (List.getElem?_eq_getElem hj)
   have hq:q'=q:=val_inj (by rw [←hk,h3])
   subst hq
   have hat:rows[j]?=some (q'.cells (.flat v)):=by rw [←hr];exact List.getElem?_eq_getElem hj
   have hn:∀(i:Nat) (r:List T),i<j→rows[i]?=some r→∃q2 x,r=Key.cells q2 x∧q2≠q':=fun i r hi hr=>by
    obtain ⟨x',q2,v',hx',rfl,-,-,hk',-⟩:=h.row hr
    refine ⟨q2,_,rfl,fun e=>?_⟩
    have:=h.apart i j x' x hx' h2' (by rw [hk',hk,e])
    omega
   exact .inr ⟨j,x,v,h1,h2',h3,hv,mfind_at j hat hn,fun y=>mput_at j hat hn,hone⟩
theorem map_get (h:Ents c rows es) (K:KeyOk P k c) (ht:P.underlying t=some (.map k e)) (hb:w.heap[b]?=some (.map es clock)) (hc:q.code=c) (ho:q.ok) {z:Value} (hz:(zeroValue e).run P w=.ok z w):
 (Instr.lookup t (.map (some b)) q.val true).run P w=.ok (.tuple #[getOr (mfindT rows q) z,.bool (mfindT rows q).isSome]) w∧∀x,mfindT rows q=some x→∃v,x=.flat v∧(match v with | .agg _=>false | .tuple _=>false | _=>true)=true:=by
 obtain ⟨l,hl⟩:=K.of q hc ho
 have hck:=fun em=>K.law.check w em hl
 rcases map_find h K hc ho w with ⟨h1,h2,-⟩ | ⟨j,x,v,h1,-,-,hv,h2,-,hone⟩
 · refine ⟨?_,fun x hx=>by rw [h2] at hx;cases hx⟩
   rw [h2]
   simp [Instr.lookup,run_underlying ht,MapKept.run_getObj_map hb,hck,h1,hz,Result.andThen,getOr]
 · refine ⟨?_,fun x hx=>by rw [h2] at hx;cases hx;exact ⟨v,rfl,hone⟩⟩
   rw [h2]
   simp [Instr.lookup,run_underlying ht,MapKept.run_getObj_map hb,hck,h1,hv,Result.andThen,getOr]
theorem map_put (h:Ents c rows es) (K:KeyOk P k c) (ht:P.underlying t=some (.map k e)) (hb:w.heap[b]?=some (.map es clock)) (hc:q.code=c) (ho:q.ok) {v:Value} (hv:(match v with | .agg _=>false | .tuple _=>false | _=>true)=true):
 ∃es' clock',(Instr.mapUpdate t (.map (some b)) q.val v).run P w=.ok () (setBlock w b (.map es' clock'))∧Ents c (mputT rows q (.flat v)) es':=by
 obtain ⟨l,hl⟩:=K.of q hc ho
 have hck:=fun em=>K.law.check w em hl
 rcases map_find h K hc ho w with ⟨h1,-,h2,h3⟩ | ⟨j,x,u,h1,hx,hk,-,-,h3,-⟩
 · refine ⟨es.push ⟨q.val,v,clock⟩,clock+1,?_,?_⟩
   · simp [Instr.mapUpdate,run_underlying ht,MapKept.run_getObj_map hb,hck,h1,MapKept.run_setObj_map _ hb,Result.andThen,setBlock]
   · rw [h3]
     refine ⟨by simp [h.size],fun i x r hx hr=>?_,fun i j x x' hx hx' e=>?_⟩
     · rw [Array.getElem?_push] at hx
       split at hx
       · rename_i hi
         cases hx
         rw [hi,h.size,List.getElem?_append_right (Nat.le_refl _)] at hr
         simp at hr
         exact ⟨q,v,hr.symm,hc,ho,rfl,rfl,hv⟩
       · rename_i hi
         have hi2:i<es.size:=(Array.getElem?_eq_some_iff.1 hx).1
         rw [List.getElem?_append_left (by rw [←h.size];exact hi2)] at hr
         exact h.each i x r hx hr
     · rw [Array.getElem?_push] at hx hx'
       split at hx<;>split at hx'
       · omega
       · cases hx
         exact absurd e.symm (h2 x' (Array.mem_toList_iff.2 (Array.mem_of_getElem? hx')))
       · cases hx'
         exact absurd e (h2 x (Array.mem_toList_iff.2 (Array.mem_of_getElem? hx)))
       · exact h.apart i j x x' hx hx' e
 · have hj:j<es.size:=(Array.getElem?_eq_some_iff.1 hx).1
   refine ⟨es.modify j fun y=>{y with key:=q.val,val:=v},clock,?_,?_⟩
   · have hj2:(es[j]?.map (·.key)).getD q.val=q.val:=by rw [hx];exact hk
     simp [Instr.mapUpdate,run_underlying ht,MapKept.run_getObj_map hb,hck,h1,hj2,K.law.stays w hl,MapKept.run_setObj_map _ hb,Result.andThen,setBlock]
   · rw [h3]
     have key:∀i y,(es.modify j fun y=>{y with key:=q.val,val:=v})[i]?=some y→∃z,es[i]?=some z∧y.key=z.key∧(i≠j→y=z):=fun i y hy=>by
      rw [Array.getElem?_modify] at hy
      split at hy
      · rename_i hi
        subst hi
        rw [hx] at hy
        simp at hy
        subst hy
        exact ⟨x,hx,hk.symm,fun h=>absurd rfl h⟩
      · exact ⟨y,hy,rfl,fun _=>rfl⟩
     refine ⟨by simp [h.size],fun i y r hy hr=>?_,fun i i' y y' hy hy' e=>?_⟩
     · by_cases hi:i=j
       · subst hi
         rw [List.getElem?_set_self (by rw [←h.size];exact hj)] at hr
         rw [Array.getElem?_modify,if_pos rfl,hx] at hy
         simp at hr hy
         subst hy
         exact ⟨q,v,hr.symm,hc,ho,rfl,rfl,hv⟩
       · rw [List.getElem?_set_ne (fun e=>hi e.symm)] at hr
         obtain ⟨z,hz,-,e⟩:=key i y hy
         rw [e hi]
         exact h.each i z r hz hr
     · obtain ⟨z,hz,e1,-⟩:=key i y hy
       obtain ⟨z',hz',e2,-⟩:=key i' y' hy'
       exact h.apart i i' z z' hz hz' (by rw [←e1,←e2,e])
end
end Ab
end Go.Proofs.YtbpihhelojjedaaDoor
namespace Go.Proofs.YtbpihhelojjedaaDoor
open Go Go.RowKit
namespace Ab
def beqV:Value→Value→Bool
 | .int k a,.int k' b=>decide (k=k')&&decide (a=b)
 | .bool a,.bool b=>a==b
 | .string a,.string b=>decide (a=b)
 | .slice none a b,.slice none c d=>a==c&&b==d
 | .pointer none,.pointer none=>true
 | .map none,.map none=>true
 | .chan none,.chan none=>true
 | .nilFunc,.nilFunc=>true
 | .nilIface,.nilIface=>true
 | _,_=>false
theorem beqV_eq {a b:Value} (h:beqV a b=true):a=b:=by
 unfold beqV at h
 split at h<;>simp_all
def beqL:List Value→List Value→Bool
 | [],[]=>true
 | a::x,b::y=>beqV a b&&beqL x y
 | _,_=>false
theorem beqL_eq:∀{a b:List Value},beqL a b=true→a=b
 | [],[],_=>rfl
 | a::x,b::y,h=>by
   simp only [beqL,Bool.and_eq_true] at h
   rw [beqV_eq h.1,beqL_eq h.2]
 | [],_::_,h=>by simp [beqL] at h
 | _::_,[],h=>by simp [beqL] at h
def aggD:TypeDesc→Bool
 | .struct _=>true
 | .array _ _=>true
 | _=>false
def partOf (P:Program) (f:Field):Nat × Nat × Bool:=(f.offset,P.cellsOf f.type,match P.underlying f.type with | some d=>aggD d | none=>false)
def ckOk (P:Program) (f:Field) (i:Nat) (c:Ck):Prop:=
 f.name≠ "_"∧f.offset=i∧match c with
  | .i k=>P.underlying f.type=some (.int k)
  | .s=>P.underlying f.type=some .string
  | .b=>P.underlying f.type=some .bool
def EqOk (P:Program) (t:TypeId) (lt:Lt):Prop:=
 ∀ ks,lt.ck=some ks→P.eqGuardType P.depth t=false∧((P.stoodInHeld t=false∧∃fs,P.underlying t=some (.struct fs)∧fs.size=ks.length∧∀(i:Nat) f c,fs[i]?=some f→ks[i]?=some c→ckOk P f i c)∨
   ∃e k i,P.underlying t=some (.array ks.length e)∧P.underlying e=some (.int k)∧P.info? e=some i∧P.cellsOf e=1∧∀c∈ks,c=.i k)
def ckB (P:Program):Nat→List Field→List Ck→Bool
 | _,[],[]=>true
 | i,f::fs,c::cs=> !(f.name== "_")&&f.offset==i&&(match c,P.underlying f.type with
   | .i k,some (.int k')=>decide (k=k')
   | .s,some .string=>true
   | .b,some .bool=>true
   | _,_=>false)&&ckB P (i+1) fs cs
 | _,_,_=>false
theorem ckB_ok {P:Program}:∀{fs:List Field} {ks:List Ck} {k:Nat},ckB P k fs ks=true→fs.length=ks.length∧∀(i:Nat) f c,fs[i]?=some f→ks[i]?=some c→ckOk P f (k+i) c
 | [],[],k,_=>⟨rfl,fun i f c h=>by simp at h⟩
 | f ::fs,c::cs,k,h=>by
   simp only [ckB,Bool.and_eq_true,Bool.not_eq_true',beq_eq_false_iff_ne,beq_iff_eq] at h
   obtain ⟨⟨⟨h1,h2⟩,h3⟩,h4⟩:=h
   obtain ⟨g1,g2⟩:=ckB_ok h4
   refine ⟨by simp [g1],fun i f' c' q1 q2=>?_⟩
   cases i with
   | zero=>
     simp at q1 q2
     subst q1
     subst q2
     refine ⟨h1,h2,?_⟩
     split at h3
     · simp at h3;subst h3;assumption
     · assumption
     · assumption
     · cases h3
   | succ i=>rw [show k+(i+1)=k+1+i by omega];exact g2 i f' c' (by simpa using q1) (by simpa using q2)
 | [],_::_,_,h=>by simp [ckB] at h
 | _::_,[],_,h=>by simp [ckB] at h
def eqB (P:Program) (t:TypeId) (lt:Lt):Bool:=
 match lt.ck with
 | none=>true
 | some ks=> !P.eqGuardType P.depth t&&(match P.underlying t with
   | some (.struct fs)=> !P.stoodInHeld t&&ckB P 0 fs.toList ks
   | some (.array n e)=>n==ks.length&&(match P.underlying e,P.info? e with
     | some (.int k),some _=>P.cellsOf e==1&&ks.all fun c=>match c with
       | .i k'=>decide (k'=k)
       | _=>false
     | _,_=>false)
   | _=>false)
theorem eqB_ok {P:Program} {t:TypeId} {lt:Lt} (h:eqB P t lt=true):EqOk P t lt:=by
 intro ks hk
 unfold eqB at h
 rw [hk] at h
 simp only [Bool.and_eq_true,Bool.not_eq_true'] at h
 obtain ⟨h2,h3⟩:=h
 refine ⟨h2,?_⟩
 split at h3
 · rename_i fs hfs
   simp only [Bool.and_eq_true,Bool.not_eq_true'] at h3
   obtain ⟨h1,h3⟩:=h3
   obtain ⟨g1,g2⟩:=ckB_ok h3
   exact .inl ⟨h1,fs,hfs,by simpa using g1,fun i f c q1 q2=>by have:=g2 i f c (by simpa using q1) q2;rwa [Nat.zero_add] at this⟩
 · rename_i n e hn
   simp only [Bool.and_eq_true,beq_iff_eq] at h3
   obtain ⟨rfl,h3⟩:=h3
   split at h3
   · rename_i k i hk' hi
     simp only [Bool.and_eq_true,beq_iff_eq] at h3
     refine .inr ⟨e,k,i,hn,hk',hi,h3.1,fun c hc=>?_⟩
     have:=List.all_eq_true.1 h3.2 c hc
     split at this
     · rw [of_decide_eq_true this]
     · cases this
   · cases h3
 · cases h3
def KindOk (P:Program) (lt:Lt) (d:TypeDesc):Prop:=
 (lt.kind=1→∃fs,d=.struct fs∧fs.toList.map (partOf P)=lt.parts∧∀f∈fs,(∃i,P.info? f.type=some i)∧∃d,P.underlying f.type=some d)∧
 (lt.kind=2→d=.array lt.len lt.elem)∧
 (lt.kind=3→d=.slice lt.elem)∧
 (lt.kind=4→d=.string)∧
 (aggD d=true↔(lt.kind=1∨lt.kind=2))∧
 (∀k,lt.ik=some k→d=.int k)∧
 (lt.ik=none→∀k,d≠.int k)∧
 (lt.kind=7→∃kt,d=.map kt lt.elem∧KeyOk P kt lt.len)∧
 (lt.kind=5→d=.bool)
def LtOk (P:Program) (t:TypeId) (lt:Lt):Prop:=
 ∃ info d z,P.info? t=some info∧P.underlying t=some d∧info.size=lt.size∧info.bytes=lt.bytes∧info.zero=some z∧z.cells.toList=lt.zero∧
   (∀v∈lt.zero,oneV v=true)∧lt.zero.length=lt.size∧KindOk P lt d∧EqOk P t lt∧∀k,lt.ik=some k→oneV z=true
def LayOk (P:Program) (L:TypeId→Option Lt):Prop:=∀t lt,L t=some lt→LtOk P t lt
def partsB:List (Nat × Nat × Bool)→List (Nat × Nat × Bool)→Bool
 | [],[]=>true
 | (a,b,c)::x,(d,e,f)::y=>a==d&&b==e&&c==f&&partsB x y
 | _,_=>false
theorem partsB_eq:∀{a b:List (Nat × Nat × Bool)},partsB a b=true→a=b
 | [],[],_=>rfl
 | (a,b,c)::x,(d,e,f)::y,h=>by
   simp only [partsB,Bool.and_eq_true,beq_iff_eq] at h
   obtain ⟨⟨⟨rfl,rfl⟩,rfl⟩,h⟩:=h
   rw [partsB_eq h]
 | [],_::_,h=>by simp [partsB] at h
 | _::_,[],h=>by simp [partsB] at h
def kindB (P:Program) (lt:Lt) (d:TypeDesc):Bool:=
 match d with
 | .struct fs=>lt.kind==1&&lt.ik.isNone&&partsB (fs.toList.map (partOf P)) lt.parts&&fs.all fun f=>(P.info? f.type).isSome&&(P.underlying f.type).isSome
 | .array n e=>lt.kind==2&&lt.ik.isNone&&n==lt.len&&e==lt.elem
 | .slice e=>lt.kind==3&&lt.ik.isNone&&e==lt.elem
 | .string=>lt.kind==4&&lt.ik.isNone
 | .bool=>lt.kind==5&&lt.ik.isNone
 | .int k=>lt.kind==0&&(match lt.ik with | some j=>decide (j=k) | none=>false)
 | .map kt e=>lt.ik.isNone&&(lt.kind==0||lt.kind==7&&e==lt.elem&&keyB P kt lt.len)
 | _=>lt.kind==0&&lt.ik.isNone
theorem kindB_ok {P:Program} {lt:Lt} {d:TypeDesc} (h:kindB P lt d=true):KindOk P lt d:=by
 unfold kindB at h
 unfold KindOk
 split at h
 · rename_i fs
   simp only [Bool.and_eq_true,beq_iff_eq,Option.isNone_iff_eq_none,Array.all_eq_true_iff_forall_mem,Option.isSome_iff_exists] at h
   obtain ⟨⟨⟨h1,h2⟩,h3⟩,h4⟩:=h
   refine ⟨fun _=>⟨fs,rfl,partsB_eq h3,h4⟩,?_,?_,?_,?_,?_,?_,?_,?_⟩<;>simp_all [aggD]
 · simp only [Bool.and_eq_true,beq_iff_eq,Option.isNone_iff_eq_none] at h
   obtain ⟨⟨⟨h1,h2⟩,h3⟩,h4⟩:=h
   refine ⟨?_,?_,?_,?_,?_,?_,?_,?_,?_⟩<;>simp_all [aggD]
 · simp only [Bool.and_eq_true,beq_iff_eq,Option.isNone_iff_eq_none] at h
   obtain ⟨⟨h1,h2⟩,h3⟩:=h
   refine ⟨?_,?_,?_,?_,?_,?_,?_,?_,?_⟩<;>simp_all [aggD]
 · simp only [Bool.and_eq_true,beq_iff_eq,Option.isNone_iff_eq_none] at h
   refine ⟨?_,?_,?_,?_,?_,?_,?_,?_,?_⟩<;>simp_all [aggD]
 · simp only [Bool.and_eq_true,beq_iff_eq,Option.isNone_iff_eq_none] at h
   refine ⟨?_,?_,?_,?_,?_,?_,?_,?_,?_⟩<;>simp_all [aggD]
 · simp only [Bool.and_eq_true,beq_iff_eq] at h
   obtain ⟨h1,h2⟩:=h
   cases hk:lt.ik with
   | none=>rw [hk] at h2;simp at h2
   | some j=>
     rw [hk] at h2
     simp only [decide_eq_true_eq] at h2
     subst h2
     refine ⟨?_,?_,?_,?_,?_,?_,?_,?_,?_⟩<;>simp_all [aggD]
 · rename_i kt e
   simp only [Bool.and_eq_true,Bool.or_eq_true,beq_iff_eq,Option.isNone_iff_eq_none] at h
   obtain ⟨h1,h2⟩:=h
   refine ⟨?_,?_,?_,?_,?_,?_,?_,?_,?_⟩
   · intro e;omega
   · intro e;omega
   · intro e;omega
   · intro e;omega
   · constructor
     · intro e;cases e
     · omega
   · simp_all
   · intro _ k e;cases e
   · intro e
     rcases h2 with h2 | h2
     · omega
     · obtain ⟨⟨-,rfl⟩,h3⟩:=h2
       exact ⟨kt,rfl,keyB_ok h3⟩
   · intro e;omega
 · rename_i hs ha hl hst hbo hi hm
   simp only [Bool.and_eq_true,beq_iff_eq,Option.isNone_iff_eq_none] at h
   refine ⟨?_,?_,?_,?_,?_,?_,?_,?_,?_⟩
   · intro e;omega
   · intro e;omega
   · intro e;omega
   · intro e;omega
   · cases d<;>simp_all [aggD]
   · simp_all
   · intro _ k e;exact hi k e
   · intro e;omega
   · intro e;omega
def ltB (P:Program) (t:TypeId) (lt:Lt):Bool:=
 match P.info? t,P.underlying t with
 | some info,some d=>info.size==lt.size&&info.bytes==lt.bytes&&(match info.zero with | some z=>beqL z.cells.toList lt.zero&&(lt.ik.isNone||oneV z) | none=>false)&&lt.zero.all oneV&&lt.zero.length==lt.size&&kindB P lt d&&eqB P t lt
 | _,_=>false
theorem ltB_ok {P:Program} {t:TypeId} {lt:Lt} (h:ltB P t lt=true):LtOk P t lt:=by
 unfold ltB at h
 split at h
 · rename_i info d hi hd
   simp only [Bool.and_eq_true,beq_iff_eq,List.all_eq_true] at h
   obtain ⟨⟨⟨⟨⟨⟨h1,h2⟩,h3⟩,h4⟩,h5⟩,h6⟩,h7⟩:=h
   split at h3
   · rename_i z hz
     simp only [Bool.and_eq_true,Bool.or_eq_true] at h3
     exact ⟨info,d,z,hi,hd,h1,h2,hz,beqL_eq h3.1,h4,h5,kindB_ok h6,eqB_ok h7,fun k hk=>by
      rcases h3.2 with h | h
      · rw [hk] at h;cases h
      · exact h⟩
   · cases h3
 · cases h
theorem blt_no {n t:Nat} (h:n≤t):Nat.blt t n=false:=by
 cases hb:Nat.blt t n with
 | false=>rfl
 | true=>have:=Nat.le_of_ble_eq_true hb;omega
def layB (P:Program) (L:TypeId→Option Lt):Nat→Bool
 | 0=>true
 | n+1=>(match L n with
   | none=>true
   | some lt=>ltB P n lt)&&layB P L n
theorem layB_ok {P:Program} {L:TypeId→Option Lt}:∀n,layB P L n=true→∀t,t<n→∀lt,L t=some lt→LtOk P t lt
 | 0,_,t,h=>by omega
 | n +1,hb,t,h=>by
   simp only [layB,Bool.and_eq_true] at hb
   intro lt ht
   by_cases e:t=n
   · subst e
     rw [ht] at hb
     exact ltB_ok hb.1
   · exact layB_ok n hb.2 t (by omega) lt ht
theorem layOk_fn {P:Program} (n:Nat) (L:TypeId→Option Lt) (hn:∀t,n≤t→L t=none) (h:layB P L n=true):LayOk P L:=fun t lt ht=>by
 rcases Nat.lt_or_ge t n with hl | hl
 · exact layB_ok n h t hl lt ht
 · rw [hn t hl] at ht;cases ht
end Ab
end Go.Proofs.YtbpihhelojjedaaDoor
namespace Go.Proofs.YtbpihhelojjedaaDoor
open Go Go.RowKit
namespace Ab
def tabs:List (Nat × List Value):=[(0,Lib.deBruijn64tab.map fun n=>.int .u8 (Int.ofNat n))]
def opn:List (Nat × Bool):=[]
def opnIs (b:Bool) (v:Value):Prop:=match b with
 | true=>∃m,v=.int .i64 m
 | false=>v=.nilIface∨∃t u,v=.iface t u
def whl:List (Nat × List Value):=[]
def Tab (G:Nat→Prop) (w:World):Prop:=(∀p∈tabs,G p.1∧∀(j:Nat) v,p.2[j]?=some v→w.cell? ⟨p.1,j,none⟩=some v)∧(∀p∈opn,G p.1∧∃v,w.cell? ⟨p.1,0,none⟩=some v∧opnIs p.2 v)∧∀p∈whl,G p.1∧∃t fr,w.heap[p.1]?=some (.cells p.2.toArray t fr)
end Ab
end Go.Proofs.YtbpihhelojjedaaDoor
namespace Go.Proofs.YtbpihhelojjedaaDoor
open Go Go.RowKit
namespace Ab
inductive TRep (G:Nat→Prop) (w:World):T→Value→Prop
 | flat (v:Value) (h:oneV v=true):TRep G w (.flat v) v
 | slc (rows:Rows) (a:Option Addr) (b o es cap:Nat) (u:Nat→Nat→Value) (hcap:rows.length≤cap) (hnil:a=none→cap=0)
  (ha:rows≠[]→a=some ⟨b,o,none⟩∧G b)
  (hes:∀row∈rows,row.length=es)
  (hc:∀(i j:Nat) (t:T),(rows[i]?).bind (fun r=>r[j]?)=some t→w.cell? ⟨b,o+(i*es+j),none⟩=some (u i j))
  (hr:∀(i j:Nat) (t:T),(rows[i]?).bind (fun r=>r[j]?)=some t→TRep G w t (u i j)):TRep G w (.slc rows) (.slice a rows.length cap)
inductive Blk where
 | nil (z:Bool)
 | at (b cap es len:Nat)
structure Cx where
 at_:Nat→Option Blk
 G:Nat→Prop
inductive VRep (cx:Cx) (w:World):V→Value→Prop
 | t (x:T) (v:Value) (h:TRep cx.G w x v):VRep cx w (.t x) v
 | agg (cs:List V) (vs:Array Value) (hn:vs.size=cs.length) (hc:∀c∈cs,c.cellB=true)
  (hr:∀(i:Nat) (c:V) (u:Value),cs[i]?=some c→vs[i]?=some u→VRep cx w c u):VRep cx w (.agg cs) (.agg vs)
 | tup (cs:List V) (vs:Array Value) (hn:vs.size=cs.length)
  (hr:∀(i:Nat) (c:V) (u:Value),cs[i]?=some c→vs[i]?=some u→VRep cx w c u):VRep cx w (.tup cs) (.tuple vs)
 | lstN (id:Nat) (a:Option Addr) (z:Bool) (h:cx.at_ id=some (.nil z)) (hz:z=true→a=none):VRep cx w (.lst id) (.slice a 0 0)
 | lst (id b cap es len:Nat) (h:cx.at_ id=some (.at b cap es len)):VRep cx w (.lst id) (.slice (some ⟨b,0,none⟩) len cap)
 | ptr (id off b cap es len:Nat) (h:cx.at_ id=some (.at b cap es len)):VRep cx w (.ptr id off) (.pointer (some ⟨b,off,none⟩))
 | elt (id:Nat) (row:Int) (off b cap es len:Nat) (h:cx.at_ id=some (.at b cap es len)):VRep cx w (.elt id row off) (.pointer (some ⟨b,row.toNat*es+off,none⟩))
 | win (id:Nat) (lo:Int) (b cap es len:Nat) (h:cx.at_ id=some (.at b cap es len)):VRep cx w (.win id lo) (.slice (some ⟨b,if cap=lo.toNat then 0 else lo.toNat*es,none⟩) (len-lo.toNat) (cap-lo.toNat))
 | pre (id:Nat) (n:Int) (b cap es len:Nat) (h:cx.at_ id=some (.at b cap es len)):VRep cx w (.pre id n) (.slice (some ⟨b,0,none⟩) n.toNat cap)
 | mp (id b cap es len:Nat) (h:cx.at_ id=some (.at b cap es len)):VRep cx w (.mp id) (.map (some b))
 | ipt (cells:List T) (off b o:Nat) (u:Nat→Value) (hG:cx.G b) (hc:∀(j:Nat) (t:T),cells[j]?=some t→w.cell? ⟨b,o+j,none⟩=some (u j))
  (hr:∀(j:Nat) (t:T),cells[j]?=some t→TRep cx.G w t (u j)):VRep cx w (.ipt cells off) (.pointer (some ⟨b,o+off,none⟩))
 | fn (f:FuncId) (cs:List V) (vs:Array Value) (hn:vs.size=cs.length)
  (hr:∀(i:Nat) (c:V) (u:Value),cs[i]?=some c→vs[i]?=some u→VRep cx w c u):VRep cx w (.fn f cs) (.func (.func f) #[] vs)
 | ifc (t:TypeId) (v:V) (u:Value) (h:VRep cx w v u):VRep cx w (.ifc t v) (.iface t u)
 | junk (v:Value):VRep cx w .junk v
def Same (G:Nat→Prop) (w w':World):Prop:=∀b,G b→w'.heap[b]?=w.heap[b]?
theorem Same.cell {G:Nat→Prop} {w w':World} (h:Same G w w') {b o:Nat} (hb:G b):w'.cell? ⟨b,o,none⟩=w.cell? ⟨b,o,none⟩:=World.cell?_of_block (w:=w) (h b hb)
theorem Same.refl (G:Nat→Prop) (w:World):Same G w w:=fun _ _=>rfl
theorem TRep.mono {G G':Nat→Prop} {w w':World} {x:T} {v:Value} (h:TRep G w x v) (hs:Same G w w') (hg:∀b,G b→G' b):TRep G' w' x v:=by
 induction h with
 | flat v h=>exact .flat v h
 | slc rows a b o es cap u hcap hnil ha hes hc hr ih=>
   refine .slc rows a b o es cap u hcap hnil (fun hne=>⟨(ha hne).1,hg _ (ha hne).2⟩) hes (fun i j t ht=>?_) ih
   have hne:rows≠[]:=by rintro rfl;simp at ht
   rw [hs.cell (ha hne).2]
   exact hc i j t ht
structure Cx.le (cx cx':Cx):Prop where
 at_:∀id B,cx.at_ id=some B→cx'.at_ id=some B
 G:∀b,cx.G b→cx'.G b
theorem Cx.le.refl (cx:Cx):cx.le cx:=⟨fun _ _ h=>h,fun _ h=>h⟩
theorem VRep.mono {cx cx':Cx} {w w':World} {x:V} {v:Value} (h:VRep cx w x v) (hs:Same cx.G w w') (hc:cx.le cx'):VRep cx' w' x v:=by
 induction h with
 | t x v h=>exact .t x v (h.mono hs hc.G)
 | agg cs vs hn hcb hr ih=>exact .agg cs vs hn hcb ih
 | tup cs vs hn hr ih=>exact .tup cs vs hn ih
 | lstN id a z h hz=>exact .lstN id a z (hc.at_ _ _ h) hz
 | lst id b cap es len h=>exact .lst id b cap es len (hc.at_ _ _ h)
 | ptr id off b cap es len h=>exact .ptr id off b cap es len (hc.at_ _ _ h)
 | elt id row off b cap es len h=>exact .elt id row off b cap es len (hc.at_ _ _ h)
 | win id lo b cap es len h=>exact .win id lo b cap es len (hc.at_ _ _ h)
 | mp id b cap es len h=>exact .mp id b cap es len (hc.at_ _ _ h)
 | pre id n b cap es len h=>exact .pre id n b cap es len (hc.at_ _ _ h)
 | ipt cells off b o u hG hcell hr=>exact .ipt cells off b o u (hc.G _ hG) (fun j t h=>by rw [hs.cell hG];exact hcell j t h) (fun j t h=>(hr j t h).mono hs hc.G)
 | fn f cs vs hn hr ih=>exact .fn f cs vs hn ih
 | ifc t v u h ih=>exact .ifc t v u ih
 | junk v=>exact .junk v
def VReps (cx:Cx) (w:World) (cs:List V) (vs:Array Value):Prop:=vs.size=cs.length∧∀(i:Nat) (c:V) (u:Value),cs[i]?=some c→vs[i]?=some u→VRep cx w c u
theorem VReps.mono {cx cx':Cx} {w w':World} {cs:List V} {vs:Array Value} (h:VReps cx w cs vs) (hs:Same cx.G w w') (hc:cx.le cx'):VReps cx' w' cs vs:=
 ⟨h.1,fun i c u h1 h2=>(h.2 i c u h1 h2).mono hs hc⟩
theorem VRep.one {cx:Cx} {w:World} {x:V} {v:Value} (h:VRep cx w x v) (hc:x.cellB=true):oneV v=true∧v.cells=#[v]∧x.cells=[x]:=by
 cases h with
 | t x v h=>
   cases h with
   | flat v h=>cases v<;>simp_all [oneV,Value.cells,V.cells]
   | slc=>exact ⟨rfl,rfl,rfl⟩
 | agg=>simp [V.cellB] at hc
 | tup=>simp [V.cellB] at hc
 | junk=>simp [V.cellB] at hc
 | _=>exact ⟨rfl,rfl,rfl⟩
theorem VRep.cells {cx:Cx} {w:World} {x:V} {v:Value} (h:VRep cx w x v) (hc:x.cells.all V.cellB=true):VReps cx w x.cells v.cells∧∀u∈v.cells,oneV u=true:=by
 cases hx:x with
 | agg cs=>
   subst hx
   cases h with
   | agg cs vs hn hcb hr=>
     refine ⟨⟨hn,hr⟩,fun u hu=>?_⟩
     obtain ⟨i,hi,rfl⟩:=Array.mem_iff_getElem.1 hu
     have hi':i<vs.size:=hi
     have h1:cs[i]?=some (cs[i]'(by omega)):=List.getElem?_eq_getElem (by omega)
     exact ((hr i _ _ h1 (Array.getElem?_eq_getElem hi')).one (hcb _ (List.getElem_mem _))).1
 | _ =>
   subst hx
   have hc':=hc
   simp only [V.cells,List.all_cons,List.all_nil,Bool.and_true] at hc'
   obtain ⟨h1,h2,-⟩:=h.one hc'
   rw [h2]
   refine ⟨⟨rfl,fun i c u h3 h4=>?_⟩,fun u hu=>?_⟩
   · cases i with
     | zero=>
       simp [V.cells] at h3 h4
       subst h3
       subst h4
       exact h
     | succ i=>simp [V.cells] at h3
   · simp at hu
     subst hu
     exact h1
inductive RowRep (cx:Cx) (w:World) (id:Nat):Row→Prop
 | box (ty:TypeId) (cs:List V) (b:Nat) (vs:Array Value) (hat:cx.at_ id=some (.at b 1 cs.length 1)) (hb:w.heap[b]?=some (.cells vs ty (0,0)))
  (hG:¬ cx.G b) (hr:VReps cx w cs vs):RowRep cx w id (.box ty cs)
 | listN (ty es:Nat) (z:Bool) (hat:cx.at_ id=some (.nil z)) (hz:z=false→ty≠byteT):RowRep cx w id (.list ty es [])
 | list (ty es:Nat) (rows:Rows) (b cap:Nat) (vs:Array Value) (hat:cx.at_ id=some (.at b cap es rows.length)) (hb:w.heap[b]?=some (.cells vs ty (0,0)))
  (hG:¬ cx.G b) (hcap:rows.length≤cap) (hmax:cap≤maxLen) (hsz:vs.size=cap*es) (hes:∀row∈rows,row.length=es)
  (hr:∀(i j:Nat) (t:T),(rows[i]?).bind (fun r=>r[j]?)=some t→∃u,vs[i*es+j]?=some u∧TRep cx.G w t u):RowRep cx w id (.list ty es rows)
 | iter (s:ByteArray) (pos:Int) (b:Nat) (hat:cx.at_ id=some (.at b 0 0 0)) (hb:w.heap[b]?=some (.stringIter s pos.toNat)) (hG:¬ cx.G b) (h0:0≤pos):RowRep cx w id (.iter s pos)
 | map (c:Nat) (rows:Rows) (b:Nat) (es:Array MapEntry) (clock:Nat) (hat:cx.at_ id=some (.at b 0 0 0)) (hb:w.heap[b]?=some (.map es clock)) (hG:¬ cx.G b) (he:Ents c rows es):RowRep cx w id (.map c rows)
 | hole (ty:Nat) (rows:Rows) (r:Int) (kid:Option Nat) (b cap:Nat) (vs:Array Value) (hat:cx.at_ id=some (.at b cap 1 rows.length)) (hb:w.heap[b]?=some (.cells vs ty (0,0)))
  (hG:¬ cx.G b) (hcap:rows.length≤cap) (hmax:cap≤maxLen) (hsz:vs.size=cap) (hes:∀row∈rows,row.length=1) (hlt:r.toNat<rows.length)
  (hr:∀(i:Nat) (t:T),i≠r.toNat→rows[i]?=some [t]→∃u,vs[i]?=some u∧TRep cx.G w t u)
  (hk:∀k,kid=some k→∃u,vs[r.toNat]?=some u∧VRep cx w (.lst k) u):RowRep cx w id (.hole ty rows r kid)
theorem Tab.mono {G G':Nat→Prop} {w w':World} (h:Tab G w) (hs:Same G w w') (hg:∀b,G b→G' b):Tab G' w':=⟨fun p hp=>
 ⟨hg _ (h.1 p hp).1,fun j v hv=>by rw [hs.cell (h.1 p hp).1];exact (h.1 p hp).2 j v hv⟩,fun g hm=>
 ⟨hg _ (h.2.1 g hm).1,by obtain ⟨m,e,q⟩:=(h.2.1 g hm).2;exact ⟨m,by rw [hs.cell (h.2.1 g hm).1];exact e,q⟩⟩,fun p hp=>
 ⟨hg _ (h.2.2 p hp).1,by obtain ⟨t,fr,e⟩:=(h.2.2 p hp).2;exact ⟨t,fr,by rw [hs _ (h.2.2 p hp).1];exact e⟩⟩⟩
structure Run where
 w:World
 M:Nat→Prop
 G:Nat→Prop
 pin:Nat→Option Blk
 n:Nat
 pan:V→St→Prop
 D:List Deferred
structure HRep (cx:Cx) (heap:List (Option Row)) (w:World):Prop where
 row:∀(id:Nat) r,heap[id]?=some (some r)→RowRep cx w id r
 inj:∀(id id':Nat) r r' (b cap es len cap' es' len':Nat),heap[id]?=some (some r)→heap[id']?=some (some r')→cx.at_ id=some (.at b cap es len)→cx.at_ id'=some (.at b cap' es' len')→id=id'
 dom:∀id,heap.length≤id→cx.at_ id=none
structure Kept (A:Run) (cx:Cx) (heap:List (Option Row)) (w:World):Prop where
 os:w.os=A.w.os
 tape:w.tape=A.w.tape
 output:w.output=A.w.output
 size:A.w.heap.size≤w.heap.size
 block:∀b,b<A.w.heap.size→¬ A.M b→w.heap[b]?=A.w.heap[b]?
 live:∀(id:Nat) r b cap es len,heap[id]?=some (some r)→cx.at_ id=some (.at b cap es len)→A.M b∨A.w.heap.size≤b
 G0:∀b,A.G b→cx.G b
 G1:∀b,cx.G b→b<w.heap.size
 G2:∀b,cx.G b→A.G b∨A.M b∨A.w.heap.size≤b
 pin:∀id B,A.pin id=some B→cx.at_ id=some B∧id<A.n
 base:A.n≤heap.length
 tab:Tab cx.G w
structure Rel (A:Run) (cx:Cx) (s:St) (a:Act) (w:World):Prop where
 tm:VReps cx w s.tmps a.tmps
 df:a.defers=A.D
 hp:HRep cx s.heap w
 kp:Kept A cx s.heap w
 bs:s.base=A.n
end Ab
end Go.Proofs.YtbpihhelojjedaaDoor
