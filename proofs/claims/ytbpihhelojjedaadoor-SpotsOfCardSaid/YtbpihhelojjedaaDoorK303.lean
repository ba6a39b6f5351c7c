/- Texts that the proof leans on. -/
import Derived.Test.YtbpihhelojjedaaDoorK302
set_option linter.unusedVariables false
set_option linter.unusedSimpArgs false
set_option maxRecDepth 100000
set_option maxHeartbeats 4000000
namespace Go.Proofs.YtbpihhelojjedaaDoor
open Go Go.RowKit
namespace Ab
def V.closedB:V→Bool
 | .t _=>true
 | .ipt _ _=>true
 | .agg cs=>allC cs
 | .tup cs=>allC cs
 | .fn _ cs=>allC cs
 | .ifc _ v=>V.closedB v
 | .junk=>true
 | _=>false
where allC:List V→Bool
 | []=>true
 | v::r=>V.closedB v&&allC r
def Cx.none (G:Nat→Prop):Cx:=⟨fun _=>Option.none,G⟩
def Callable (P:Program) (f:FuncId):Prop:=∀args w,(callFunc f args).run P w=.ok (.enter f args) w
def Fun (P:Program) (f:FuncId) (args:List V) (v:V):Prop:=
 Callable P f∧∀(G:Nat→Prop) (w:World) (cargs:Array Value),(∀b,G b→b<w.heap.size)→Tab G w→VReps (Cx.none G) w args cargs→
  Calls P f cargs w fun e w'=>∃u,e=.returned u∧Below w.heap.size w w'∧VRep (Cx.none fun b=>G b∨(w.heap.size≤b∧b<w'.heap.size)) w' v u
def Thr (P:Program) (f:FuncId) (args:List V) (v:V):Prop:=
 Callable P f∧∀(G:Nat→Prop) (w:World) (cargs:Array Value),(∀b,G b→b<w.heap.size)→Tab G w→VReps (Cx.none G) w args cargs→
  Calls P f cargs w fun e w'=>∃u,e=.panicked [{v:=u,recovered:=false}]∧Below w.heap.size w w'∧VRep (Cx.none fun b=>G b∨(w.heap.size≤b∧b<w'.heap.size)) w' v u
inductive Out where
 | ret (v:V) (cells:List V)
 | pan (v:V)
structure BelowBut (b:Nat) (w w':World):Prop where
 os:w'.os=w.os
 tape:w'.tape=w.tape
 output:w'.output=w.output
 size:w.heap.size≤w'.heap.size
 other:∀k,k<w.heap.size→k≠b→w'.heap[k]?=w.heap[k]?
def Meth (P:Program) (f:FuncId) (ty:TypeId) (cells args:List V) (o:Out):Prop:=
 Callable P f∧∀(G:Nat→Prop) (w:World) (b:Nat) (vs cargs:Array Value),(∀c,G c→c<w.heap.size)→Tab G w→¬ G b→w.heap[b]?=some (.cells vs ty (0,0))→VReps (Cx.none G) w cells vs→VReps (Cx.none G) w args cargs→
  Calls P f (#[.pointer (some ⟨b,0,none⟩)]++cargs) w fun e w'=>BelowBut b w w'∧∃u vs',w'.heap[b]?=some (.cells vs' ty (0,0))∧vs'.size=vs.size∧match o with
   | .ret v cells'=>e=.returned u∧VReps (Cx.none fun c=>G c∨(w.heap.size≤c∧c<w'.heap.size)) w' cells' vs'∧VRep (Cx.none fun c=>G c∨(w.heap.size≤c∧c<w'.heap.size)) w' v u
   | .pan v=>e=.panicked [{v:=u,recovered:=false}]∧VRep (Cx.none fun c=>G c∨(w.heap.size≤c∧c<w'.heap.size)) w' v u
def FunL (P:Program) (f:FuncId) (args:List V) (ty es:Nat) (rows:Rows):Prop:=
 Callable P f∧∀(G:Nat→Prop) (w:World) (cargs:Array Value),(∀b,G b→b<w.heap.size)→Tab G w→VReps (Cx.none G) w args cargs→
  Calls P f cargs w fun e w'=>Below w.heap.size w w'∧∃(cx:Cx) (u:Value),e=.returned u∧(∀b,cx.G b→G b∨(w.heap.size≤b∧b<w'.heap.size))∧(∀b,G b→cx.G b)∧VRep cx w' (.lst 0) u∧RowRep cx w' 0 (.list ty es rows)∧∀b cap es len,cx.at_ 0=some (.at b cap es len)→w.heap.size≤b
def at0 (B:Blk):Nat→Option Blk:=fun i=>if i=0 then some B else none
def MethL (P:Program) (f:FuncId) (ty es:Nat) (rows:Rows) (args:List V) (v:V) (rows':Rows):Prop:=
 Callable P f∧∀(G:Nat→Prop) (w:World) (b cap:Nat) (cargs:Array Value),(∀c,G c→c<w.heap.size)→Tab G w→RowRep ⟨at0 (.at b cap es rows.length),G⟩ w 0 (.list ty es rows)→VReps (Cx.none G) w args cargs→
  Calls P f (#[.slice (some ⟨b,0,none⟩) rows.length cap]++cargs) w fun e w'=>BelowBut b w w'∧∃u,e=.returned u∧rows'.length=rows.length∧RowRep ⟨at0 (.at b cap es rows.length),fun c=>G c∨(w.heap.size≤c∧c<w'.heap.size)⟩ w' 0 (.list ty es rows')∧VRep (Cx.none fun c=>G c∨(w.heap.size≤c∧c<w'.heap.size)) w' v u
def exRel:Exit→Ex→Prop
 | .normal,.normal=>True
 | .exit i,.exit j=>i=j
 | .goto i,.goto j=>i=j
 | .ret,.ret=>True
 | _,_=>False
def PanAt (A:Run) (a:Act) (ch:List PanicEntry) (w:World):Prop:=∃v u s cx,ch=[{v:=u,recovered:=false}]∧v.closedB=true∧A.pan v s∧VRep cx w v u∧Rel A cx s a w
def Post (A:Run) (Q:Ex→St→Prop) (e:Exit) (a:Act) (w:World):Prop:=(∃e' s cx,exRel e e'∧Q e' s∧Rel A cx s a w)∨∃ch,e=.panic ch∧PanAt A a ch w
def AW (P:Program) (A:Run) (c:Code) (s:St) (Q:Ex→St→Prop):Prop:=∀cx a w,Rel A cx s a w→c.wp P (Post A Q) a w
def CallA (P:Program) (A:Run) (f:FuncId) (args:List V) (s:St) (K:V→St→Prop):Prop:=
 Callable P f∧∀cx a w cargs,Rel A cx s a w→VReps cx w args cargs→
  Calls P f cargs w fun e w'=>(∃u v s' cx',e=.returned u∧K v s'∧VRep cx' w' v u∧Rel A cx' s' a w')∨∃ch,e=.panicked ch∧PanAt A a ch w'
def PureOp (P:Program) (run:Value→Sem Value) (x:V) (k:V→Prop):Prop:=∃r,k r∧∀(cx:Cx) (w:World) (u:Value),VRep cx w x u→∃v,(run u).run P w=.ok v w∧VRep cx w r v
def InvA (P:Program) (A:Run) (m:String) (r:V) (args:List V) (s:St) (K:V→St→Prop):Prop:=
 ∃f r',(∀(cx:Cx) (w:World) (u:Value),VRep cx w r u→∃u',(∀cargs,(callMethod u m cargs).run P w=(callFunc f (#[u']++cargs)).run P w)∧VRep cx w r' u')∧CallA P A f (r'::args) s K
def arF (op:BinOp) (k:IntKind) (x y:Int):Int:=
 match op with
 | .add=>k.wrap (x+y)
 | .sub=>k.wrap (x-y)
 | .mul=>k.wrap (x*y)
 | .quo=>k.wrap (x.tdiv y)
 | .rem=>x.tmod y
 | .and=>k.wrap (BitVec.ofInt k.bits x&&& BitVec.ofInt k.bits y).toNat
 | .or=>k.wrap (BitVec.ofInt k.bits x||| BitVec.ofInt k.bits y).toNat
 | .xor=>k.wrap (BitVec.ofInt k.bits x ^^^ BitVec.ofInt k.bits y).toNat
 | .andNot=>k.wrap (BitVec.ofInt k.bits x&&& ~~~(BitVec.ofInt k.bits y)).toNat
 | .shl=>k.wrap (x*2 ^ (min y.toNat k.bits))
 | .shr=>x.fdiv (2 ^ (min y.toNat k.bits))
 | _=>0
def cmpF (op:BinOp) (x y:Int):Bool:=
 match op with
 | .eql=>x==y
 | .neq=>x != y
 | .lss=>decide (x<y)
 | .leq=>decide (x≤y)
 | .gtr=>decide (x>y)
 | .geq=>decide (x≥y)
 | _=>false
def scmpF (op:BinOp) (x y:ByteArray):Bool:=
 match op with
 | .eql=>x.toList==y.toList
 | .neq=> !(x.toList==y.toList)
 | .lss=>Op.bytesLess x.toList y.toList
 | .leq=>Op.bytesLess x.toList y.toList||x.toList==y.toList
 | .gtr=> !(Op.bytesLess x.toList y.toList||x.toList==y.toList)
 | .geq=> !Op.bytesLess x.toList y.toList
 | _=>false
def dom (P:Program) (A:Run):Env where
 ar:=arF
 cmp:=cmpF
 conj:=fun l=>l.all id
 ne0:=fun y=>y≠0
 ge0:=fun y=>0≤y
 conv:=fun k n=>k.wrap n
 slen:=fun s=>s.size
 scmp:=scmpF
 cat:=fun x y=>x++y
 catok:=fun x y=>x.size+y.size≤maxLen
 sat:=fun s n=>(s.data.getD n.toNat 0).toNat
 sin:=fun s n=>0≤n∧n<s.size
 ssub:=fun s l h=>s.extract l.toNat h.toNat
 ssin:=fun s l h=>0≤l∧l≤h∧h≤s.size
 llen:=fun rows=>rows.length
 row:=fun rows n k=>∃r,0≤n∧rows[n.toNat]?=some r∧k r
 lsub:=fun rows l h=>(rows.take h.toNat).drop l.toNat
 lsin:=fun rows l h es=>0≤l∧l≤h∧h≤rows.length∧∀row∈rows,row.length=es
 lset:=fun rows n r=>rows.set n.toNat r
 lapp:=fun a b=>a++b
 lzero:=fun n r=>List.replicate n.toNat r
 room:=fun a b es bytes=>(∀row∈b,row.length=es)∧a.length+b.length≤maxLen∧(a.length+b.length)*bytes≤2 ^ 47
 roomz:=fun n m bytes=>n=m∧0≤n∧n≤2 ^ 40∧(bytes:Int)*n≤2 ^ 47
 ifb:=fun b p q=>(b=true→p ())∧(b=false→q ())
 pcall:=fun f args k=>args.all V.closedB=true∧∃v,Fun P f args v∧k v
 call:=CallA P A
 draw:=fun ops s K=>∀id,AW P A (.region id ops.toArray true) s fun e s'=>e=.normal∧K s'
 other:=AW P A
 mki:=fun xt x k=>PureOp P (Instr.makeInterface xt) x k
 asrt:=fun xt at_ ok x k=>PureOp P (fun u=>Instr.typeAssert u xt at_ ok) x k
 inv:=InvA P A
 pan:=fun v t=>v.closedB=true∧A.pan v t
 nxt:=fun s p y n=>(p.toNat<s.size→y (p+(Utf8.decode s p.toNat).2) (Utf8.decode s p.toNat).1)∧(¬ p.toNat<s.size→n ())
 imin:=fun a b=>if b<a then b else a
 imax:=fun a b=>if b>a then b else a
 brows:=fun s=>s.data.toList.map fun b=>[.flat (.int .u8 b.toNat)]
 bstr:=fun rows=>⟨(rows.map fun r=>match r with | [.flat (.int .u8 n)]=>UInt8.ofNat n.toNat | _=>0).toArray⟩
 bok:=fun rows=>∀r∈rows,∃n:Int,0≤n∧n<256∧r=[.flat (.int .u8 n)]
 bsz:=fun s=>s.size≤maxLen
 free:=fun id=>A.pin id=none
 cpok:=fun rows new=>rows≠[]∧new≠[]∧∀r∈new,r.length=1
 lcopy:=fun rows new=>new.take rows.length++rows.drop new.length
 nilq:=fun rows k=>k false∧(rows=[]→k true)
 cell:=fun cs n k=>∃c,0≤n∧cs[n.toNat]?=some c∧k c
 wsin:=fun rows l es=>rows≠[]∧0≤l∧l≤rows.length∧∀row∈rows,row.length=es
 wrow:=fun rows l n=>0≤l∧0≤n∧l+n<rows.length
 mok:=Key.ok
 mget:=fun es q yes no=>(∀v,mfindT es q=some v→yes v)∧(mfindT es q=none→no ())
 mput:=mputT
 lcpw:=fun rows lo h=>rows.take lo.toNat++rows.take (min h.toNat (rows.length-lo.toNat))++rows.drop (lo.toNat+min h.toNat (rows.length-lo.toNat))
 glb:=fun g n k=>∃cells:List Value,(g,cells)∈tabs∧cells.length=n∧cells.all oneV=true∧k (cells.map fun v=>[.flat v])
section
variable {P:Program} {w:World}
theorem run_underlying {t:TypeId} {d:TypeDesc} (h:P.underlying t=some d):(underlying t).run P w=.ok d w:=by
 simp [underlying,go_sem,h]
theorem run_typeInfo {t:TypeId} {d:TypeInfo} (h:P.info? t=some d):(typeInfo t).run P w=.ok d w:=by
 simp [typeInfo,go_sem,h]
theorem run_sizeOf {t:TypeId} {d:TypeInfo} (h:P.info? t=some d):(sizeOf t).run P w=.ok d.size w:=by
 simp [sizeOf,run_typeInfo h,go_sem]
theorem run_zero {t:TypeId} {d:TypeInfo} {z:Value} (h:P.info? t=some d) (hz:d.zero=some z):(zeroValue t).run P w=.ok z w:=by
 simp [zeroValue,run_typeInfo h,go_sem,hz]
theorem run_isAgg {t:TypeId} {d:TypeDesc} (h:P.underlying t=some d):(isAgg t).run P w=.ok (aggD d) w:=by
 unfold isAgg aggD
 cases d<;>simp [run_underlying h,go_sem]
theorem add_none (b o n:Nat):(⟨b,o,none⟩:Addr).add n=⟨b,o+n,none⟩:=by
 unfold Addr.add
 split
 · subst_vars;rfl
 · rfl
theorem run_fieldAt {t f:Nat} {fs:Array Field} {fld:Field} {fi:TypeInfo} {b o:Nat} (hu:P.underlying t=some (.struct fs)) (hf:fs[f]?=some fld) (hi:P.info? fld.type=some fi) (hz:0<fi.size):
 (Instr.fieldAt t (.pointer (some ⟨b,o,none⟩)) f).run P w=.ok (.pointer (some ⟨b,o+fld.offset,none⟩)) w:=by
 have hz':fi.size≠0:=by omega
 simp [Instr.fieldAt,run_underlying hu,go_sem,hf,Instr.sureAddr,fieldPlace,run_sizeOf hi,hz',add_none]
theorem run_loadCellsFrom {b o:Nat} {vs:List Value}:∀(i:Nat) (acc:Array Value),(∀(j:Nat) u,vs[j]?=some u→w.cell? ⟨b,o+(i+j),none⟩=some u)→
 (loadCellsFrom ⟨b,o,none⟩ i vs.length acc).run P w=.ok (acc++vs.toArray) w:=by
 induction vs with
 | nil=>intro i acc _;simp [loadCellsFrom,go_sem]
 | cons v r ih=>
   intro i acc h
   have h0:=h 0 v rfl
   rw [Nat.add_zero] at h0
   have:=ih (i+1) (acc.push v) (fun j u hu=>by have:=h (j+1) u hu;rwa [show i+(j+1)=i+1+j by omega] at this)
   simp [loadCellsFrom,go_sem,add_none,h0,this]
theorem run_loadCells {b o:Nat} {vs:List Value} (h:∀(j:Nat) u,vs[j]?=some u→w.cell? ⟨b,o+j,none⟩=some u):(loadCells ⟨b,o,none⟩ vs.length).run P w=.ok vs.toArray w:=by
 have:=run_loadCellsFrom (P:=P) (w:=w) (b:=b) (o:=o) (vs:=vs) 0 #[] (fun j u hu=>by rw [Nat.zero_add];exact h j u hu)
 simpa [loadCells] using this
end
end Ab
end Go.Proofs.YtbpihhelojjedaaDoor
namespace Go.Proofs.YtbpihhelojjedaaDoor
open Go Go.RowKit
namespace Ab
section
variable {P:Program} {cx:Cx} {w:World}
def CellsAt (cx:Cx) (w:World) (b o:Nat) (cs:List V):Prop:=
 ∀(j:Nat) c,cs[j]?=some c→∃u,w.cell? ⟨b,o+j,none⟩=some u∧VRep cx w c u
theorem cell_of_block {b o:Nat} {vs:Array Value} {ty:TypeId} (h:w.heap[b]?=some (.cells vs ty (0,0))):w.cell? ⟨b,o,none⟩=vs[o]?:=by
 simp [World.cell?,h]
theorem RowRep.boxCells {id:Nat} {ty:TypeId} {cs:List V} (h:RowRep cx w id (.box ty cs)):∃b,cx.at_ id=some (.at b 1 cs.length 1)∧CellsAt cx w b 0 cs:=by
 cases h with
 | box ty cs b vs hat hb hG hr=>
   refine ⟨b,hat,fun j c hc=>?_⟩
   have hj:j<vs.size:=by have:=(List.getElem?_eq_some_iff.1 hc).1;rw [hr.1];exact this
   refine ⟨vs[j],?_,hr.2 j c _ hc (Array.getElem?_eq_getElem hj)⟩
   rw [cell_of_block hb,Nat.zero_add,Array.getElem?_eq_getElem hj]
theorem tCells_get:∀(l:List T) (j:Nat),(tCells l)[j]?=(l[j]?).map V.t
 | [],j=>by simp [tCells]
 | t::r,0=>by simp [tCells]
 | t::r,j+1=>by simp [tCells,tCells_get r j]
theorem RowRep.listCells {id:Nat} {ty es:TypeId} {rows:Rows} {i:Nat} {row:List T} (h:RowRep cx w id (.list ty es rows)) (hi:rows[i]?=some row):
 ∃b cap,cx.at_ id=some (.at b cap es rows.length)∧CellsAt cx w b (i*es) (tCells row):=by
 cases h with
 | listN=>simp at hi
 | list ty es rows b cap vs hat hb hG hcap hmax hsz hes hr=>
   refine ⟨b,cap,hat,fun j c hc=>?_⟩
   rw [tCells_get] at hc
   obtain ⟨t,ht,rfl⟩:=Option.map_eq_some_iff.1 hc
   obtain ⟨u,hu,hrep⟩:=hr i j t (by simp [hi,ht])
   exact ⟨u,by rw [cell_of_block hb];exact hu,.t _ _ hrep⟩
theorem CellsAt.of_closed {b o:Nat} {cells:List T} {u:Nat→Value} (hc:∀(j:Nat) (t:T),cells[j]?=some t→w.cell? ⟨b,o+j,none⟩=some (u j))
 (hr:∀(j:Nat) (t:T),cells[j]?=some t→TRep cx.G w t (u j)):CellsAt cx w b o (tCells cells):=by
 intro j c h
 rw [tCells_get] at h
 obtain ⟨t,ht,rfl⟩:=Option.map_eq_some_iff.1 h
 exact ⟨u j,hc j t ht,.t _ _ (hr j t ht)⟩
theorem choose_list {α β:Type} {l:List α} {p:Nat→α→β→Prop} (h:∀(j:Nat) c,l[j]?=some c→∃u,p j c u):∃us:List β,us.length=l.length∧∀(j:Nat) c u,l[j]?=some c→us[j]?=some u→p j c u:=by
 induction l generalizing p with
 | nil=>exact ⟨[],rfl,fun j c u h=>by simp at h⟩
 | cons a r ih=>
   obtain ⟨u,hu⟩:=h 0 a rfl
   obtain ⟨us,hn,hus⟩:=ih (p:=fun j c u=>p (j+1) c u) (fun j c hc=>h (j+1) c hc)
   refine ⟨u::us,by simp [hn],fun j c v h1 h2=>?_⟩
   cases j with
   | zero=>simp at h1 h2;subst h1;subst h2;exact hu
   | succ j=>exact hus j c v h1 h2
theorem CellsAt.values {b o:Nat} {cs:List V} (h:CellsAt cx w b o cs):
 ∃us:List Value,us.length=cs.length∧(∀(j:Nat) u,us[j]?=some u→w.cell? ⟨b,o+j,none⟩=some u)∧∀(j:Nat) c u,cs[j]?=some c→us[j]?=some u→VRep cx w c u:=by
 obtain ⟨us,hn,hus⟩:=choose_list h
 refine ⟨us,hn,fun j u hu=>?_,fun j c u h1 h2=>(hus j c u h1 h2).2⟩
 have hj:j<cs.length:=by have:=(List.getElem?_eq_some_iff.1 hu).1;omega
 exact (hus j _ u (List.getElem?_eq_getElem hj) hu).1
theorem CellsAt.drop {b o:Nat} {cs:List V} (h:CellsAt cx w b o cs) (d:Nat):CellsAt cx w b (o+d) (cs.drop d):=
 fun j c hc=>by
  rw [List.getElem?_drop] at hc
  obtain ⟨u,h1,h2⟩:=h _ c hc
  exact ⟨u,by rw [Nat.add_assoc];exact h1,h2⟩
theorem CellsAt.take {b o:Nat} {cs:List V} (h:CellsAt cx w b o cs) (n:Nat):CellsAt cx w b o (cs.take n):=
 fun j c hc=>by
  rw [List.getElem?_take] at hc
  split at hc
  · exact h j c hc
  · cases hc
theorem CellsAt.load {L:TypeId→Option Lt} (hL:LayOk P L) {t:TypeId} {lt:Lt} (ht:L t=some lt) {b o off:Nat} {cs:List V} {v:V} (h:CellsAt cx w b o cs) (hv:loadV lt cs off=some v):
 ∃u,(loadVar t ⟨b,o+off,none⟩).run P w=.ok u w∧VRep cx w v u:=by
 obtain ⟨info,d,z,hi,hd,hsz,-,-,-,-,-,⟨-,-,-,-,hag,-⟩,-⟩:=hL t lt ht
 by_cases hk:lt.kind=1∨lt.kind=2
 · have hagg:=hag.2 hk
   have hv':off+lt.size≤cs.length∧((cs.drop off).take lt.size).all V.cellB=true∧v=.agg ((cs.drop off).take lt.size):=by
    unfold loadV at hv
    rcases hk with hk | hk<;>
    · rw [hk] at hv
      simp only at hv
      split at hv
      · rename_i h1
        split at hv
        · rename_i h2
          cases hv
          exact ⟨h1,h2,rfl⟩
        · cases hv
      · cases hv
   obtain ⟨hle,hcb,rfl⟩:=hv'
   have hc:=(h.drop off).take lt.size
   obtain ⟨us,hn,h1,h2⟩:=hc.values
   have hlen:us.length=info.size:=by rw [hn,List.length_take,List.length_drop,hsz];omega
   refine ⟨.agg us.toArray,?_,.agg _ _ (by simpa using hn) (fun c hc=>List.all_eq_true.1 hcb c hc) (fun i c u hc hu=>h2 i c u hc (by simpa using hu))⟩
   have:=run_loadCells (P:=P) h1
   rw [hlen] at this
   unfold loadCells at this
   simp [loadVar,run_isAgg hd,hagg,go_sem,run_sizeOf hi,this]
 · have hagg:aggD d=false:=by
    cases h1:aggD d with
    | false=>rfl
    | true=>exact absurd (hag.1 h1) hk
   have hv':cs[off]?=some v:=by
    unfold loadV at hv
    split at hv
    · rename_i hk';exact absurd (.inl hk') hk
    · rename_i hk';exact absurd (.inr hk') hk
    · exact hv
   obtain ⟨u,hu,hr⟩:=h off v hv'
   exact ⟨u,by simp [loadVar,run_isAgg hd,hagg,go_sem,hu],hr⟩
structure Stored (w w':World) (b o:Nat) (us:List Value) (arr:Array Value) (ty:TypeId):Prop where
 os:w'.os=w.os
 tape:w'.tape=w.tape
 output:w'.output=w.output
 size:w'.heap.size=w.heap.size
 other:∀k,k≠b→w'.heap[k]?=w.heap[k]?
 here:∃arr':Array Value,w'.heap[b]?=some (.cells arr' ty (0,0))∧arr'.size=arr.size∧∀j,arr'[j]?=if o≤j∧j<o+us.length then us[j-o]? else arr[j]?
theorem setCell_block {b o:Nat} {u:Value} {arr:Array Value} {ty:TypeId} (h:w.heap[b]?=some (.cells arr ty (0,0))):(w.setCell ⟨b,o,none⟩ u).heap[b]?=some (.cells (arr.setIfInBounds o u) ty (0,0)):=by
 simp [World.setCell,Array.getElem?_modify,h]
theorem setCell_other {b o k:Nat} {u:Value} (h:k≠b):(w.setCell ⟨b,o,none⟩ u).heap[k]?=w.heap[k]?:=by
 simp only [World.setCell,Array.getElem?_modify]
 rw [if_neg (Ne.symm h)]
theorem run_store {a:Addr} {v u:Value} (h1:oneV v=true) (hc:w.cell? a=some u) (hf:w.frozen? a=false):(store a v).run P w=.ok () (w.setCell a v):=by
 unfold store
 cases v<;>simp [oneV] at h1<;>simp [Sem.run,hc,hf]
theorem run_storeCells {b o:Nat} {ty:TypeId}:∀(us:List Value) (i:Nat) (w:World) (arr:Array Value),w.heap[b]?=some (.cells arr ty (0,0))→o+i+us.length≤arr.size→(∀u∈us,oneV u=true)→
 ∃w',(storeCells ⟨b,o,none⟩ us i).run P w=.ok () w'∧Stored w w' b (o+i) us arr ty:=by
 intro us
 induction us with
 | nil=>
   intro i w arr hb hs ho
   refine ⟨w,by simp [storeCells,go_sem],rfl,rfl,rfl,rfl,fun _ _=>rfl,arr,hb,rfl,fun j=>?_⟩
   rw [if_neg (by simp only [List.length_nil];omega)]
 | cons u r ih=>
   intro i w arr hb hs ho
   simp only [List.length_cons] at hs
   have hcell:w.cell? ⟨b,o+i,none⟩=some (arr[o+i]'(by omega)):=by rw [cell_of_block hb,Array.getElem?_eq_getElem (by omega)]
   have hfr:w.frozen? ⟨b,o+i,none⟩=false:=by simp [World.frozen?,hb]
   have hone:=ho u (by simp)
   obtain ⟨w',hrun,hst⟩:=ih (i+1) (w.setCell ⟨b,o+i,none⟩ u) (arr.setIfInBounds (o+i) u) (setCell_block hb) (by rw [Array.size_setIfInBounds];omega) (fun v hv=>ho v (by simp [hv]))
   refine ⟨w',?_,?_⟩
   · simp only [storeCells,Sem.run_bind,add_none,run_store hone hcell hfr,Result.andThen_ok,hrun]
   · obtain ⟨h1,h2,h3,h4,h5,arr',h6,h7,h8⟩:=hst
     refine ⟨h1,h2,h3,by rw [h4];simp [World.setCell],fun k hk=>by rw [h5 k hk,setCell_other hk],arr',h6,by rw [h7];simp,fun j=>?_⟩
     rw [h8]
     by_cases e:j=o+i
     · subst e
       rw [if_neg (by omega),if_pos (by simp only [List.length_cons];omega),Array.getElem?_setIfInBounds_self_of_lt (by omega),Nat.sub_self]
       rfl
     · rw [Array.getElem?_setIfInBounds_ne (by omega)]
       by_cases e2:o+(i+1)≤j∧j<o+(i+1)+r.length
       · rw [if_pos e2,if_pos (by simp only [List.length_cons];omega),show j-(o+i)=(j-(o+(i+1)))+1 by omega,List.getElem?_cons_succ]
       · rw [if_neg e2,if_neg (by simp only [List.length_cons];omega)]
end
end Ab
end Go.Proofs.YtbpihhelojjedaaDoor
namespace Go.Proofs.YtbpihhelojjedaaDoor
open Go Go.RowKit
namespace Ab
structure Res (cx:Cx) (w:World) (aid:Nat) (row:Option Row) (cx':Cx) (w':World) (v:V) (u:Value):Prop where
 below:Below w.heap.size w w'
 at_:∀id,id≠aid→cx'.at_ id=cx.at_ id
 aid0:row=none→cx'.at_ aid=cx.at_ aid
 G:∀b,cx.G b→cx'.G b
 G1:∀b,cx'.G b→cx.G b∨(w.heap.size≤b∧b<w'.heap.size)
 rep:VRep cx' w' v u
 row:∀r,row=some r→RowRep cx' w' aid r∧∀b cap es len,cx'.at_ aid=some (.at b cap es len)→w.heap.size≤b∧b<w'.heap.size
theorem Res.val {cx:Cx} {w:World} {aid:Nat} {v:V} {u:Value} (h:VRep cx w v u):Res cx w aid none cx w v u:=
 ⟨Below.refl _ _,fun _ _=>rfl,fun _=>rfl,fun _ h=>h,fun _ h=>.inl h,h,fun r e=>by cases e⟩
def Eyes (cx:Cx) (w:World) (ρ:Operand→V) (e:Operand→Value):Prop:=∀x,VRep cx w (ρ x) (e x)
theorem rep_const (cx:Cx) (w:World) (v:Value):VRep cx w (ofConst v) v:=by
 unfold ofConst
 split
 · rename_i cs
   split
   · rename_i h
     refine .agg _ _ (by simp) (fun c hc=>?_) (fun i c u h1 h2=>?_)
     · simp only [List.mem_map] at hc
       obtain ⟨v,-,rfl⟩:=hc
       rfl
     · rw [List.getElem?_map] at h1
       obtain ⟨v,hv,rfl⟩:=Option.map_eq_some_iff.1 h1
       have:u=v:=by
        rw [Array.getElem?_toList] at hv
        rw [h2] at hv
        exact Option.some.inj hv
       subst this
       exact .t _ _ (.flat _ (List.all_eq_true.1 h _ (List.mem_of_getElem? hv)))
   · exact .junk _
 · exact .junk _
 · rename_i h1 h2
   refine .t _ _ (.flat _ ?_)
   cases v<;>first | rfl | exact absurd rfl (h1 _) | exact absurd rfl (h2 _)
theorem eyes_of {cx:Cx} {w:World} {s:St} {a:Act} (h:VReps cx w s.tmps a.tmps):Eyes cx w s.ev a.eval:=fun x=>by
 cases x with
 | tmp t=>
   simp only [St.ev,Act.eval,List.getD_eq_getElem?_getD,Array.getD_eq_getD_getElem?]
   rcases Nat.lt_or_ge t s.tmps.length with hl | hl
   · have hl':t<a.tmps.size:=by rw [h.1];exact hl
     rw [List.getElem?_eq_getElem hl,Array.getElem?_eq_getElem hl']
     exact h.2 t _ _ (List.getElem?_eq_getElem hl) (Array.getElem?_eq_getElem hl')
   · rw [List.getElem?_eq_none hl]
     exact .junk _
 | const v=>exact rep_const cx w v
 | global g=>exact .t _ _ (.flat _ rfl)
 | func f=>exact .fn f [] #[] rfl (fun i c u h=>by simp at h)
section
variable {P:Program} {A:Run} {L:TypeId→Option Lt} {cx:Cx} {w:World} {e:Operand→Value} {o:Oper} {ρ:Operand→V} {hp:List (Option Row)} {aid:Nat} {k:V→Option Row→Prop}
def Does (P:Program) (cx:Cx) (w:World) (e:Operand→Value) (o:Oper) (aid:Nat) (k:V→Option Row→Prop):Prop:=
 ∃v row u w' cx',k v row∧(execOp e o).run P w=.ok (.value u) w'∧Res cx w aid row cx' w' v u
theorem Does.val {v:V} {u:Value} (hk:k v none) (hr:(execOp e o).run P w=.ok (.value u) w) (h:VRep cx w v u):Does P cx w e o aid k:=⟨v,none,u,w,cx,hk,hr,.val h⟩
theorem inv_bool {b:Bool} {u:Value} (h:VRep cx w (fB b) u):u=.bool b:=by cases h with | t x v h=>cases h;rfl
theorem inv_int {i:IntKind} {n:Int} {u:Value} (h:VRep cx w (fI i n) u):u=.int i n:=by cases h with | t x v h=>cases h;rfl
theorem inv_flat {x u:Value} (h:VRep cx w (.t (.flat x)) u):u=x:=by cases h with | t x v h=>cases h;rfl
theorem rep_flat {x:Value} (h:oneV x=true):VRep cx w (.t (.flat x)) x:=.t _ _ (.flat _ h)
theorem Res.fresh {r:Row} {v:V} {u:Value} {vs:Array Value} {ty:TypeId} {cap es len:Nat} (h0:cx.at_ aid=none) (hG:∀b,cx.G b→b<w.heap.size)
 (hr:∀cx',(∀id B,cx.at_ id=some B→cx'.at_ id=some B)→cx'.at_ aid=some (.at w.heap.size cap es len)→cx'.G=cx.G→VRep cx' (w.alloc (.cells vs ty)) v u∧RowRep cx' (w.alloc (.cells vs ty)) aid r):
 ∃cx',Res cx w aid (some r) cx' (w.alloc (.cells vs ty)) v u:=by
 let cx':Cx:=⟨fun id=>if id=aid then some (.at w.heap.size cap es len) else cx.at_ id,cx.G⟩
 have e1:cx'.at_ aid=some (.at w.heap.size cap es len):=if_pos rfl
 obtain ⟨h1,h2⟩:=hr cx' (fun id B hB=>by
  have:id≠aid:=by rintro rfl;rw [h0] at hB;cases hB
  show (if id=aid then _ else _)=_
  rw [if_neg this];exact hB) e1 rfl
 refine ⟨cx',(Below.refl _ _).alloc (Nat.le_refl _) _,fun id hid=>if_neg hid,(fun e=>by cases e),fun b h=>h,fun b h=>.inl h,h1,fun r' e=>?_⟩
 cases e
 refine ⟨h2,fun b cap es len h=>?_⟩
 rw [e1] at h
 cases h
 exact ⟨Nat.le_refl _,by simp⟩
theorem alloc_same (hG:∀b,cx.G b→b<w.heap.size) (o:Obj):Same cx.G w (w.alloc o):=fun b hb=>Below.heap_alloc _ _ _ (hG b hb)
theorem alloc_new (o:Obj):(w.alloc o).heap[w.heap.size]?=some o:=by show (w.heap.push o)[w.heap.size]?=_;simp
theorem box_res {ty:TypeId} {cs:List V} {vs:Array Value} (h0:cx.at_ aid=none) (hG:∀b,cx.G b→b<w.heap.size) (hr:VReps cx w cs vs):
 ∃cx',Res cx w aid (some (.box ty cs)) cx' (w.alloc (.cells vs ty)) (.ptr aid 0) (.pointer (some ⟨w.heap.size,0,none⟩)):=by
 refine Res.fresh (cap:=1) (es:=cs.length) (len:=1) h0 hG fun cx' hle he hg=>?_
 have hm:VReps cx' (w.alloc (.cells vs ty)) cs vs:=hr.mono (alloc_same hG _) ⟨hle,fun b h=>by rw [hg];exact h⟩
 exact ⟨.ptr _ _ _ _ _ _ he,.box ty cs _ vs he (alloc_new _) (by rw [hg];intro h;have:=hG _ h;omega) hm⟩
theorem ev_range {t:TypeId} {x:Operand} (hL:LayOk P L) (h0:cx.at_ aid=none) (hG:∀b,cx.G b→b<w.heap.size) (hop:o.op=.range t x) (he:Eyes cx w ρ e) (h:evC (dom P A) L o ρ hp aid k):Does P cx w e o aid k:=by
 simp only [evC,hop] at h
 split at h
 case h_2=>exact h.elim
 rename_i lt hlt
 split at h
 case isFalse=>exact h.elim
 rename_i hk
 split at h
 case h_2=>exact h.elim
 rename_i s hs
 obtain ⟨_,d,_,_,hd,_,_,_,_,_,_,⟨_,_,_,hk4,_⟩,_⟩:=hL t lt hlt
 obtain rfl:=hk4 hk
 have hx:=inv_flat (by have:=he x;rw [hs] at this;exact this)
 let cx':Cx:=⟨fun id=>if id=aid then some (.at w.heap.size 0 0 0) else cx.at_ id,cx.G⟩
 have e1:cx'.at_ aid=some (.at w.heap.size 0 0 0):=if_pos rfl
 refine ⟨_,_,.pointer (some ⟨w.heap.size,0,none⟩),w.alloc (.stringIter s 0),cx',h,?_,(Below.refl _ _).alloc (Nat.le_refl _) _,fun id hid=>if_neg hid,(fun e=>by cases e),fun b h=>h,fun b h=>.inl h,.ptr _ _ _ _ _ _ e1,fun r' e=>?_⟩
 · simp only [execOp,hop,Instr.range,hx,Sem.run_bind,run_underlying hd,Result.andThen_ok,Sem.run_pure]
   rfl
 · cases e
   refine ⟨.iter s 0 _ e1 (alloc_new _) (fun hc=>by have:=hG _ hc;omega) (by decide),fun b cap es len h=>?_⟩
   rw [e1] at h
   cases h
   exact ⟨Nat.le_refl _,by simp⟩
theorem ev_makeMap {t:TypeId} (hL:LayOk P L) (h0:cx.at_ aid=none) (hG:∀b,cx.G b→b<w.heap.size) (hop:o.op=.makeMap t none) (h:evC (dom P A) L o ρ hp aid k):Does P cx w e o aid k:=by
 simp only [evC,hop] at h
 split at h
 case h_2=>exact h.elim
 rename_i lt hlt
 split at h
 case isFalse=>exact h.elim
 rename_i hk
 let cx':Cx:=⟨fun id=>if id=aid then some (.at w.heap.size 0 0 0) else cx.at_ id,cx.G⟩
 have e1:cx'.at_ aid=some (.at w.heap.size 0 0 0):=if_pos rfl
 refine ⟨_,_,.map (some w.heap.size),w.alloc (.map #[] 0),cx',h,?_,(Below.refl _ _).alloc (Nat.le_refl _) _,fun id hid=>if_neg hid,(fun e=>by cases e),fun b h=>h,fun b h=>.inl h,.mp _ _ _ _ _ e1,fun r' e=>?_⟩
 · simp only [execOp,hop,Option.map_none,run_makeMap t w,Sem.run_bind,Result.andThen_ok,Sem.run_pure]
 · cases e
   refine ⟨.map _ [] _ _ _ e1 (alloc_new _) (fun hc=>by have:=hG _ hc;omega) (Ents.none _),fun b cap es len h=>?_⟩
   rw [e1] at h
   cases h
   exact ⟨Nat.le_refl _,by simp⟩
theorem key_rep {cx:Cx} {w:World} {x:V} {v:Value} {q:Key} (h:VRep cx w x v) (hk:x.key=some q):v=q.val:=by
 unfold V.key at hk
 split at hk
 · cases hk;exact inv_flat h
 · cases hk;exact inv_flat h
 · cases hk
   cases h with
   | agg cs vs hn hc hr=>
     match vs,hn with
     | ⟨[a,b]⟩,_=>
       have h0:=inv_flat (hr 0 _ a rfl rfl)
       have h1:=inv_flat (hr 1 _ b rfl rfl)
       subst h0
       subst h1
       rfl
 · cases hk
theorem map_row {cx:Cx} {w:World} {x:Value} {id:Nat} {c:Nat} {es:Rows} (hv:VRep cx w (.mp id) x) (hR:RowRep cx w id (.map c es)):∃b a clock,x=.map (some b)∧cx.at_ id=some (.at b 0 0 0)∧w.heap[b]?=some (.map a clock)∧¬ cx.G b∧Ents c es a:=by
 cases hR with
 | map _ _ b a clock hat hb hG he=>
   cases hv with
   | mp id b' cap es' len h'=>
     rw [hat] at h'
     cases h'
     exact ⟨b,a,clock,rfl,hat,hb,hG,he⟩
theorem ev_lookup {t:TypeId} {x i:Operand} (hL:LayOk P L) (hop:o.op=.lookup t x i true) (he:Eyes cx w ρ e) (hrow:∀id r,hp.getD id none=some r→RowRep cx w id r) (h:evC (dom P A) L o ρ hp aid k):Does P cx w e o aid k:=by
 simp only [evC,hop] at h
 split at h
 case h_2=>exact h.elim
 rename_i lt hlt
 split at h
 case isFalse=>exact h.elim
 rename_i hk
 split at h
 case h_2=>exact h.elim
 rename_i le id q hle hx hq
 split at h
 case h_2=>exact h.elim
 rename_i c es z ik hr hz hik
 split at h
 case isFalse=>exact h.elim
 rename_i hcl
 split at h
 case isFalse=>exact h.elim
 rename_i hqc
 obtain ⟨ho,h⟩:=h
 obtain ⟨_,d,_,_,hd,_,_,_,_,_,_,⟨_,_,_,_,_,_,_,h7,_⟩,_⟩:=hL t lt hlt
 obtain ⟨kt,rfl,K⟩:=h7 hk
 obtain ⟨info,_,z',hi,_,hsz,_,hz',hzl,hone,_,_,_,hone'⟩:=hL lt.elem le hle
 have hxv:=he x
 rw [hx] at hxv
 have hiv:=key_rep (he i) hq
 obtain ⟨b,a,clock,hxe,hat,hb,hG,hE⟩:=map_row hxv (hrow _ _ hr)
 have hzz:z'=z:=by
  rw [hz] at hzl
  have h1:=hone' _ hik
  cases z'<;>simp_all [oneV,Value.cells]
 have hzr:(zeroValue lt.elem).run P w=.ok z w:=by
  rw [←hzz]
  exact run_zero hi hz'
 rw [←hcl] at hqc K
 obtain ⟨h1,h2⟩:=map_get hE K hd hb hqc ho hzr
 have hrun:(execOp e o).run P w=.ok (.value (.tuple #[getOr (mfindT es q) z,.bool (mfindT es q).isSome])) w:=by
  simp only [execOp,hop,hxe,hiv,h1,Sem.run_bind,Result.andThen_ok,Sem.run_pure]
 have two:∀{x y:V} {u v:Value},VRep cx w x u→VRep cx w y v→VRep cx w (.tup [x,y]) (.tuple #[u,v]):=fun hx hy=>by
  refine .tup _ #[_,_] rfl fun i c u h1 h2=>?_
  match i,h1,h2 with
  | 0,h1,h2=>cases h1;cases h2;exact hx
  | 1,h1,h2=>cases h1;cases h2;exact hy
 cases hf:mfindT es q with
 | none=>
   rw [hf] at hrun
   exact Does.val (h.2 hf) hrun (two (rep_flat (hone z (by rw [hz];exact List.mem_singleton.2 rfl))) (rep_flat rfl))
 | some y=>
   obtain ⟨v,rfl,hv⟩:=h2 y hf
   rw [hf] at hrun
   exact Does.val (h.1 _ hf) hrun (two (rep_flat hv) (rep_flat rfl))
theorem args_two {c:Call} {x y:Operand} (h:c.args.toList=[x,y]):c.args=#[x,y]:=Array.toList_inj.1 h
theorem ev_min {c:Call} (hop:o.op=.call c) (hc:c.callee=.builtin .min) (he:Eyes cx w ρ e) (h:evC (dom P A) L o ρ hp aid k):Does P cx w e o aid k:=by
 simp only [evC,hop,hc] at h
 split at h
 case h_2=>exact h.elim
 rename_i x y hxy
 split at h
 case h_2=>exact h.elim
 rename_i i a j b hx hy
 split at h
 case isFalse=>exact h.elim
 rename_i hij
 subst hij
 have ex:=inv_int (by have:=he x;rw [hx] at this;exact this)
 have ey:=inv_int (by have:=he y;rw [hy] at this;exact this)
 refine Does.val h ?_ (rep_flat rfl)
 simp only [execOp,hop,resolve,hc,args_two hxy,Sem.run_bind,Sem.run_pure,Result.andThen_ok,invoke,builtin,List.map_toArray,List.map_cons,List.map_nil,ex,ey]
 simp [Builtin.min_,Builtin.min2,dom,go_sem]
theorem ev_max {c:Call} (hop:o.op=.call c) (hc:c.callee=.builtin .max) (he:Eyes cx w ρ e) (h:evC (dom P A) L o ρ hp aid k):Does P cx w e o aid k:=by
 simp only [evC,hop,hc] at h
 split at h
 case h_2=>exact h.elim
 rename_i x y hxy
 split at h
 case h_2=>exact h.elim
 rename_i i a j b hx hy
 split at h
 case isFalse=>exact h.elim
 rename_i hij
 subst hij
 have ex:=inv_int (by have:=he x;rw [hx] at this;exact this)
 have ey:=inv_int (by have:=he y;rw [hy] at this;exact this)
 refine Does.val h ?_ (rep_flat rfl)
 simp only [execOp,hop,resolve,hc,args_two hxy,Sem.run_bind,Sem.run_pure,Result.andThen_ok,invoke,builtin,List.map_toArray,List.map_cons,List.map_nil,ex,ey]
 simp [Builtin.max_,Builtin.max2,dom,go_sem]
theorem ev_move {x:Operand} (hop:o.op=.move x∨o.op=.assign x) (he:Eyes cx w ρ e) (h:k (ρ x) none):Does P cx w e o aid k:=
 Does.val h (by rcases hop with hop | hop<;>simp [execOp,hop,go_sem]) (he x)
theorem ev_pick {c x y:Operand} (hop:o.op=.pick c x y) (he:Eyes cx w ρ e) (h:evC (dom P A) L o ρ hp aid k):Does P cx w e o aid k:=by
 simp only [evC,hop] at h
 split at h
 · rename_i b hc
   have hb:=inv_bool (by have:=he c;rw [hc] at this;exact this)
   cases b
   · exact Does.val (h.2 rfl) (by simp [execOp,hop,go_sem,hb]) (he y)
   · exact Does.val (h.1 rfl) (by simp [execOp,hop,go_sem,hb]) (he x)
 · exact h.elim
theorem ev_mki {t:TypeId} {x:Operand} (hop:o.op=.makeInterface t x) (he:Eyes cx w ρ e) (h:evC (dom P A) L o ρ hp aid k):Does P cx w e o aid k:=by
 simp only [evC,hop] at h
 obtain ⟨r,hk,hr⟩:=h
 obtain ⟨v,h1,h2⟩:=hr cx w _ (he x)
 exact Does.val hk (by simp only [execOp,hop,Sem.run_bind,h1,Result.andThen_ok,Sem.run_pure]) h2
theorem ev_asrt {x:Operand} {t u:TypeId} {ok:Bool} (hop:o.op=.typeAssert x t u ok) (he:Eyes cx w ρ e) (h:evC (dom P A) L o ρ hp aid k):Does P cx w e o aid k:=by
 simp only [evC,hop] at h
 obtain ⟨r,hk,hr⟩:=h
 obtain ⟨v,h1,h2⟩:=hr cx w _ (he x)
 exact Does.val hk (by simp only [execOp,hop,Sem.run_bind,h1,Result.andThen_ok,Sem.run_pure]) h2
theorem ev_alloc {t:TypeId} (hL:LayOk P L) (h0:cx.at_ aid=none) (hG:∀b,cx.G b→b<w.heap.size) (hop:o.op=.alloc t) (h:evC (dom P A) L o ρ hp aid k):Does P cx w e o aid k:=by
 simp only [evC,hop] at h
 split at h
 · rename_i lt ht
   obtain ⟨info,d,z,hi,hd,hsz,hby,hz,hzl,hone,hlen,-⟩:=hL t lt ht
   obtain ⟨cx',hres⟩:=box_res (ty:=t) (cs:=lt.zero.map fun v=>.t (.flat v)) (vs:=z.cells) h0 hG (by
    refine ⟨by simp [←hzl],fun i c u h1 h2=>?_⟩
    rw [List.getElem?_map] at h1
    obtain ⟨v,hv,rfl⟩:=Option.map_eq_some_iff.1 h1
    rw [←hzl,Array.getElem?_toList,h2] at hv
    cases hv
    exact rep_flat (hone _ (by rw [←hzl];exact Array.mem_toList_iff.2 (Array.mem_of_getElem? h2))))
   refine ⟨_,_,_,_,cx',h,?_,hres⟩
   simp [execOp,hop,go_sem,Instr.alloc,run_zero hi hz,newVar,newRow]
 · exact h.elim
theorem ev_box {t:TypeId} {x:Operand} (h0:cx.at_ aid=none) (hG:∀b,cx.G b→b<w.heap.size) (hop:o.op=.box t x) (he:Eyes cx w ρ e) (h:evC (dom P A) L o ρ hp aid k):Does P cx w e o aid k:=by
 simp only [evC,hop] at h
 split at h
 · split at h
   · rename_i hall
     obtain ⟨h1,-⟩:=(he x).cells hall
     obtain ⟨cx',hres⟩:=box_res (ty:=t) h0 hG h1
     exact ⟨_,_,_,_,cx',h,by simp [execOp,hop,go_sem,Instr.box,newVar,newRow],hres⟩
   · exact h.elim
 · exact h.elim
end
end Ab
end Go.Proofs.YtbpihhelojjedaaDoor
