/- Texts that the proof leans on. -/
import Derived.WalkKit
set_option linter.unusedVariables false
set_option linter.unusedSimpArgs false
set_option maxRecDepth 100000
set_option maxHeartbeats 4000000
namespace Go.Proofs.YtbpihhelojjedaaDoor
open Go Go.RowKit
namespace Ab
def byteT:TypeId:=5
inductive T where
 | flat (v:Value)
 | slc (rows:List (List T))
 deriving Inhabited
inductive V where
 | t (x:T)
 | agg (cs:List V)
 | tup (vs:List V)
 | lst (id:Nat)
 | ptr (id off:Nat)
 | elt (id:Nat) (row:Int) (off:Nat)
 | win (id:Nat) (lo:Int)
 | mp (id:Nat)
 | pre (id:Nat) (h:Int)
 | ipt (cells:List T) (off:Nat)
 | fn (f:FuncId) (caps:List V)
 | ifc (t:TypeId) (v:V)
 | junk
 deriving Inhabited
abbrev fI (k:IntKind) (n:Int):V:=.t (.flat (.int k n))
abbrev fB (b:Bool):V:=.t (.flat (.bool b))
abbrev fS (s:ByteArray):V:=.t (.flat (.string s))
abbrev vNil:V:=.t (.flat (.slice none 0 0))
abbrev Rows:=List (List T)
inductive Key where
 | s (b:ByteArray) | i (n:Int) | p (a b:Int)
 deriving DecidableEq
def Key.code:Key→Nat
 | .s _=>0
 | .i _=>1
 | .p _ _=>2
def Key.ok:Key→Prop
 | .s b=>b.size≤maxLen
 | .i n=>-9223372036854775808≤n∧n≤9223372036854775807
 | .p a b=>(-9223372036854775808≤a∧a≤9223372036854775807)∧(-9223372036854775808≤b∧b≤9223372036854775807)
def V.key:V→Option Key
 | .t (.flat (.string s))=>some (.s s)
 | .t (.flat (.int .i64 n))=>some (.i n)
 | .agg [.t (.flat (.int .i64 a)),.t (.flat (.int .i64 b))]=>some (.p a b)
 | _=>none
def Key.cells:Key→T→List T
 | .s b,x=>[.flat (.string b),x]
 | .i n,x=>[.flat (.int .i64 n),x]
 | .p a b,x=>[.flat (.int .i64 a),.flat (.int .i64 b),x]
def entry:List T→Option (Key × T)
 | [.flat (.string s),x]=>some (.s s,x)
 | [.flat (.int .i64 n),x]=>some (.i n,x)
 | [.flat (.int .i64 a),.flat (.int .i64 b),x]=>some (.p a b,x)
 | _=>none
def mfindT:Rows→Key→Option T
 | [],_=>none
 | r::rs,q=>match entry r with
   | some (a,x)=>if a=q then some x else mfindT rs q
   | none=>mfindT rs q
def mputT:Rows→Key→T→Rows
 | [],q,x=>[q.cells x]
 | r::rs,q,x=>match entry r with
   | some (a,_)=>if a=q then q.cells x::rs else r::mputT rs q x
   | none=>r::mputT rs q x
inductive Row where
 | box (ty:TypeId) (cells:List V)
 | list (ty es:Nat) (rows:Rows)
 | iter (s:ByteArray) (pos:Int)
 | map (code:Nat) (es:Rows)
 | hole (ty:Nat) (rows:Rows) (r:Int) (kid:Option Nat)
structure St where
 tmps:List V
 heap:List (Option Row)
 base:Nat
inductive Ex where
 | normal | exit (id:Nat) | goto (l:Nat) | ret
inductive Ck where
 | i (k:IntKind) | s | b
structure Lt where
 kind:Nat:=0
 size:Nat:=1
 bytes:Nat:=8
 zero:List Value:=[]
 parts:List (Nat × Nat × Bool):=[]
 elem:TypeId:=0
 len:Nat:=0
 ik:Option IntKind:=none
 ck:Option (List Ck):=none
structure Env where
 ar:BinOp→IntKind→Int→Int→Int
 cmp:BinOp→Int→Int→Bool
 conj:List Bool→Bool
 ne0:Int→Prop
 ge0:Int→Prop
 conv:IntKind→Int→Int
 slen:ByteArray→Int
 scmp:BinOp→ByteArray→ByteArray→Bool
 cat:ByteArray→ByteArray→ByteArray
 catok:ByteArray→ByteArray→Prop
 sat:ByteArray→Int→Int
 sin:ByteArray→Int→Prop
 ssub:ByteArray→Int→Int→ByteArray
 ssin:ByteArray→Int→Int→Prop
 llen:Rows→Int
 row:Rows→Int→(List T→Prop)→Prop
 lsub:Rows→Int→Int→Rows
 lsin:Rows→Int→Int→Nat→Prop
 lset:Rows→Int→List T→Rows
 lapp:Rows→Rows→Rows
 lzero:Int→List T→Rows
 room:Rows→Rows→Nat→Nat→Prop
 roomz:Int→Int→Nat→Prop
 ifb:Bool→(Unit→Prop)→(Unit→Prop)→Prop
 pcall:FuncId→List V→(V→Prop)→Prop
 call:FuncId→List V→St→(V→St→Prop)→Prop
 draw:List Oper→St→(St→Prop)→Prop
 other:Code→St→(Ex→St→Prop)→Prop
 mki:TypeId→V→(V→Prop)→Prop
 asrt:TypeId→TypeId→Bool→V→(V→Prop)→Prop
 inv:String→V→List V→St→(V→St→Prop)→Prop
 pan:V→St→Prop
 nxt:ByteArray→Int→(Int→Int→Prop)→(Unit→Prop)→Prop
 imin:Int→Int→Int
 imax:Int→Int→Int
 brows:ByteArray→Rows
 bstr:Rows→ByteArray
 bok:Rows→Prop
 bsz:ByteArray→Prop
 cell:List V→Int→(V→Prop)→Prop
 free:Nat→Prop
 cpok:Rows→Rows→Prop
 lcopy:Rows→Rows→Rows
 nilq:Rows→(Bool→Prop)→Prop
 glb:Nat→Nat→(Rows→Prop)→Prop
 wsin:Rows→Int→Nat→Prop
 wrow:Rows→Int→Int→Prop
 mok:Key→Prop
 mget:Rows→Key→(T→Prop)→(Unit→Prop)→Prop
 mput:Rows→Key→T→Rows
 lcpw:Rows→Int→Int→Rows
def oneV:Value→Bool
 | .agg _=>false
 | .tuple _=>false
 | _=>true
def ofConst:Value→V
 | .agg cs=>if cs.toList.all oneV then .agg (cs.toList.map fun v=>.t (.flat v)) else .junk
 | .tuple _=>.junk
 | v=>.t (.flat v)
def St.ev (s:St):Operand→V
 | .tmp t=>s.tmps.getD t .junk
 | .const v=>ofConst v
 | .global g=>.t (.flat (.pointer (some ⟨g,0,none⟩)))
 | .func f=>.fn f []
def V.cells:V→List V
 | .agg cs=>cs
 | v=>[v]
def V.cellB:V→Bool
 | .t _=>true
 | .lst _=>true
 | .ptr _ _=>true
 | .elt _ _ _=>true
 | .win _ _=>true
 | .mp _=>true
 | .pre _ _=>true
 | .ipt _ _=>true
 | .fn _ _=>true
 | .ifc _ _=>true
 | _=>false
def toTs:List V→Option (List T)
 | []=>some []
 | .t x::r=>match toTs r with
   | some l=>some (x::l)
   | none=>none
 | _::_=>none
mutual
def V.kill (id:Nat):V→V
 | .lst j=>if j=id then .junk else .lst j
 | .ptr j o=>if j=id then .junk else .ptr j o
 | .elt j r o=>if j=id then .junk else .elt j r o
 | .win j l=>if j=id then .junk else .win j l
 | .mp j=>if j=id then .junk else .mp j
 | .pre j h=>if j=id then .junk else .pre j h
 | .agg cs=>if killAny id cs then .junk else .agg cs
 | .tup cs=>.tup (killL id cs)
 | .fn f cs=>.fn f (killL id cs)
 | .ifc t v=>.ifc t (V.kill id v)
 | v=>v
def killL (id:Nat):List V→List V
 | []=>[]
 | v::r=>V.kill id v::killL id r
def V.names (id:Nat):V→Bool
 | .lst j=>j==id
 | .ptr j _=>j==id
 | .elt j _ _=>j==id
 | .win j _=>j==id
 | .mp j=>j==id
 | .pre j _=>j==id
 | .agg cs=>killAny id cs
 | .tup cs=>killAny id cs
 | .fn _ cs=>killAny id cs
 | .ifc _ v=>V.names id v
 | _=>false
def killAny (id:Nat):List V→Bool
 | []=>false
 | v::r=>V.names id v||killAny id r
end
def St.put (s:St) (d:Option Tmp) (v:V):St:=
 match d with
 | some d=>⟨s.tmps.set d v,s.heap,s.base⟩
 | none=>s
def St.lay (s:St) (aid:Nat):Option Row→St
 | some r=>⟨s.tmps,s.heap.set aid (some r),s.base⟩
 | none=>s
def St.push (s:St):Option Row→St
 | some r=>⟨s.tmps,s.heap++[some r],s.base⟩
 | none=>s
def St.setRow (s:St) (id:Nat) (r:Row):St:=⟨s.tmps,s.heap.set id (some r),s.base⟩
def loadV (lt:Lt) (cs:List V) (off:Nat):Option V:=
 match lt.kind with
 | 1=>if off+lt.size≤cs.length then (if ((cs.drop off).take lt.size).all V.cellB then some (.agg ((cs.drop off).take lt.size)) else none) else none
 | 2=>if off+lt.size≤cs.length then (if ((cs.drop off).take lt.size).all V.cellB then some (.agg ((cs.drop off).take lt.size)) else none) else none
 | _=>cs[off]?
def tCells:List T→List V
 | []=>[]
 | t::r=>.t t::tCells r
def patch (cs:List V) (off:Nat) (vs:List V):List V:=cs.take off++(vs++cs.drop (off+vs.length))
def patchT (cs:List T) (off:Nat) (vs:List T):List T:=cs.take off++(vs++cs.drop (off+vs.length))
def fillV (parts:List (Nat × Nat × Bool)) (cells:List V):List (Nat × V)→Option (List V)
 | []=>some cells
 | (i, v)::rest=>
   match parts[i]? with
   | none=>none
   | some (off,size,_)=>
     if v.cells.length=size then
      if off+size≤cells.length then
       if v.cells.all V.cellB then fillV parts (patch cells off v.cells) rest else none
      else none
     else none
def arrParts (n size:Nat):List (Nat × Nat × Bool):=(List.range n).map fun i=>(i*size,size,false)
def denilV:V→V
 | .t (.flat (.slice none 0 0))=>.t (.slc [])
 | v=>v
def nilIn (le:Lt) (v:V):V:=match Nat.beq le.kind 3 with
 | true=>denilV v
 | false=>v
def rowsOf (es:Nat):Nat→List (Nat × V)→Option Rows
 | _,[]=>some []
 | k, (i,v)::rest=>
   if i=k then
    if v.cells.length=es then
     match toTs v.cells with
     | some r=>match rowsOf es (k+1) rest with
       | some l=>some (r::l)
       | none=>none
     | none=>none
    else none
   else none
def binV (E:Env) (op:BinOp):V→V→Option (Prop × V)
 | .t (.flat (.int k x)),.t (.flat (.int k' y))=>
   match op with
   | .shl | .shr=>some (E.ge0 y,fI k (E.ar op k x y))
   | .quo | .rem=>if k=k' then some (E.ne0 y,fI k (E.ar op k x y)) else none
   | .add | .sub | .mul | .and | .or | .xor | .andNot=>if k=k' then some (True,fI k (E.ar op k x y)) else none
   | .eql | .neq | .lss | .leq | .gtr | .geq=>if k=k' then some (True,fB (E.cmp op x y)) else none
 | .t (.flat (.string x)),.t (.flat (.string y))=>
   match op with
   | .add=>some (E.catok x y,fS (E.cat x y))
   | .eql | .neq | .lss | .leq | .gtr | .geq=>some (True,fB (E.scmp op x y))
   | _=>none
 | _,_=>none
def eqOne (E:Env):Ck→V→V→Option Bool
 | .i k,.t (.flat (.int k1 x)),.t (.flat (.int k2 y))=>if k1=k then if k2=k then some (E.cmp .eql x y) else none else none
 | .s,.t (.flat (.string x)),.t (.flat (.string y))=>some (E.scmp .eql x y)
 | .b,.t (.flat (.bool x)),.t (.flat (.bool y))=>some (x==y)
 | _,_,_=>none
def eqCells (E:Env):List Ck→List V→List V→Option (List Bool)
 | [],[],[]=>some []
 | c::ks,x::xs,y::ys=>match eqOne E c x y,eqCells E ks xs ys with
   | some b,some l=>some (b::l)
   | _,_=>none
 | _,_,_=>none
def eqV (E:Env) (L:TypeId→Option Lt) (op:BinOp) (t:TypeId):V→V→Option V
 | .agg xs,.agg ys=>
   match L t with
   | some lt=>
     match lt.ck with
     | some ks=>
       match eqCells E ks xs ys with
       | some l=>
         match op with
         | .eql=>some (fB (E.conj l))
         | .neq=>some (fB (!E.conj l))
         | _=>none
       | none=>none
     | none=>none
   | none=>none
 | .t (.flat (.bool x)),.t (.flat (.bool y))=>
   match L t with
   | some lt=>
     match lt.kind with
     | 5=>match op with
       | .eql=>some (fB (E.conj [x==y]))
       | .neq=>some (fB (!E.conj [x==y]))
       | _=>none
     | _=>none
   | none=>none
 | _,_=>none
def sliceB:V→Bool
 | .t (.slc _)=>true
 | .t (.flat (.slice none 0 0))=>true
 | .lst _=>true
 | _=>false
def rowsAt (hp:List (Option Row)):V→Option Rows
 | .t (.slc rows)=>some rows
 | .t (.flat (.slice none 0 0))=>some []
 | .lst id=>match hp.getD id none with
   | some (.list _ _ rows)=>some rows
   | _=>none
 | _=>none
def nilRows (L:TypeId→Option Lt) (hp:List (Option Row)) (t:TypeId) (x y:V):Option Rows:=
 match y with
 | .t (.flat (.slice none 0 0))=>
   match L t with
   | some lt=>
     match lt.kind with
     | 3 =>match x with
       | .t (.slc rows)=>some rows
       | .lst id=>match hp.getD id none with
         | some (.list _ _ rows)=>some rows
         | _=>none
       | _=>none
     | _=>none
   | none=>none
 | _=>none
def numV (ρ:Operand→V) (z:Option Operand) (d:Int):Option Int:=match z with
 | none=>some d
 | some z=>match ρ z with
   | .t (.flat (.int _ n))=>some n
   | _=>none
section
variable (E:Env) (L:TypeId→Option Lt)
def evC (o : Oper) (ρ:Operand→V) (hp:List (Option Row)) (aid:Nat) (k:V→Option Row→Prop):Prop:=
 match o.op with
 | .move x=>k (ρ x) none
 | .assign x=>k (ρ x) none
 | .pick c a b=>
   match ρ c with
   | .t (.flat (.bool x))=>E.ifb x (fun _=>k (ρ a) none) (fun _=>k (ρ b) none)
   | _=>False
 | .alloc t=>
   match L t with
   | some lt=>k (.ptr aid 0) (some (.box t (lt.zero.map fun v=>.t (.flat v))))
   | none=>False
 | .box t x=>
   match L t with
   | some _=>if (ρ x).cells.all V.cellB then k (.ptr aid 0) (some (.box t (ρ x).cells)) else False
   | none=>False
 | .build t ps=>
   match L t with
   | some lt=>
     if lt.kind=1 then
      match fillV lt.parts (lt.zero.map fun v=>.t (.flat v)) (ps.toList.map fun p=>(p.1,ρ p.2)) with
      | some cs=>k (.agg cs) none
      | none=>False
     else
      if lt.kind=2 then
       match L lt.elem with
       | some le=>
         match fillV (arrParts lt.len le.size) (lt.zero.map fun v=>.t (.flat v)) (ps.toList.map fun p=>(p.1,ρ p.2)) with
         | some cs=>k (.agg cs) none
         | none=>False
       | none=>False
      else False
   | none=>False
 | .buildSlice t n ps=>
   match L t with
   | some lt=>
     if lt.kind=3 then
      match L lt.elem with
      | some le=>
        if ps.toList.length=n then
         if 0<le.size then
          if n*le.size≤100000 then
           match rowsOf le.size 0 ((ps.toList.map fun p=>(p.1,ρ p.2)).map fun q=>(q.1,nilIn le q.2)) with
           | some rows=>k (.lst aid) (some (.list lt.elem le.size rows))
           | none=>False
          else False
         else False
        else False
      | none=>False
     else False
   | none=>False
 | .load t x=>
   match L t with
   | some lt=>
     match ρ x with
     | .ptr id off=>
       match hp.getD id none with
       | some (.box _ cs)=>match loadV lt cs off with
         | some v=>k v none
         | none=>False
       | _=>False
     | .elt id r off=>
       match hp.getD id none with
       | some (.list _ _ rows)=>
         E.row rows r fun cs=>match loadV lt (tCells cs) off with
          | some v=>k v none
          | none=>False
       | some (.hole _ _ r' (some j))=>
         match off,Nat.beq lt.kind 3 with
         | 0,true=>r=r'∧k (.lst j) none
         | _,_=>False
       | _=>False
     | .ipt cs off=>match loadV lt (tCells cs) off with
       | some v=>k v none
       | none=>False
     | _=>False
   | none=>False
 | .nilCheck x=>
   match ρ x with
   | .ptr id off=>k (.ptr id off) none
   | .elt id r off=>k (.elt id r off) none
   | .ipt cs off=>k (.ipt cs off) none
   | .fn f cs=>k (.fn f cs) none
   | _=>False
 | .binOp op t x y _=>
   match binV E op (ρ x) (ρ y) with
   | some (c,v)=>c∧k v none
   | none=>
     match eqV E L op t (ρ x) (ρ y) with
     | some v=>k v none
     | none=>False
 | .makeInterface xt x=>E.mki xt (ρ x) fun v=>k v none
 | .typeAssert x xt at_ ok=>E.asrt xt at_ ok (ρ x) fun v=>k v none
 | .unOp op _ x=>
   match op,ρ x with
   | .not,.t (.flat (.bool b))=>k (fB (!b)) none
   | .neg,.t (.flat (.int i n))=>k (fI i (E.ar .sub i 0 n)) none
   | _,_=>False
 | .convert src dst x=>
   match L src,L dst with
   | some ls,some ld=>
     match ρ x with
     | .t (.flat (.int _ n))=>match ls.ik,ld.ik with
       | some _,some i=>k (fI i (E.conv i n)) none
       | _,_=>False
     | .t (.flat (.string s))=>if ls.kind=4 then (if ld.kind=4 then k (fS s) none else False) else False
     | y =>
       if ls.kind=3 then
        if ld.kind=4 then
         match L ls.elem with
         | some le=>
           match le.ik with
           | some .u8=>
             match rowsAt hp y with
             | some rows=>E.bok rows∧k (fS (E.bstr rows)) none
             | none=>False
           | _=>False
         | none=>False
        else False
       else False
   | _,_=>False
 | .fieldAddr t x f=>
   match L t with
   | some lt=>
     if lt.kind=1 then
      match lt.parts[f]? with
      | some (d,size,_)=>
        if 0<size then
         match ρ x with
         | .ptr id off=>k (.ptr id (off+d)) none
         | .elt id r off=>k (.elt id r (off+d)) none
         | .ipt cs off=>k (.ipt cs (off+d)) none
         | _=>False
        else False
      | none=>False
     else False
   | none=>False
 | .field t x f=>
   match L t with
   | some lt=>
     if lt.kind=1 then
      match lt.parts[f]?,ρ x with
      | some (d,size,ag),.agg cs=>
        match ag with
        | true=>if d+size≤cs.length then k (.agg ((cs.drop d).take size)) none else False
        | false=>match cs[d]? with
          | some v=>k v none
          | none=>False
      | _,_=>False
     else False
   | none=>False
 | .indexAddr t x i=>
   match L t with
   | some lt=>
     if lt.kind=3 then
      match L lt.elem with
      | some le=>
        match ρ x,ρ i with
        | .t (.slc rows),.t (.flat (.int _ n))=>
          E.row rows n fun cs=>if cs.length=le.size then k (.ipt cs 0) none else False
        | .lst id,.t (.flat (.int _ n))=>
          match hp.getD id none with
          | some (.list _ es rows)=>
            E.row rows n fun _=>if es=le.size then k (.elt id n 0) none else False
          | some (.hole _ rows _ _)=>
            E.row rows n fun _=>if 1=le.size then k (.elt id n 0) none else False
          | _=>False
        | .win id lo,.t (.flat (.int _ n))=>
          match hp.getD id none with
          | some (.list _ es rows)=>E.wrow rows lo n∧(if es=le.size then k (.elt id (E.ar .add .i64 lo n) 0) none else False)
          | _=>False
        | _,_=>False
      | none=>False
     else
      if lt.kind=2 then
       match L lt.elem with
       | some le=>
         match ρ x,ρ i with
         | .ptr id off,.t (.flat (.int _ (.ofNat m)))=>if m<lt.len then (if 0<le.size then k (.ptr id (off+m*le.size)) none else False) else False
         | .ipt cs off,.t (.flat (.int _ (.ofNat m)))=>if m<lt.len then (if 0<le.size then k (.ipt cs (off+m*le.size)) none else False) else False
         | .t (.flat (.pointer (some ⟨g,0,none⟩))),.t (.flat (.int _ n))=>if le.size=1 then E.glb g lt.len fun rows=>E.row rows n fun cs=>k (.ipt cs 0) none else False
         | _,_=>False
       | none=>False
      else False
   | none=>False
 | .index t x i=>
   match L t with
   | some lt=>
     if lt.kind=4 then
      match ρ x,ρ i with
      | .t (.flat (.string s)),.t (.flat (.int _ n))=>
        E.sin s n∧k (fI .u8 (E.sat s n)) none
      | _,_=>False
     else
      if lt.kind=2 then
       match L lt.elem with
       | some le=>
         if le.kind=1 then False
         else
          if le.kind=2 then False
          else
           if le.size=1 then
            match ρ x,ρ i with
            | .agg cs,.t (.flat (.int _ n))=>if cs.length=lt.len then E.cell cs n fun c=>k c none else False
            | _,_=>False
           else False
       | none=>False
      else False
   | none=>False
 | .range t x=>
   match L t with
   | some lt=>
     if lt.kind=4 then
      match ρ x with
      | .t (.flat (.string s))=>k (.ptr aid 0) (some (.iter s 0))
      | _=>False
     else False
   | none=>False
 | .makeMap t none=>
   match L t with
   | some lt=>if lt.kind=7 then k (.mp aid) (some (.map lt.len [])) else False
   | none=>False
 | .lookup t x i true=>
   match L t with
   | some lt=>
     if lt.kind=7 then
      match L lt.elem,ρ x,(ρ i).key with
      | some le,.mp id,some q=>
        match hp.getD id none,le.zero,le.ik with
        | some (.map c es),[z],some _=>
          if c=lt.len then
           if q.code=lt.len then E.mok q∧E.mget es q (fun v=>k (.tup [.t v,fB true]) none) (fun _=>k (.tup [.t (.flat z),fB false]) none)
           else False
          else False
        | _,_,_=>False
      | _,_,_=>False
     else False
   | none=>False
 | .extract x i=>
   match ρ x with
   | .tup vs=>match vs[i]? with
     | some v=>k v none
     | none=>False
   | _=>False
 | .slice t x lo hi mx=>
   match L t,mx with
   | some lt,none=>
     match ρ x with
     | .t (.flat (.string s))=>
       if lt.kind=4 then
        match numV ρ lo 0,numV ρ hi (E.slen s) with
        | some l,some h=>E.ssin s l h∧k (fS (E.ssub s l h)) none
        | _,_=>False
       else False
     | .t (.slc rows)=>
       if lt.kind=3 then
        match L lt.elem with
        | some le=>
          match numV ρ lo 0,numV ρ hi (E.llen rows) with
          | some l,some h=>E.lsin rows l h le.size∧k (.t (.slc (E.lsub rows l h))) none
          | _,_=>False
        | none=>False
       else False
     | .lst id=>
       if lt.kind=3 then
        match L lt.elem,lo,hi with
        | some le,some z,none=>
          match hp.getD id none,ρ z with
          | some (.list _ es rows),.t (.flat (.int _ l))=>if es=le.size then E.wsin rows l es∧k (.win id l) none else False
          | _,_=>False
        | some le,none,some z=>
          match hp.getD id none,ρ z with
          | some (.list _ es rows),.t (.flat (.int _ l))=>if es=le.size then E.wsin rows l es∧k (.pre id l) none else False
          | _,_=>False
        | _,_,_=>False
       else False
     | .t (.flat (.pointer (some ⟨g,0,none⟩)))=>
       if lt.kind=2 then
        match L lt.elem,lo,hi with
        | some le,none,none=>if le.size=1 then E.glb g lt.len fun rows=>k (.t (.slc rows)) none else False
        | _,_,_=>False
       else False
     | _=>False
   | some lt,some m=>
     if lt.kind=3 then
      match L lt.elem,lo,hi with
      | some le,none,some z=>
        match ρ z,ρ m with
        | .t (.flat (.int _ a)),.t (.flat (.int _ b))=>
          if a=0∧b=0 then
           match Nat.beq lt.elem byteT,sliceB (ρ x) with
           | false,true=>k (.lst aid) (some (.list lt.elem le.size []))
           | _,_=>False
          else False
        | _,_=>False
      | _,_,_=>False
     else False
   | _,_=>False
 | .makeFunc fn first caps=>
   match fn,first.toList with
   | .func f,[]=>k (.fn f (caps.toList.map ρ)) none
   | _,_=>False
 | .makeSlice t l c=>
   match L t with
   | some lt=>
     if lt.kind=3 then
      match L lt.elem with
      | some le=>
        if 0<le.size then
         match ρ l,ρ c with
         | .t (.flat (.int _ n)),.t (.flat (.int _ m))=>
           E.roomz n m le.bytes∧k (.lst aid) (some (.list lt.elem le.size (E.lzero n (le.zero.map .flat))))
         | _,_=>False
        else False
      | none=>False
     else False
   | none=>False
 | .call c =>
   match c.callee with
   | .builtin .len=>
     match c.argTypes.toList,c.args.toList with
     | [t], [x]=>
       match L t with
       | some lt=>
         match ρ x with
         | .t (.flat (.string s))=>if lt.kind=4 then k (fI .i64 (E.slen s)) none else False
         | .t (.slc rows)=>if lt.kind=3 then k (fI .i64 (E.llen rows)) none else False
         | .t (.flat (.slice none n _))=>if lt.kind=3 then k (fI .i64 n) none else False
         | .lst id=>
           if lt.kind=3 then
            match hp.getD id none with
            | some (.list _ _ rows)=>k (fI .i64 (E.llen rows)) none
            | _=>False
           else False
         | .win id lo=>
           if lt.kind=3 then
            match hp.getD id none with
            | some (.list _ es rows)=>E.wsin rows lo es∧k (fI .i64 (E.ar .sub .i64 (E.llen rows) lo)) none
            | _=>False
           else False
         | .mp id=>
           if lt.kind=7 then
            match hp.getD id none with
            | some (.map _ es)=>k (fI .i64 (E.llen es)) none
            | _=>False
           else False
         | _=>False
       | none=>False
     | _,_=>False
   | .builtin .min=>
     match c.args.toList with
     | [x,y]=>
       match ρ x,ρ y with
       | .t (.flat (.int i a)),.t (.flat (.int j b))=>if i=j then k (fI i (E.imin a b)) none else False
       | _,_=>False
     | _=>False
   | .builtin .max=>
     match c.args.toList with
     | [x,y]=>
       match ρ x,ρ y with
       | .t (.flat (.int i a)),.t (.flat (.int j b))=>if i=j then k (fI i (E.imax a b)) none else False
       | _,_=>False
     | _=>False
   | .value f=>
     match ρ f with
     | .fn g caps=>E.pcall g (c.args.toList.map ρ++caps) fun v=>k v none
     | _=>False
   | _=>False
 | _=>False
def newRows (E:Env) (L:TypeId→Option Lt) (elem t u:TypeId) (hp:List (Option Row)) (y:V):Option Rows:=
 match y with
 | .t (.flat (.string str))=>
   match L u,L elem with
   | some lu,some le=>
     if lu.kind=4 then
      match le.ik,le.zero,le.bytes with
      | some .u8,[.int .u8 0],1=>some (E.brows str)
      | _,_,_=>none
     else none
   | _,_=>none
 | y=>if u=t then rowsAt hp y else none
def killK (id:Nat):Option Nat→Option Nat
 | some k=>if k=id then none else some k
 | none=>none
def killRow (id:Nat):Option Row→Option Row
 | some (.box ty cs)=>some (.box ty (killL id cs))
 | some (.list ty es rows)=>some (.list ty es rows)
 | some (.iter s p)=>some (.iter s p)
 | some (.map c es)=>some (.map c es)
 | some (.hole ty rows r k)=>some (.hole ty rows r (killK id k))
 | none=>none
mutual
def V.shut (id:Nat) (rows:Rows):V→V
 | .lst j=>if j=id then .t (.slc rows) else .lst j
 | .tup cs=>.tup (shutL id rows cs)
 | .fn f cs=>.fn f (shutL id rows cs)
 | .ifc t v=>.ifc t (V.shut id rows v)
 | v=>V.kill id v
def shutL (id:Nat) (rows:Rows):List V→List V
 | []=>[]
 | v::r=>V.shut id rows v::shutL id rows r
end
def shutRow (id:Nat) (rows:Rows):Option Row→Option Row
 | some (.box ty cs)=>some (.box ty (shutL id rows cs))
 | r=>killRow id r
def St.shut (s:St) (id:Nat) (rows:Rows):St:=⟨shutL id rows s.tmps,(s.heap.map (shutRow id rows)).set id none,s.base⟩
def lstIn:List V→Option Nat
 | []=>none
 | .lst j::_=>some j
 | _::r=>lstIn r
def St.kill (s:St) (id:Nat):St:=⟨killL id s.tmps,s.heap.map (killRow id),s.base⟩
def St.drop (s:St) (id:Nat):St:=⟨killL id s.tmps,(s.heap.map (killRow id)).set id none,s.base⟩
def holeOf (id:Nat):Nat→List (Option Row)→Option Nat
 | _,[]=>none
 | i,some (.hole _ _ _ (some k))::r=>if k=id then some i else holeOf id (i+1) r
 | i,_::r=>holeOf id (i+1) r
def pop (o : Oper) (s :St) (K:St→Prop):Prop:=
 match o.op with
 | .store t x y=>
   match o.dst,s.ev x with
   | none,.ptr id off=>
     match s.heap.getD id none with
     | some (.box ty cs)=>
       if off+(s.ev y).cells.length≤cs.length then
        if (s.ev y).cells.all V.cellB then
         match L t with
         | some lt=>if (s.ev y).cells.length=lt.size then K (s.setRow id (.box ty (patch cs off (s.ev y).cells))) else False
         | none=>False
        else False
       else False
     | _=>False
   | none, .elt id r off=>
     match s.heap.getD id none with
     | some (.list ty es rows)=>
       E.row rows r fun cs=>match toTs (s.ev y).cells with
       | some vs=>
         if off+vs.length≤cs.length then
          match L t with
          | some lt=>if vs.length=lt.size then K (s.setRow id (.list ty es (E.lset rows r (patchT cs off vs)))) else False
          | none=>False
         else False
       | none=>
         match s.ev y,off,es with
         | .lst j,0,1=>
           match L t with
           | some lt=>if 1=lt.size then K (s.setRow id (.hole ty rows r (some j))) else False
           | none=>False
         | _,_,_=>False
     | _=>False
   | _,_=>False
 | .panic x=>
   match s.ev x with
   | .ifc t v=>E.pan (.ifc t v) s
   | _=>False
 | .binOp op t x y _=>
   match nilRows L s.heap t (s.ev x) (s.ev y) with
   | some rows=>
     match op with
     | .eql=>E.nilq rows fun b=>K (s.put o.dst (fB b))
     | .neq=>E.nilq rows fun b=>K (s.put o.dst (fB (!b)))
     | _=>False
   | none=>evC E L o s.ev s.heap s.heap.length fun v r=>K ((s.put o.dst v).push r)
 | .slice t x none (some z) none=>
   match s.ev x with
   | .lst id=>
     match L t with
     | some lt=>
       if lt.kind=3 then
        match L lt.elem,s.heap.getD id none,s.ev z with
        | some le,some (.list ty es rows),.t (.flat (.int _ h))=>
          if es=le.size then E.free id∧E.wsin rows h es∧K (((s.kill id).setRow id (.list ty es (E.lsub rows 0 h))).put o.dst (.lst id)) else False
        | _,_,_=>False
       else False
     | none=>False
   | _=>evC E L o s.ev s.heap s.heap.length fun v r=>K ((s.put o.dst v).push r)
 | .mapUpdate t m i y=>
   match o.dst,L t with
   | none, some lt=>
     if lt.kind=7 then
      match s.ev m,(s.ev i).key,s.ev y with
      | .mp id,some q,.t (.flat v)=>
        match s.heap.getD id none with
        | some (.map c es)=>
          if c=lt.len then
           if q.code=lt.len then E.mok q∧K (s.setRow id (.map c (E.mput es q (.flat v))))
           else False
          else False
        | _=>False
      | _,_,_=>False
     else False
   | _,_=>False
 | .buildSlice _ _ ps=>
   match lstIn (ps.toList.map fun p=>s.ev p.2) with
   | none=>evC E L o s.ev s.heap s.heap.length fun v r=>K ((s.put o.dst v).push r)
   | some id=>match s.heap.getD id none with
     | some (.list _ _ rows)=>E.free id∧evC E L o (s.shut id rows).ev (s.shut id rows).heap (s.shut id rows).heap.length fun v r=>K (((s.shut id rows).put o.dst v).push r)
     | _=>False
 | .next it true=>
   match s.ev it with
   | .ptr id 0=>
     match s.heap.getD id none with
     | some (.iter str p)=>E.nxt str p (fun q c=>K ((s.setRow id (.iter str q)).put o.dst (.tup [fB true,fI .i64 p,fI .i32 c]))) (fun _=>K (s.put o.dst (.tup [fB false])))
     | _=>False
   | _=>False
 | .call c=>
   match c.callee with
   | .value f=>
     match s.ev f with
     | .fn g caps=>E.call g (c.args.toList.map s.ev++caps) s fun v s'=>K (s'.put o.dst v)
     | _=>False
   | .builtin .copy =>
     match c.argTypes.toList,c.args.toList with
     | [t, _u], [x, y]=>
       match L t with
       | some lt =>
         if lt.kind = 3 then
          match L lt.elem with
          | some le =>
            if le.size=1 then
             match s.ev x with
             | .win id lo=>
               match s.ev y,s.heap.getD id none with
               | .pre id2 h,some (.list ty es rows)=>
                 if es=1 then
                  if id2=id then E.wsin rows lo es∧E.wsin rows h es∧K ((s.setRow id (.list ty es (E.lcpw rows lo h))).put o.dst (fI .i64 (E.imin h (E.ar .sub .i64 (E.llen rows) lo))))
                  else False
                 else False
               | _,_=>False
             | .lst id=>
               match s.heap.getD id none with
               | some (.list ty es rows)=>
                 if es=1 then
                  match rowsAt s.heap (s.ev y) with
                  | some new=>
                    match holeOf id 0 s.heap with
                    | none=>E.cpok rows new∧K ((s.setRow id (.list ty es (E.lcopy rows new))).put o.dst (fI .i64 (E.imin (E.llen new) (E.llen rows))))
                    | some j=>
                      match s.heap.getD j none with
                      | some (.hole ty' rows' r _)=>E.free id∧E.cpok rows new∧K (((s.drop id).setRow j (.list ty' 1 (E.lset rows' r [.slc (E.lcopy rows new)]))).put o.dst (fI .i64 (E.imin (E.llen new) (E.llen rows))))
                      | _=>False
                  | none=>False
                 else False
               | _=>False
             | _=>False
            else False
          | none=>False
         else False
       | none=>False
     | _,_=>False
   | .builtin .clear=>
     match c.argTypes.toList,c.args.toList with
     | [t], [x] =>
       match L t with
       | some lt =>
         if lt.kind=3 then
          match L lt.elem with
          | some le=>
            match s.ev x with
            | .win id lo=>
              match s.heap.getD id none with
              | some (.list ty es rows)=>
                if es=le.size then
                 if 0<es then E.wsin rows lo es∧K ((s.setRow id (.list ty es (E.lapp (E.lsub rows 0 lo) (E.lzero (E.ar .sub .i64 (E.llen rows) lo) (le.zero.map .flat))))).put o.dst (.tup []))
                 else False
                else False
              | _=>False
            | .lst id=>
              match s.heap.getD id none with
              | some (.list ty es rows)=>
                if es=le.size then
                 if 0<es then K ((s.setRow id (.list ty es (E.lzero (E.llen rows) (le.zero.map .flat)))).put o.dst (.tup []))
                 else False
                else False
              | _=>False
            | _=>False
          | none=>False
         else False
       | none=>False
     | _,_=>False
   | .invoke r m=>E.inv m (s.ev r) (c.args.toList.map s.ev) s fun v s'=>K (s'.put o.dst v)
   | .builtin .append=>
     match c.argTypes.toList,c.args.toList with
     | [t, u], [x, y]=>
       match L t with
       | some lt =>
         if lt.kind =3 then
          match L lt.elem with
          | some le =>
            if 0 < le.size then
             match newRows E L lt.elem t u s.heap (s.ev y) with
             | some new=>
               match s.ev x with
               | .lst id=>
                 match s.heap.getD id none with
                 | some (.list ty es rows)=>
                   if es=le.size then
                    if ty=lt.elem then
                     E.free id∧E.room rows new le.size le.bytes∧K (((s.kill id).setRow id (.list ty es (E.lapp rows new))).put o.dst (.lst id))
                    else False
                   else False
                 | _=>False
               | .t (.flat (.slice none 0 0))=>E.room [] new le.size le.bytes∧K ((s.put o.dst (.lst s.heap.length)).push (some (.list lt.elem le.size new)))
               | _=>False
             | none=>False
            else False
          | none=>False
         else False
       | none=>False
     | _,_=>False
   | _=>evC E L o s.ev s.heap s.heap.length fun v r=>K ((s.put o.dst v).push r)
 | _=>evC E L o s.ev s.heap s.heap.length fun v r=>K ((s.put o.dst v).push r)
def gslot (all:List Oper) (j:Nat):Option Tmp:=
 match all[j]? with
 | some o=>o.dst
 | none=>none
def guarded (E:Env) (all:List Oper) (o:Oper) (s:St) (run skip:Unit→Prop):Prop:=
 match o.guard with
 | none=>run ()
 | some (j,want)=>
   match gslot all j with
   | some t=>
     match s.tmps.getD t .junk with
     | .t (.flat (.bool b))=>
       match want with
       | true=>E.ifb b run skip
       | false=>E.ifb b skip run
     | .tup _=>skip ()
     | _=>False
   | none=>False
def knownAt:List (Tmp × Bool)→Tmp→Option Bool
 | [],_=>none
 | (u,b)::r,t=>if u=t then some b else knownAt r t
def dropK (t:Tmp):List (Tmp × Bool)→List (Tmp × Bool)
 | []=>[]
 | (u,b)::r=>if u=t then dropK t r else (u,b)::dropK t r
def forgetK (kn:List (Tmp × Bool)):Option Tmp→List (Tmp × Bool)
 | none=>kn
 | some t=>dropK t kn
def learn (s:St) (kn:List (Tmp × Bool)) (d:Option Tmp) (x:Operand):List (Tmp × Bool):=
 match d with
 | none=>kn
 | some d=>
   match x with
   | .const (.bool b)=>(d,b)::dropK d kn
   | .tmp t=>
     match s.tmps.getD t .junk with
     | .t (.flat (.bool _))=>
       match knownAt kn t with
       | some b=>(d,b)::dropK d kn
       | none=>dropK d kn
     | _=>dropK d kn
   | _=>dropK d kn
def popK (o:Oper) (kn:List (Tmp × Bool)) (s:St) (K:List (Tmp × Bool)→St→Prop):Prop:=
 match o.op with
 | .pick c x y=>
   match c with
   | .tmp t=>
     match s.tmps.getD t .junk with
     | .t (.flat (.bool _))=>
       match knownAt kn t with
       | some true=>K (learn s kn o.dst x) (s.put o.dst (s.ev x))
       | some false=>K (learn s kn o.dst y) (s.put o.dst (s.ev y))
       | none=>pop E L o s (K (forgetK kn o.dst))
     | _=>pop E L o s (K (forgetK kn o.dst))
   | _=>pop E L o s (K (forgetK kn o.dst))
 | .move x=>K (learn s kn o.dst x) (s.put o.dst (s.ev x))
 | _=>pop E L o s (K (forgetK kn o.dst))
def guardedK (E:Env) (all:List Oper) (o:Oper) (kn:List (Tmp × Bool)) (s:St) (run skip:List (Tmp × Bool)→Prop):Prop:=
 match o.guard with
 | none=>run kn
 | some (j,want)=>
   match gslot all j with
   | some t=>
     match s.tmps.getD t .junk with
     | .t (.flat (.bool b))=>
       match knownAt kn t with
       | some true=>
         match want with
         | true=>run kn
         | false=>skip kn
       | some false=>
         match want with
         | true=>skip kn
         | false=>run kn
       | none=>
         match want with
         | true=>E.ifb b (fun _=>run ((t,true)::kn)) (fun _=>skip ((t,false)::kn))
         | false=>E.ifb b (fun _=>skip ((t,true)::kn)) (fun _=>run ((t,false)::kn))
     | .tup _=>skip kn
     | _=>False
   | none=>False
def pops (all:List Oper):List (Tmp × Bool)→List Oper→St→(St→Prop)→Prop
 | _,[],s,K=>K s
 | kn,o::rest,s,K=>guardedK E all o kn s (fun kn'=>popK E L o kn' s fun kn2 s'=>pops all kn2 rest s' K) (fun kn'=>pops all (forgetK kn' o.dst) rest (s.put o.dst (.tup [])) K)
def popsD (all:List Oper) (base:Nat):Nat→List Oper→St→(St→Prop)→Prop
 | _,[],s,K=>K s
 | i,o::rest,s,K=>
   guarded E all o s (fun _=>evC E L o s.ev (s.heap.take base) (base+i) fun v r=>popsD all base (i+1) rest ((s.put o.dst v).lay (base+i) r) K)
    (fun _=>popsD all base (i+1) rest (s.put o.dst (.tup [])) K)
def headLen:List Oper→Nat
 | []=>0
 | o ::r=>match o.op with
   | .store _ _ _=>0
   | .call c=>match c.callee with
     | .builtin .append=>0
     | .builtin .copy=>0
     | .builtin .clear=>0
     | _=>headLen r+1
   | _=>headLen r+1
def pwp:Code→St→(Ex→St→Prop)→Prop
 | .skip,s,Q=>Q .normal s
 | .label _,s,Q=>Q .normal s
 | .region _ ops false,s,Q=>pops E L ops.toList [] ops.toList s (Q .normal)
 | .region _ ops true,s,Q=>E.draw ops.toList s (Q .normal)
 | .seq a b,s,Q=>pwp a s fun e s'=>match e with
   | .normal=>pwp b s' Q
   | e=>Q e s'
 | .cond c a b,s,Q=>
   match s.ev c with
   | .t (.flat (.bool x))=>E.ifb x (fun _=>pwp a s Q) (fun _=>pwp b s Q)
   | _=>False
 | .block id c,s,Q=>pwp c s fun e s'=>match e with
   | .exit j=>if j=id then Q .normal s' else Q (.exit j) s'
   | e=>Q e s'
 | .exit id,s,Q=>Q (.exit id) s
 | .goto l,s,Q=>Q (.goto l) s
 | .ret,s,Q=>Q .ret s
 | c,s,Q=>E.other c s Q
end
end Ab
end Go.Proofs.YtbpihhelojjedaaDoor
