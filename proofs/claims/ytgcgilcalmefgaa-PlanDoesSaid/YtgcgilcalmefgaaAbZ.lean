/- A plain machine: what a call does, told over values that are trees (definitions alone). -/
import Derived.WalkKit
import Derived.KernelRfl
import Derived.Laws.Tables
import Derived.Laws.MakeOwn
import Derived.Maps.AppendAt
import Derived.Laws.StructEq
import Derived.Still
import Derived.StillTail
namespace Go.Proofs.Ytgcgilcalmefgaa
open Go Go.RowKit
namespace Ab
/-- what one cell of memory that nobody writes holds, with all that hangs on it -/
inductive T where
  | flat (v : Value)
  | slc (rows : List (List T))
  deriving Inhabited
inductive V where
  | t (x : T)
  | agg (cs : List V)
  | tup (vs : List V)
  | lst (id : Nat)
  | ptr (id off : Nat)
  | elt (id : Nat) (row : Int) (off : Nat)
  | ipt (cells : List T) (off : Nat)
  | fn (f : FuncId) (caps : List V)
  | ifc (t : TypeId) (v : V)
  | junk
  deriving Inhabited
abbrev fI (k : IntKind) (n : Int) : V := .t (.flat (.int k n))
abbrev fB (b : Bool) : V := .t (.flat (.bool b))
abbrev fS (s : ByteArray) : V := .t (.flat (.string s))
abbrev vNil : V := .t (.flat (.slice none 0 0))
abbrev Rows := List (List T)
inductive Row where
  | box (ty : TypeId) (cells : List V)
  | list (ty es : Nat) (rows : Rows)
structure St where
  tmps : List V
  heap : List (Option Row)
  base : Nat
inductive Ex where
  | normal | exit (id : Nat) | goto (l : Nat) | ret
/-- what a cell that is compared holds -/
inductive Ck where
  | i (k : IntKind) | s | b
/-- what is known of a type -/
structure Lt where
  kind : Nat := 0
  size : Nat := 1
  bytes : Nat := 8
  zero : List Value := []
  parts : List (Nat × Nat × Bool) := []
  elem : TypeId := 0
  len : Nat := 0
  ik : Option IntKind := none
  ck : Option (List Ck) := none
/-- what the machine does not look into -/
structure Env where
  ar : BinOp → IntKind → Int → Int → Int
  cmp : BinOp → Int → Int → Bool
  conj : List Bool → Bool
  ne0 : Int → Prop
  ge0 : Int → Prop
  conv : IntKind → Int → Int
  slen : ByteArray → Int
  scmp : BinOp → ByteArray → ByteArray → Bool
  cat : ByteArray → ByteArray → ByteArray
  catok : ByteArray → ByteArray → Prop
  sat : ByteArray → Int → Int
  sin : ByteArray → Int → Prop
  ssub : ByteArray → Int → Int → ByteArray
  ssin : ByteArray → Int → Int → Prop
  llen : Rows → Int
  row : Rows → Int → (List T → Prop) → Prop
  lsub : Rows → Int → Int → Rows
  lsin : Rows → Int → Int → Nat → Prop
  lset : Rows → Int → List T → Rows
  lapp : Rows → Rows → Rows
  lzero : Int → List T → Rows
  room : Rows → Rows → Nat → Nat → Prop
  roomz : Int → Int → Nat → Prop
  ifb : Bool → (Unit → Prop) → (Unit → Prop) → Prop
  pcall : FuncId → List V → (V → Prop) → Prop
  call : FuncId → List V → St → (V → St → Prop) → Prop
  draw : List Oper → St → (St → Prop) → Prop
  other : Code → St → (Ex → St → Prop) → Prop
  mki : TypeId → V → (V → Prop) → Prop
  asrt : TypeId → TypeId → Bool → V → (V → Prop) → Prop
  inv : String → V → List V → St → (V → St → Prop) → Prop
/-- the value of one cell -/
def oneV : Value → Bool
  | .agg _ => false
  | .tuple _ => false
  | _ => true
def ofConst : Value → V
  | .agg cs => if cs.toList.all oneV then .agg (cs.toList.map fun v => .t (.flat v)) else .junk
  | .tuple _ => .junk
  | v => .t (.flat v)
def St.ev (s : St) : Operand → V
  | .tmp t => s.tmps.getD t .junk
  | .const v => ofConst v
  | .global g => .t (.flat (.pointer (some ⟨g, 0, none⟩)))
  | .func f => .fn f []
def V.cells : V → List V
  | .agg cs => cs
  | v => [v]
/-- is it the value of one cell, known as such? -/
def V.cellB : V → Bool
  | .t _ => true
  | .lst _ => true
  | .ptr _ _ => true
  | .elt _ _ _ => true
  | .ipt _ _ => true
  | .fn _ _ => true
  | .ifc _ _ => true
  | _ => false
def toTs : List V → Option (List T)
  | [] => some []
  | .t x :: r => match toTs r with
    | some l => some (x :: l)
    | none => none
  | _ :: _ => none
mutual
def V.kill (id : Nat) : V → V
  | .lst j => if j = id then .junk else .lst j
  | .ptr j o => if j = id then .junk else .ptr j o
  | .elt j r o => if j = id then .junk else .elt j r o
  | .agg cs => if killAny id cs then .junk else .agg cs
  | .tup cs => .tup (killL id cs)
  | .fn f cs => .fn f (killL id cs)
  | .ifc t v => .ifc t (V.kill id v)
  | v => v
def killL (id : Nat) : List V → List V
  | [] => []
  | v :: r => V.kill id v :: killL id r
/-- does a value name that row? -/
def V.names (id : Nat) : V → Bool
  | .lst j => j == id
  | .ptr j _ => j == id
  | .elt j _ _ => j == id
  | .agg cs => killAny id cs
  | .tup cs => killAny id cs
  | .fn _ cs => killAny id cs
  | .ifc _ v => V.names id v
  | _ => false
def killAny (id : Nat) : List V → Bool
  | [] => false
  | v :: r => V.names id v || killAny id r
end
def St.put (s : St) (d : Option Tmp) (v : V) : St :=
  match d with
  | some d => ⟨s.tmps.set d v, s.heap, s.base⟩
  | none => s
/-- a row laid at a place -/
def St.lay (s : St) (aid : Nat) : Option Row → St
  | some r => ⟨s.tmps, s.heap.set aid (some r), s.base⟩
  | none => s
def St.push (s : St) : Option Row → St
  | some r => ⟨s.tmps, s.heap ++ [some r], s.base⟩
  | none => s
def St.setRow (s : St) (id : Nat) (r : Row) : St := ⟨s.tmps, s.heap.set id (some r), s.base⟩
def loadV (lt : Lt) (cs : List V) (off : Nat) : Option V :=
  match lt.kind with
  | 1 => if off + lt.size ≤ cs.length then (if ((cs.drop off).take lt.size).all V.cellB then some (.agg ((cs.drop off).take lt.size)) else none) else none
  | 2 => if off + lt.size ≤ cs.length then (if ((cs.drop off).take lt.size).all V.cellB then some (.agg ((cs.drop off).take lt.size)) else none) else none
  | _ => cs[off]?
def tCells : List T → List V
  | [] => []
  | t :: r => .t t :: tCells r
/-- a list of cells with a piece replaced -/
def patch (cs : List V) (off : Nat) (vs : List V) : List V := cs.take off ++ (vs ++ cs.drop (off + vs.length))
def patchT (cs : List T) (off : Nat) (vs : List T) : List T := cs.take off ++ (vs ++ cs.drop (off + vs.length))
def fillV (parts : List (Nat × Nat × Bool)) (cells : List V) : List (Nat × V) → Option (List V)
  | [] => some cells
  | (i, v) :: rest =>
    match parts[i]? with
    | none => none
    | some (off, size, _) =>
      if v.cells.length = size then
        if off + size ≤ cells.length then
          if v.cells.all V.cellB then fillV parts (patch cells off v.cells) rest else none
        else none
      else none
/-- the rows that a literal's parts make: as many as are said, in their order -/
def rowsOf (es : Nat) : Nat → List (Nat × V) → Option Rows
  | _, [] => some []
  | k, (i, v) :: rest =>
    if i = k then
      if v.cells.length = es then
        match toTs v.cells with
        | some r => match rowsOf es (k + 1) rest with
          | some l => some (r :: l)
          | none => none
        | none => none
      else none
    else none
def isCmp : BinOp → Bool
  | .eql | .neq | .lss | .leq | .gtr | .geq => true
  | _ => false
/-- what is to be held, and the value -/
def binV (E : Env) (op : BinOp) : V → V → Option (Prop × V)
  | .t (.flat (.int k x)), .t (.flat (.int k' y)) =>
    match op with
    | .shl | .shr => some (E.ge0 y, fI k (E.ar op k x y))
    | .quo | .rem => if k = k' then some (E.ne0 y, fI k (E.ar op k x y)) else none
    | .add | .sub | .mul | .and | .or | .xor | .andNot => if k = k' then some (True, fI k (E.ar op k x y)) else none
    | .eql | .neq | .lss | .leq | .gtr | .geq => if k = k' then some (True, fB (E.cmp op x y)) else none
  | .t (.flat (.string x)), .t (.flat (.string y)) =>
    match op with
    | .add => some (E.catok x y, fS (E.cat x y))
    | .eql | .neq | .lss | .leq | .gtr | .geq => some (True, fB (E.scmp op x y))
    | _ => none
  | _, _ => none
/-- two cells -/
def eqOne (E : Env) : Ck → V → V → Option Bool
  | .i k, .t (.flat (.int k1 x)), .t (.flat (.int k2 y)) => if k1 = k then if k2 = k then some (E.cmp .eql x y) else none else none
  | .s, .t (.flat (.string x)), .t (.flat (.string y)) => some (E.scmp .eql x y)
  | .b, .t (.flat (.bool x)), .t (.flat (.bool y)) => some (x == y)
  | _, _, _ => none
/-- two structs, cell by cell -/
def eqCells (E : Env) : List Ck → List V → List V → Option (List Bool)
  | [], [], [] => some []
  | c :: ks, x :: xs, y :: ys => match eqOne E c x y, eqCells E ks xs ys with
    | some b, some l => some (b :: l)
    | _, _ => none
  | _, _, _ => none
def eqV (E : Env) (L : TypeId → Option Lt) (op : BinOp) (t : TypeId) : V → V → Option V
  | .agg xs, .agg ys =>
    match L t with
    | some lt =>
      match lt.ck with
      | some ks =>
        match eqCells E ks xs ys with
        | some l =>
          match op with
          | .eql => some (fB (E.conj l))
          | .neq => some (fB (!E.conj l))
          | _ => none
        | none => none
      | none => none
    | none => none
  | .t (.flat (.bool x)), .t (.flat (.bool y)) =>
    match L t with
    | some lt =>
      match lt.kind with
      | 5 => match op with
        | .eql => some (fB (E.conj [x == y]))
        | .neq => some (fB (!E.conj [x == y]))
        | _ => none
      | _ => none
    | none => none
  | _, _ => none
/-- where a cut begins, or ends -/
def numV (ρ : Operand → V) (z : Option Operand) (d : Int) : Option Int := match z with
  | none => some d
  | some z => match ρ z with
    | .t (.flat (.int _ n)) => some n
    | _ => none
section
variable (E : Env) (L : TypeId → Option Lt)
/-- an operation that changes no memory that there is: the value, and a row that it lays -/
def evC (o : Oper) (ρ : Operand → V) (hp : List (Option Row)) (aid : Nat) (k : V → Option Row → Prop) : Prop :=
  match o.op with
  | .move x => k (ρ x) none
  | .assign x => k (ρ x) none
  | .pick c a b =>
    match ρ c with
    | .t (.flat (.bool x)) => E.ifb x (fun _ => k (ρ a) none) (fun _ => k (ρ b) none)
    | _ => False
  | .alloc t =>
    match L t with
    | some lt => k (.ptr aid 0) (some (.box t (lt.zero.map fun v => .t (.flat v))))
    | none => False
  | .box t x =>
    match L t with
    | some _ => if (ρ x).cells.all V.cellB then k (.ptr aid 0) (some (.box t (ρ x).cells)) else False
    | none => False
  | .build t ps =>
    match L t with
    | some lt =>
      if lt.kind = 1 then
        match fillV lt.parts (lt.zero.map fun v => .t (.flat v)) (ps.toList.map fun p => (p.1, ρ p.2)) with
        | some cs => k (.agg cs) none
        | none => False
      else False
    | none => False
  | .buildSlice t n ps =>
    match L t with
    | some lt =>
      if lt.kind = 3 then
        match L lt.elem with
        | some le =>
          if ps.toList.length = n then
            if 0 < le.size then
              if n * le.size ≤ 100000 then
                match rowsOf le.size 0 (ps.toList.map fun p => (p.1, ρ p.2)) with
                | some rows => k (.lst aid) (some (.list lt.elem le.size rows))
                | none => False
              else False
            else False
          else False
        | none => False
      else False
    | none => False
  | .load t x =>
    match L t with
    | some lt =>
      match ρ x with
      | .ptr id off =>
        match hp.getD id none with
        | some (.box _ cs) => match loadV lt cs off with
          | some v => k v none
          | none => False
        | _ => False
      | .elt id r off =>
        match hp.getD id none with
        | some (.list _ _ rows) =>
          E.row rows r fun cs => match loadV lt (tCells cs) off with
            | some v => k v none
            | none => False
        | _ => False
      | .ipt cs off => match loadV lt (tCells cs) off with
        | some v => k v none
        | none => False
      | _ => False
    | none => False
  | .nilCheck x =>
    match ρ x with
    | .ptr id off => k (.ptr id off) none
    | .elt id r off => k (.elt id r off) none
    | .ipt cs off => k (.ipt cs off) none
    | .fn f cs => k (.fn f cs) none
    | _ => False
  | .binOp op t x y _ =>
    match binV E op (ρ x) (ρ y) with
    | some (c, v) => c ∧ k v none
    | none =>
      match eqV E L op t (ρ x) (ρ y) with
      | some v => k v none
      | none => False
  | .makeInterface xt x => E.mki xt (ρ x) fun v => k v none
  | .typeAssert x xt at_ ok => E.asrt xt at_ ok (ρ x) fun v => k v none
  | .unOp op _ x =>
    match op, ρ x with
    | .not, .t (.flat (.bool b)) => k (fB (!b)) none
    | .neg, .t (.flat (.int i n)) => k (fI i (E.ar .sub i 0 n)) none
    | _, _ => False
  | .convert src dst x =>
    match L src, L dst with
    | some ls, some ld =>
      match ρ x with
      | .t (.flat (.int _ n)) => match ls.ik, ld.ik with
        | some _, some i => k (fI i (E.conv i n)) none
        | _, _ => False
      | .t (.flat (.string s)) => if ls.kind = 4 then (if ld.kind = 4 then k (fS s) none else False) else False
      | _ => False
    | _, _ => False
  | .fieldAddr t x f =>
    match L t with
    | some lt =>
      if lt.kind = 1 then
        match lt.parts[f]? with
        | some (d, size, _) =>
          if 0 < size then
            match ρ x with
            | .ptr id off => k (.ptr id (off + d)) none
            | .elt id r off => k (.elt id r (off + d)) none
            | .ipt cs off => k (.ipt cs (off + d)) none
            | _ => False
          else False
        | none => False
      else False
    | none => False
  | .field t x f =>
    match L t with
    | some lt =>
      if lt.kind = 1 then
        match lt.parts[f]?, ρ x with
        | some (d, size, ag), .agg cs =>
          match ag with
          | true => if d + size ≤ cs.length then k (.agg ((cs.drop d).take size)) none else False
          | false => match cs[d]? with
            | some v => k v none
            | none => False
        | _, _ => False
      else False
    | none => False
  | .indexAddr t x i =>
    match L t with
    | some lt =>
      if lt.kind = 3 then
        match L lt.elem with
        | some le =>
          match ρ x, ρ i with
          | .t (.slc rows), .t (.flat (.int _ n)) =>
            E.row rows n fun cs => if cs.length = le.size then k (.ipt cs 0) none else False
          | .lst id, .t (.flat (.int _ n)) =>
            match hp.getD id none with
            | some (.list _ es rows) =>
              E.row rows n fun _ => if es = le.size then k (.elt id n 0) none else False
            | _ => False
          | _, _ => False
        | none => False
      else
        if lt.kind = 2 then
          match L lt.elem with
          | some le =>
            match ρ x, ρ i with
            | .ptr id off, .t (.flat (.int _ (.ofNat m))) => if m < lt.len then (if 0 < le.size then k (.ptr id (off + m * le.size)) none else False) else False
            | .ipt cs off, .t (.flat (.int _ (.ofNat m))) => if m < lt.len then (if 0 < le.size then k (.ipt cs (off + m * le.size)) none else False) else False
            | _, _ => False
          | none => False
        else False
    | none => False
  | .index t x i =>
    match L t with
    | some lt =>
      if lt.kind = 4 then
        match ρ x, ρ i with
        | .t (.flat (.string s)), .t (.flat (.int _ n)) =>
          E.sin s n ∧ k (fI .u8 (E.sat s n)) none
        | _, _ => False
      else False
    | none => False
  | .extract x i =>
    match ρ x with
    | .tup vs => match vs[i]? with
      | some v => k v none
      | none => False
    | _ => False
  | .slice t x lo hi mx =>
    match L t, mx with
    | some lt, none =>
      match ρ x with
      | .t (.flat (.string s)) =>
        if lt.kind = 4 then
          match numV ρ lo 0, numV ρ hi (E.slen s) with
          | some l, some h => E.ssin s l h ∧ k (fS (E.ssub s l h)) none
          | _, _ => False
        else False
      | .t (.slc rows) =>
        if lt.kind = 3 then
          match L lt.elem with
          | some le =>
            match numV ρ lo 0, numV ρ hi (E.llen rows) with
            | some l, some h => E.lsin rows l h le.size ∧ k (.t (.slc (E.lsub rows l h))) none
            | _, _ => False
          | none => False
        else False
      | _ => False
    | _, _ => False
  | .makeFunc fn first caps =>
    match fn, first.toList with
    | .func f, [] => k (.fn f (caps.toList.map ρ)) none
    | _, _ => False
  | .makeSlice t l c =>
    match L t with
    | some lt =>
      if lt.kind = 3 then
        match L lt.elem with
        | some le =>
          if 0 < le.size then
            match ρ l, ρ c with
            | .t (.flat (.int _ n)), .t (.flat (.int _ m)) =>
              E.roomz n m le.bytes ∧ k (.lst aid) (some (.list lt.elem le.size (E.lzero n (le.zero.map .flat))))
            | _, _ => False
          else False
        | none => False
      else False
    | none => False
  | .call c =>
    match c.callee with
    | .builtin .len =>
      match c.argTypes.toList, c.args.toList with
      | [t], [x] =>
        match L t with
        | some lt =>
          match ρ x with
          | .t (.flat (.string s)) => if lt.kind = 4 then k (fI .i64 (E.slen s)) none else False
          | .t (.slc rows) => if lt.kind = 3 then k (fI .i64 (E.llen rows)) none else False
          | .t (.flat (.slice none n _)) => if lt.kind = 3 then k (fI .i64 n) none else False
          | .lst id =>
            if lt.kind = 3 then
              match hp.getD id none with
              | some (.list _ _ rows) => k (fI .i64 (E.llen rows)) none
              | _ => False
            else False
          | _ => False
        | none => False
      | _, _ => False
    | .value f =>
      match ρ f with
      | .fn g caps => E.pcall g (c.args.toList.map ρ ++ caps) fun v => k v none
      | _ => False
    | _ => False
  | _ => False
/-- the rows behind a slice -/
def rowsAt (hp : List (Option Row)) : V → Option Rows
  | .t (.slc rows) => some rows
  | .t (.flat (.slice none 0 0)) => some []
  | .lst id => match hp.getD id none with
    | some (.list _ _ rows) => some rows
    | _ => none
  | _ => none
def killRow (id : Nat) : Option Row → Option Row
  | some (.box ty cs) => some (.box ty (killL id cs))
  | some (.list ty es rows) => some (.list ty es rows)
  | none => none
def St.kill (s : St) (id : Nat) : St := ⟨killL id s.tmps, s.heap.map (killRow id), s.base⟩
def pop (o : Oper) (s : St) (K : St → Prop) : Prop :=
  match o.op with
  | .store t x y =>
    match o.dst, s.ev x with
    | none, .ptr id off =>
      match s.heap.getD id none with
      | some (.box ty cs) =>
        if off + (s.ev y).cells.length ≤ cs.length then
          if (s.ev y).cells.all V.cellB then
            match L t with
            | some lt => if (s.ev y).cells.length = lt.size then K (s.setRow id (.box ty (patch cs off (s.ev y).cells))) else False
            | none => False
          else False
        else False
      | _ => False
    | none, .elt id r off =>
      match s.heap.getD id none with
      | some (.list ty es rows) =>
        E.row rows r fun cs => match toTs (s.ev y).cells with
        | some vs =>
          if off + vs.length ≤ cs.length then
            match L t with
            | some lt => if vs.length = lt.size then K (s.setRow id (.list ty es (E.lset rows r (patchT cs off vs)))) else False
            | none => False
          else False
        | none => False
      | _ => False
    | _, _ => False
  | .call c =>
    match c.callee with
    | .value f =>
      match s.ev f with
      | .fn g caps => E.call g (c.args.toList.map s.ev ++ caps) s fun v s' => K (s'.put o.dst v)
      | _ => False
    | .invoke r m => E.inv m (s.ev r) (c.args.toList.map s.ev) s fun v s' => K (s'.put o.dst v)
    | .builtin .append =>
      match c.argTypes.toList, c.args.toList with
      | [t, u], [x, y] =>
        match L t with
        | some lt =>
          if lt.kind = 3 then
            match L lt.elem with
            | some le =>
              if 0 < le.size then
                if u = t then
                  match rowsAt s.heap (s.ev y) with
                  | some new =>
                    match s.ev x with
                    | .lst id =>
                      match s.heap.getD id none with
                      | some (.list ty es rows) =>
                        if es = le.size then
                          if ty = lt.elem then
                            E.room rows new le.size le.bytes ∧ K (((s.kill id).setRow id (.list ty es (E.lapp rows new))).put o.dst (.lst id))
                          else False
                        else False
                      | _ => False
                    | .t (.flat (.slice none 0 0)) => E.room [] new le.size le.bytes ∧ K ((s.put o.dst (.lst s.heap.length)).push (some (.list lt.elem le.size new)))
                    | _ => False
                  | none => False
                else False
              else False
            | none => False
          else False
        | none => False
      | _, _ => False
    | _ => evC E L o s.ev s.heap s.heap.length fun v r => K ((s.put o.dst v).push r)
  | _ => evC E L o s.ev s.heap s.heap.length fun v r => K ((s.put o.dst v).push r)
def gslot (all : List Oper) (j : Nat) : Option Tmp :=
  match all[j]? with
  | some o => o.dst
  | none => none
/-- is the operation wanted? told by cases -/
def guarded (E : Env) (all : List Oper) (o : Oper) (s : St) (run skip : Unit → Prop) : Prop :=
  match o.guard with
  | none => run ()
  | some (j, want) =>
    match gslot all j with
    | some t =>
      match s.tmps.getD t .junk with
      | .t (.flat (.bool b)) =>
        match want with
        | true => E.ifb b run skip
        | false => E.ifb b skip run
      | .tup _ => skip ()
      | _ => False
    | none => False
/-- the truths that were told before, by slots -/
def knownAt : List (Tmp × Bool) → Tmp → Option Bool
  | [], _ => none
  | (u, b) :: r, t => if u = t then some b else knownAt r t
def dropK (t : Tmp) : List (Tmp × Bool) → List (Tmp × Bool)
  | [] => []
  | (u, b) :: r => if u = t then dropK t r else (u, b) :: dropK t r
def forgetK (kn : List (Tmp × Bool)) : Option Tmp → List (Tmp × Bool)
  | none => kn
  | some t => dropK t kn
def learn (s : St) (kn : List (Tmp × Bool)) (d : Option Tmp) (x : Operand) : List (Tmp × Bool) :=
  match d with
  | none => kn
  | some d =>
    match x with
    | .const (.bool b) => (d, b) :: dropK d kn
    | .tmp t =>
      match s.tmps.getD t .junk with
      | .t (.flat (.bool _)) =>
        match knownAt kn t with
        | some b => (d, b) :: dropK d kn
        | none => dropK d kn
      | _ => dropK d kn
    | _ => dropK d kn
def popK (o : Oper) (kn : List (Tmp × Bool)) (s : St) (K : List (Tmp × Bool) → St → Prop) : Prop :=
  match o.op with
  | .pick c x y =>
    match c with
    | .tmp t =>
      match s.tmps.getD t .junk with
      | .t (.flat (.bool _)) =>
        match knownAt kn t with
        | some true => K (learn s kn o.dst x) (s.put o.dst (s.ev x))
        | some false => K (learn s kn o.dst y) (s.put o.dst (s.ev y))
        | none => pop E L o s (K (forgetK kn o.dst))
      | _ => pop E L o s (K (forgetK kn o.dst))
    | _ => pop E L o s (K (forgetK kn o.dst))
  | .move x => K (learn s kn o.dst x) (s.put o.dst (s.ev x))
  | _ => pop E L o s (K (forgetK kn o.dst))
def guardedK (E : Env) (all : List Oper) (o : Oper) (kn : List (Tmp × Bool)) (s : St) (run skip : List (Tmp × Bool) → Prop) : Prop :=
  match o.guard with
  | none => run kn
  | some (j, want) =>
    match gslot all j with
    | some t =>
      match s.tmps.getD t .junk with
      | .t (.flat (.bool b)) =>
        match knownAt kn t with
        | some true =>
          match want with
          | true => run kn
          | false => skip kn
        | some false =>
          match want with
          | true => skip kn
          | false => run kn
        | none =>
          match want with
          | true => E.ifb b (fun _ => run ((t, true) :: kn)) (fun _ => skip ((t, false) :: kn))
          | false => E.ifb b (fun _ => skip ((t, true) :: kn)) (fun _ => run ((t, false) :: kn))
      | .tup _ => skip kn
      | _ => False
    | none => False
def pops (all : List Oper) : List (Tmp × Bool) → List Oper → St → (St → Prop) → Prop
  | _, [], s, K => K s
  | kn, o :: rest, s, K => guardedK E all o kn s (fun kn' => popK E L o kn' s fun kn2 s' => pops all kn2 rest s' K) (fun kn' => pops all (forgetK kn' o.dst) rest (s.put o.dst (.tup [])) K)
/-- a region's head, in whichever order: each row has a place of its own, each operation looks at what was there ahead of the region -/
def popsD (all : List Oper) (base : Nat) : Nat → List Oper → St → (St → Prop) → Prop
  | _, [], s, K => K s
  | i, o :: rest, s, K =>
    guarded E all o s (fun _ => evC E L o s.ev (s.heap.take base) (base + i) fun v r => popsD all base (i + 1) rest ((s.put o.dst v).lay (base + i) r) K)
      (fun _ => popsD all base (i + 1) rest (s.put o.dst (.tup [])) K)
/-- those ahead of the first operation that changes what there is -/
def headLen : List Oper → Nat
  | [] => 0
  | o :: r => match o.op with
    | .store _ _ _ => 0
    | .call c => match c.callee with
      | .builtin .append => 0
      | .builtin .copy => 0
      | .builtin .clear => 0
      | _ => headLen r + 1
    | _ => headLen r + 1
def pwp : Code → St → (Ex → St → Prop) → Prop
  | .skip, s, Q => Q .normal s
  | .label _, s, Q => Q .normal s
  | .region _ ops false, s, Q => pops E L ops.toList [] ops.toList s (Q .normal)
  | .region _ ops true, s, Q => E.draw ops.toList s (Q .normal)
  | .seq a b, s, Q => pwp a s fun e s' => match e with
    | .normal => pwp b s' Q
    | e => Q e s'
  | .cond c a b, s, Q =>
    match s.ev c with
    | .t (.flat (.bool x)) => E.ifb x (fun _ => pwp a s Q) (fun _ => pwp b s Q)
    | _ => False
  | .block id c, s, Q => pwp c s fun e s' => match e with
    | .exit j => if j = id then Q .normal s' else Q (.exit j) s'
    | e => Q e s'
  | .exit id, s, Q => Q (.exit id) s
  | .goto l, s, Q => Q (.goto l) s
  | .ret, s, Q => Q .ret s
  | c, s, Q => E.other c s Q
end
end Ab
end Go.Proofs.Ytgcgilcalmefgaa
namespace Go.Proofs.Ytgcgilcalmefgaa
open Go Go.RowKit
namespace Ab
def beqV : Value → Value → Bool
  | .int k a, .int k' b => decide (k = k') && decide (a = b)
  | .bool a, .bool b => a == b
  | .string a, .string b => decide (a = b)
  | .slice none a b, .slice none c d => a == c && b == d
  | .pointer none, .pointer none => true
  | .map none, .map none => true
  | .chan none, .chan none => true
  | .nilFunc, .nilFunc => true
  | .nilIface, .nilIface => true
  | _, _ => false
theorem beqV_eq {a b : Value} (h : beqV a b = true) : a = b := by
  unfold beqV at h
  split at h <;> simp_all
def beqL : List Value → List Value → Bool
  | [], [] => true
  | a :: x, b :: y => beqV a b && beqL x y
  | _, _ => false
theorem beqL_eq : ∀ {a b : List Value}, beqL a b = true → a = b
  | [], [], _ => rfl
  | a :: x, b :: y, h => by
    simp only [beqL, Bool.and_eq_true] at h
    rw [beqV_eq h.1, beqL_eq h.2]
  | [], _ :: _, h => by simp [beqL] at h
  | _ :: _, [], h => by simp [beqL] at h
def aggD : TypeDesc → Bool
  | .struct _ => true
  | .array _ _ => true
  | _ => false
def partOf (P : Program) (f : Field) : Nat × Nat × Bool := (f.offset, P.cellsOf f.type, match P.underlying f.type with | some d => aggD d | none => false)
def ckOk (P : Program) (f : Field) (i : Nat) (c : Ck) : Prop :=
  f.name ≠ "_" ∧ f.offset = i ∧ match c with
    | .i k => P.underlying f.type = some (.int k)
    | .s => P.underlying f.type = some .string
    | .b => P.underlying f.type = some .bool
/-- may the type's values be compared cell by cell? -/
def EqOk (P : Program) (t : TypeId) (lt : Lt) : Prop :=
  ∀ ks, lt.ck = some ks → P.stoodInHeld t = false ∧ P.eqGuardType P.depth t = false ∧ ∃ fs, P.underlying t = some (.struct fs) ∧ fs.size = ks.length ∧ ∀ (i : Nat) f c, fs[i]? = some f → ks[i]? = some c → ckOk P f i c
def ckB (P : Program) : Nat → List Field → List Ck → Bool
  | _, [], [] => true
  | i, f :: fs, c :: cs => !(f.name == "_") && f.offset == i && (match c, P.underlying f.type with
    | .i k, some (.int k') => decide (k = k')
    | .s, some .string => true
    | .b, some .bool => true
    | _, _ => false) && ckB P (i + 1) fs cs
  | _, _, _ => false
theorem ckB_ok {P : Program} : ∀ {fs : List Field} {ks : List Ck} {k : Nat}, ckB P k fs ks = true → fs.length = ks.length ∧ ∀ (i : Nat) f c, fs[i]? = some f → ks[i]? = some c → ckOk P f (k + i) c
  | [], [], k, _ => ⟨rfl, fun i f c h => by simp at h⟩
  | f :: fs, c :: cs, k, h => by
    simp only [ckB, Bool.and_eq_true, Bool.not_eq_true', beq_eq_false_iff_ne, beq_iff_eq] at h
    obtain ⟨⟨⟨h1, h2⟩, h3⟩, h4⟩ := h
    obtain ⟨g1, g2⟩ := ckB_ok h4
    refine ⟨by simp [g1], fun i f' c' q1 q2 => ?_⟩
    cases i with
    | zero =>
      simp at q1 q2
      subst q1
      subst q2
      refine ⟨h1, h2, ?_⟩
      split at h3
      · simp at h3; subst h3; assumption
      · assumption
      · assumption
      · cases h3
    | succ i => rw [show k + (i + 1) = k + 1 + i by omega]; exact g2 i f' c' (by simpa using q1) (by simpa using q2)
  | [], _ :: _, _, h => by simp [ckB] at h
  | _ :: _, [], _, h => by simp [ckB] at h
def eqB (P : Program) (t : TypeId) (lt : Lt) : Bool :=
  match lt.ck with
  | none => true
  | some ks => !P.stoodInHeld t && !P.eqGuardType P.depth t && (match P.underlying t with
    | some (.struct fs) => ckB P 0 fs.toList ks
    | _ => false)
theorem eqB_ok {P : Program} {t : TypeId} {lt : Lt} (h : eqB P t lt = true) : EqOk P t lt := by
  intro ks hk
  unfold eqB at h
  rw [hk] at h
  simp only [Bool.and_eq_true, Bool.not_eq_true'] at h
  obtain ⟨⟨h1, h2⟩, h3⟩ := h
  refine ⟨h1, h2, ?_⟩
  split at h3
  · rename_i fs hfs
    obtain ⟨g1, g2⟩ := ckB_ok h3
    exact ⟨fs, hfs, by simpa using g1, fun i f c q1 q2 => by have := g2 i f c (by simpa using q1) q2; rwa [Nat.zero_add] at this⟩
  · cases h3
def KindOk (P : Program) (lt : Lt) (d : TypeDesc) : Prop :=
  (lt.kind = 1 → ∃ fs, d = .struct fs ∧ fs.toList.map (partOf P) = lt.parts ∧ ∀ f ∈ fs, (∃ i, P.info? f.type = some i) ∧ ∃ d, P.underlying f.type = some d) ∧
  (lt.kind = 2 → d = .array lt.len lt.elem) ∧
  (lt.kind = 3 → d = .slice lt.elem) ∧
  (lt.kind = 4 → d = .string) ∧
  (aggD d = true ↔ (lt.kind = 1 ∨ lt.kind = 2)) ∧
  (∀ k, lt.ik = some k → d = .int k) ∧
  (lt.ik = none → ∀ k, d ≠ .int k) ∧
  (lt.kind = 5 → d = .bool)
def LtOk (P : Program) (t : TypeId) (lt : Lt) : Prop :=
  ∃ info d z, P.info? t = some info ∧ P.underlying t = some d ∧ info.size = lt.size ∧ info.bytes = lt.bytes ∧ info.zero = some z ∧ z.cells.toList = lt.zero ∧
    (∀ v ∈ lt.zero, oneV v = true) ∧ lt.zero.length = lt.size ∧ KindOk P lt d ∧ EqOk P t lt
def LayOk (P : Program) (L : TypeId → Option Lt) : Prop := ∀ t lt, L t = some lt → LtOk P t lt
def partsB : List (Nat × Nat × Bool) → List (Nat × Nat × Bool) → Bool
  | [], [] => true
  | (a, b, c) :: x, (d, e, f) :: y => a == d && b == e && c == f && partsB x y
  | _, _ => false
theorem partsB_eq : ∀ {a b : List (Nat × Nat × Bool)}, partsB a b = true → a = b
  | [], [], _ => rfl
  | (a, b, c) :: x, (d, e, f) :: y, h => by
    simp only [partsB, Bool.and_eq_true, beq_iff_eq] at h
    obtain ⟨⟨⟨rfl, rfl⟩, rfl⟩, h⟩ := h
    rw [partsB_eq h]
  | [], _ :: _, h => by simp [partsB] at h
  | _ :: _, [], h => by simp [partsB] at h
def kindB (P : Program) (lt : Lt) (d : TypeDesc) : Bool :=
  match d with
  | .struct fs => lt.kind == 1 && lt.ik.isNone && partsB (fs.toList.map (partOf P)) lt.parts && fs.all fun f => (P.info? f.type).isSome && (P.underlying f.type).isSome
  | .array n e => lt.kind == 2 && lt.ik.isNone && n == lt.len && e == lt.elem
  | .slice e => lt.kind == 3 && lt.ik.isNone && e == lt.elem
  | .string => lt.kind == 4 && lt.ik.isNone
  | .bool => lt.kind == 5 && lt.ik.isNone
  | .int k => lt.kind == 0 && (match lt.ik with | some j => decide (j = k) | none => false)
  | _ => lt.kind == 0 && lt.ik.isNone
theorem kindB_ok {P : Program} {lt : Lt} {d : TypeDesc} (h : kindB P lt d = true) : KindOk P lt d := by
  unfold kindB at h
  unfold KindOk
  split at h
  · rename_i fs
    simp only [Bool.and_eq_true, beq_iff_eq, Option.isNone_iff_eq_none, Array.all_eq_true_iff_forall_mem, Option.isSome_iff_exists] at h
    obtain ⟨⟨⟨h1, h2⟩, h3⟩, h4⟩ := h
    refine ⟨fun _ => ⟨fs, rfl, partsB_eq h3, h4⟩, ?_, ?_, ?_, ?_, ?_, ?_, ?_⟩ <;> simp_all [aggD]
  · simp only [Bool.and_eq_true, beq_iff_eq, Option.isNone_iff_eq_none] at h
    obtain ⟨⟨⟨h1, h2⟩, h3⟩, h4⟩ := h
    refine ⟨?_, ?_, ?_, ?_, ?_, ?_, ?_, ?_⟩ <;> simp_all [aggD]
  · simp only [Bool.and_eq_true, beq_iff_eq, Option.isNone_iff_eq_none] at h
    obtain ⟨⟨h1, h2⟩, h3⟩ := h
    refine ⟨?_, ?_, ?_, ?_, ?_, ?_, ?_, ?_⟩ <;> simp_all [aggD]
  · simp only [Bool.and_eq_true, beq_iff_eq, Option.isNone_iff_eq_none] at h
    refine ⟨?_, ?_, ?_, ?_, ?_, ?_, ?_, ?_⟩ <;> simp_all [aggD]
  · simp only [Bool.and_eq_true, beq_iff_eq, Option.isNone_iff_eq_none] at h
    refine ⟨?_, ?_, ?_, ?_, ?_, ?_, ?_, ?_⟩ <;> simp_all [aggD]
  · simp only [Bool.and_eq_true, beq_iff_eq] at h
    obtain ⟨h1, h2⟩ := h
    cases hk : lt.ik with
    | none => rw [hk] at h2; simp at h2
    | some j =>
      rw [hk] at h2
      simp only [decide_eq_true_eq] at h2
      subst h2
      refine ⟨?_, ?_, ?_, ?_, ?_, ?_, ?_, ?_⟩ <;> simp_all [aggD]
  · rename_i hs ha hl hst hbo hi
    simp only [Bool.and_eq_true, beq_iff_eq, Option.isNone_iff_eq_none] at h
    refine ⟨?_, ?_, ?_, ?_, ?_, ?_, ?_, ?_⟩
    · intro e; omega
    · intro e; omega
    · intro e; omega
    · intro e; omega
    · cases d <;> simp_all [aggD]
    · simp_all
    · intro _ k e; exact hi k e
    · intro e; omega
def ltB (P : Program) (t : TypeId) (lt : Lt) : Bool :=
  match P.info? t, P.underlying t with
  | some info, some d => info.size == lt.size && info.bytes == lt.bytes && (match info.zero with | some z => beqL z.cells.toList lt.zero | none => false) && lt.zero.all oneV && lt.zero.length == lt.size && kindB P lt d && eqB P t lt
  | _, _ => false
theorem ltB_ok {P : Program} {t : TypeId} {lt : Lt} (h : ltB P t lt = true) : LtOk P t lt := by
  unfold ltB at h
  split at h
  · rename_i info d hi hd
    simp only [Bool.and_eq_true, beq_iff_eq, List.all_eq_true] at h
    obtain ⟨⟨⟨⟨⟨⟨h1, h2⟩, h3⟩, h4⟩, h5⟩, h6⟩, h7⟩ := h
    split at h3
    · rename_i z hz
      exact ⟨info, d, z, hi, hd, h1, h2, hz, beqL_eq h3, h4, h5, kindB_ok h6, eqB_ok h7⟩
    · cases h3
  · cases h
theorem blt_no {n t : Nat} (h : n ≤ t) : Nat.blt t n = false := by
  cases hb : Nat.blt t n with
  | false => rfl
  | true => have := Nat.le_of_ble_eq_true hb; omega
def layB (P : Program) (L : TypeId → Option Lt) : Nat → Bool
  | 0 => true
  | n + 1 => (match L n with
    | none => true
    | some lt => ltB P n lt) && layB P L n
theorem layB_ok {P : Program} {L : TypeId → Option Lt} : ∀ n, layB P L n = true → ∀ t, t < n → ∀ lt, L t = some lt → LtOk P t lt
  | 0, _, t, h => by omega
  | n + 1, hb, t, h => by
    simp only [layB, Bool.and_eq_true] at hb
    intro lt ht
    by_cases e : t = n
    · subst e
      rw [ht] at hb
      exact ltB_ok hb.1
    · exact layB_ok n hb.2 t (by omega) lt ht
theorem layOk_fn {P : Program} (n : Nat) (L : TypeId → Option Lt) (hn : ∀ t, n ≤ t → L t = none) (h : layB P L n = true) : LayOk P L := fun t lt ht => by
  rcases Nat.lt_or_ge t n with hl | hl
  · exact layB_ok n h t hl lt ht
  · rw [hn t hl] at ht; cases ht
end Ab
end Go.Proofs.Ytgcgilcalmefgaa
namespace Go.Proofs.Ytgcgilcalmefgaa
open Go Go.RowKit
set_option linter.unusedVariables false
set_option linter.unusedSimpArgs false
namespace Ab
/-- the cells of closed rows, from an address on -/
inductive TRep (G : Nat → Prop) (w : World) : T → Value → Prop
  | flat (v : Value) (h : oneV v = true) : TRep G w (.flat v) v
  | slc (rows : Rows) (a : Option Addr) (b o es cap : Nat) (u : Nat → Nat → Value) (hcap : rows.length ≤ cap) (hnil : a = none → cap = 0)
      (ha : rows ≠ [] → a = some ⟨b, o, none⟩ ∧ G b)
      (hes : ∀ row ∈ rows, row.length = es)
      (hc : ∀ (i j : Nat) (t : T), (rows[i]?).bind (fun r => r[j]?) = some t → w.cell? ⟨b, o + (i * es + j), none⟩ = some (u i j))
      (hr : ∀ (i j : Nat) (t : T), (rows[i]?).bind (fun r => r[j]?) = some t → TRep G w t (u i j)) : TRep G w (.slc rows) (.slice a rows.length cap)
inductive Blk where
  | nil
  | at (b cap es len : Nat)
structure Cx where
  at_ : Nat → Option Blk
  G : Nat → Prop
inductive VRep (cx : Cx) (w : World) : V → Value → Prop
  | t (x : T) (v : Value) (h : TRep cx.G w x v) : VRep cx w (.t x) v
  | agg (cs : List V) (vs : Array Value) (hn : vs.size = cs.length) (hc : ∀ c ∈ cs, c.cellB = true)
      (hr : ∀ (i : Nat) (c : V) (u : Value), cs[i]? = some c → vs[i]? = some u → VRep cx w c u) : VRep cx w (.agg cs) (.agg vs)
  | tup (cs : List V) (vs : Array Value) (hn : vs.size = cs.length)
      (hr : ∀ (i : Nat) (c : V) (u : Value), cs[i]? = some c → vs[i]? = some u → VRep cx w c u) : VRep cx w (.tup cs) (.tuple vs)
  | lstN (id : Nat) (h : cx.at_ id = some .nil) : VRep cx w (.lst id) (.slice none 0 0)
  | lst (id b cap es len : Nat) (h : cx.at_ id = some (.at b cap es len)) : VRep cx w (.lst id) (.slice (some ⟨b, 0, none⟩) len cap)
  | ptr (id off b cap es len : Nat) (h : cx.at_ id = some (.at b cap es len)) : VRep cx w (.ptr id off) (.pointer (some ⟨b, off, none⟩))
  | elt (id : Nat) (row : Int) (off b cap es len : Nat) (h : cx.at_ id = some (.at b cap es len)) : VRep cx w (.elt id row off) (.pointer (some ⟨b, row.toNat * es + off, none⟩))
  | ipt (cells : List T) (off b o : Nat) (u : Nat → Value) (hG : cx.G b) (hc : ∀ (j : Nat) (t : T), cells[j]? = some t → w.cell? ⟨b, o + j, none⟩ = some (u j))
      (hr : ∀ (j : Nat) (t : T), cells[j]? = some t → TRep cx.G w t (u j)) : VRep cx w (.ipt cells off) (.pointer (some ⟨b, o + off, none⟩))
  | fn (f : FuncId) (cs : List V) (vs : Array Value) (hn : vs.size = cs.length)
      (hr : ∀ (i : Nat) (c : V) (u : Value), cs[i]? = some c → vs[i]? = some u → VRep cx w c u) : VRep cx w (.fn f cs) (.func (.func f) #[] vs)
  | ifc (t : TypeId) (v : V) (u : Value) (h : VRep cx w v u) : VRep cx w (.ifc t v) (.iface t u)
  | junk (v : Value) : VRep cx w .junk v
/-- worlds that hold the same in the blocks of G -/
def Same (G : Nat → Prop) (w w' : World) : Prop := ∀ b, G b → w'.heap[b]? = w.heap[b]?
theorem Same.cell {G : Nat → Prop} {w w' : World} (h : Same G w w') {b o : Nat} (hb : G b) : w'.cell? ⟨b, o, none⟩ = w.cell? ⟨b, o, none⟩ := World.cell?_of_block (w := w) (h b hb)
theorem Same.refl (G : Nat → Prop) (w : World) : Same G w w := fun _ _ => rfl
theorem TRep.mono {G G' : Nat → Prop} {w w' : World} {x : T} {v : Value} (h : TRep G w x v) (hs : Same G w w') (hg : ∀ b, G b → G' b) : TRep G' w' x v := by
  induction h with
  | flat v h => exact .flat v h
  | slc rows a b o es cap u hcap hnil ha hes hc hr ih =>
    refine .slc rows a b o es cap u hcap hnil (fun hne => ⟨(ha hne).1, hg _ (ha hne).2⟩) hes (fun i j t ht => ?_) ih
    have hne : rows ≠ [] := by rintro rfl; simp at ht
    rw [hs.cell (ha hne).2]
    exact hc i j t ht
structure Cx.le (cx cx' : Cx) : Prop where
  at_ : ∀ id B, cx.at_ id = some B → cx'.at_ id = some B
  G : ∀ b, cx.G b → cx'.G b
theorem Cx.le.refl (cx : Cx) : cx.le cx := ⟨fun _ _ h => h, fun _ h => h⟩
theorem VRep.mono {cx cx' : Cx} {w w' : World} {x : V} {v : Value} (h : VRep cx w x v) (hs : Same cx.G w w') (hc : cx.le cx') : VRep cx' w' x v := by
  induction h with
  | t x v h => exact .t x v (h.mono hs hc.G)
  | agg cs vs hn hcb hr ih => exact .agg cs vs hn hcb ih
  | tup cs vs hn hr ih => exact .tup cs vs hn ih
  | lstN id h => exact .lstN id (hc.at_ _ _ h)
  | lst id b cap es len h => exact .lst id b cap es len (hc.at_ _ _ h)
  | ptr id off b cap es len h => exact .ptr id off b cap es len (hc.at_ _ _ h)
  | elt id row off b cap es len h => exact .elt id row off b cap es len (hc.at_ _ _ h)
  | ipt cells off b o u hG hcell hr => exact .ipt cells off b o u (hc.G _ hG) (fun j t h => by rw [hs.cell hG]; exact hcell j t h) (fun j t h => (hr j t h).mono hs hc.G)
  | fn f cs vs hn hr ih => exact .fn f cs vs hn ih
  | ifc t v u h ih => exact .ifc t v u ih
  | junk v => exact .junk v
/-- a list of values -/
def VReps (cx : Cx) (w : World) (cs : List V) (vs : Array Value) : Prop := vs.size = cs.length ∧ ∀ (i : Nat) (c : V) (u : Value), cs[i]? = some c → vs[i]? = some u → VRep cx w c u
theorem VReps.mono {cx cx' : Cx} {w w' : World} {cs : List V} {vs : Array Value} (h : VReps cx w cs vs) (hs : Same cx.G w w') (hc : cx.le cx') : VReps cx' w' cs vs :=
  ⟨h.1, fun i c u h1 h2 => (h.2 i c u h1 h2).mono hs hc⟩
theorem VRep.one {cx : Cx} {w : World} {x : V} {v : Value} (h : VRep cx w x v) (hc : x.cellB = true) : oneV v = true ∧ v.cells = #[v] ∧ x.cells = [x] := by
  cases h with
  | t x v h =>
    cases h with
    | flat v h => cases v <;> simp_all [oneV, Value.cells, V.cells]
    | slc => exact ⟨rfl, rfl, rfl⟩
  | agg => simp [V.cellB] at hc
  | tup => simp [V.cellB] at hc
  | junk => simp [V.cellB] at hc
  | _ => exact ⟨rfl, rfl, rfl⟩
/-- the cells of a value -/
theorem VRep.cells {cx : Cx} {w : World} {x : V} {v : Value} (h : VRep cx w x v) (hc : x.cells.all V.cellB = true) : VReps cx w x.cells v.cells ∧ ∀ u ∈ v.cells, oneV u = true := by
  cases hx : x with
  | agg cs =>
    subst hx
    cases h with
    | agg cs vs hn hcb hr =>
      refine ⟨⟨hn, hr⟩, fun u hu => ?_⟩
      obtain ⟨i, hi, rfl⟩ := Array.mem_iff_getElem.1 hu
      have hi' : i < vs.size := hi
      have h1 : cs[i]? = some (cs[i]'(by omega)) := List.getElem?_eq_getElem (by omega)
      exact ((hr i _ _ h1 (Array.getElem?_eq_getElem hi')).one (hcb _ (List.getElem_mem _))).1
  | _ =>
    subst hx
    have hc' := hc
    simp only [V.cells, List.all_cons, List.all_nil, Bool.and_true] at hc'
    obtain ⟨h1, h2, -⟩ := h.one hc'
    rw [h2]
    refine ⟨⟨rfl, fun i c u h3 h4 => ?_⟩, fun u hu => ?_⟩
    · cases i with
      | zero =>
        simp [V.cells] at h3 h4
        subst h3
        subst h4
        exact h
      | succ i => simp [V.cells] at h3
    · simp at hu
      subst hu
      exact h1
inductive RowRep (cx : Cx) (w : World) (id : Nat) : Row → Prop
  | box (ty : TypeId) (cs : List V) (b : Nat) (vs : Array Value) (hat : cx.at_ id = some (.at b 1 cs.length 1)) (hb : w.heap[b]? = some (.cells vs ty (0, 0)))
      (hG : ¬ cx.G b) (hr : VReps cx w cs vs) : RowRep cx w id (.box ty cs)
  | listN (ty es : Nat) (hat : cx.at_ id = some .nil) : RowRep cx w id (.list ty es [])
  | list (ty es : Nat) (rows : Rows) (b cap : Nat) (vs : Array Value) (hat : cx.at_ id = some (.at b cap es rows.length)) (hb : w.heap[b]? = some (.cells vs ty (0, 0)))
      (hG : ¬ cx.G b) (hcap : rows.length ≤ cap) (hmax : cap ≤ maxLen) (hsz : vs.size = cap * es) (hes : ∀ row ∈ rows, row.length = es)
      (hr : ∀ (i j : Nat) (t : T), (rows[i]?).bind (fun r => r[j]?) = some t → ∃ u, vs[i * es + j]? = some u ∧ TRep cx.G w t u) : RowRep cx w id (.list ty es rows)
/-- what the run of a body has to do with: the world at its start, the blocks that it may write, those that nobody writes, the rows that stay where they are -/
structure Run where
  w : World
  M : Nat → Prop
  G : Nat → Prop
  pin : Nat → Option Blk
  n : Nat
structure HRep (cx : Cx) (heap : List (Option Row)) (w : World) : Prop where
  row : ∀ (id : Nat) r, heap[id]? = some (some r) → RowRep cx w id r
  inj : ∀ (id id' : Nat) r r' (b cap es len cap' es' len' : Nat), heap[id]? = some (some r) → heap[id']? = some (some r') → cx.at_ id = some (.at b cap es len) → cx.at_ id' = some (.at b cap' es' len') → id = id'
  dom : ∀ id, heap.length ≤ id → cx.at_ id = none
structure Kept (A : Run) (cx : Cx) (heap : List (Option Row)) (w : World) : Prop where
  os : w.os = A.w.os
  tape : w.tape = A.w.tape
  output : w.output = A.w.output
  size : A.w.heap.size ≤ w.heap.size
  block : ∀ b, b < A.w.heap.size → ¬ A.M b → w.heap[b]? = A.w.heap[b]?
  live : ∀ (id : Nat) r b cap es len, heap[id]? = some (some r) → cx.at_ id = some (.at b cap es len) → A.M b ∨ A.w.heap.size ≤ b
  G0 : ∀ b, A.G b → cx.G b
  G1 : ∀ b, cx.G b → b < w.heap.size
  G2 : ∀ b, cx.G b → A.G b ∨ A.M b ∨ A.w.heap.size ≤ b
  pin : ∀ id B, A.pin id = some B → cx.at_ id = some B ∧ id < A.n
  pinL : ∀ (id : Nat) ty es rows, heap[id]? = some (some (.list ty es rows)) → A.pin id = none
  base : A.n ≤ heap.length
structure Rel (A : Run) (cx : Cx) (s : St) (a : Act) (w : World) : Prop where
  tm : VReps cx w s.tmps a.tmps
  df : a.defers = []
  hp : HRep cx s.heap w
  kp : Kept A cx s.heap w
  bs : s.base = A.n
end Ab
end Go.Proofs.Ytgcgilcalmefgaa
namespace Go.Proofs.Ytgcgilcalmefgaa
open Go Go.RowKit
set_option linter.unusedVariables false
set_option linter.unusedSimpArgs false
namespace Ab
def V.closedB : V → Bool
  | .t _ => true
  | .ipt _ _ => true
  | .agg cs => allC cs
  | .tup cs => allC cs
  | .fn _ cs => allC cs
  | .ifc _ v => V.closedB v
  | .junk => true
  | _ => false
where allC : List V → Bool
  | [] => true
  | v :: r => V.closedB v && allC r
def Cx.none (G : Nat → Prop) : Cx := ⟨fun _ => Option.none, G⟩
/-- a function that has a body to be entered -/
def Callable (P : Program) (f : FuncId) : Prop := ∀ args w, (callFunc f args).run P w = .ok (.enter f args) w
/-- a call that computes: of closed values it hands back that one, and changes nothing that there was -/
def Fun (P : Program) (f : FuncId) (args : List V) (v : V) : Prop :=
  Callable P f ∧ ∀ (G : Nat → Prop) (w : World) (cargs : Array Value), (∀ b, G b → b < w.heap.size) → VReps (Cx.none G) w args cargs →
    Calls P f cargs w fun e w' => ∃ u, e = .returned u ∧ Below w.heap.size w w' ∧ VRep (Cx.none fun b => G b ∨ (w.heap.size ≤ b ∧ b < w'.heap.size)) w' v u
def exRel : Exit → Ex → Prop
  | .normal, .normal => True
  | .exit i, .exit j => i = j
  | .goto i, .goto j => i = j
  | .ret, .ret => True
  | _, _ => False
def Post (A : Run) (Q : Ex → St → Prop) (e : Exit) (a : Act) (w : World) : Prop := ∃ e' s cx, exRel e e' ∧ Q e' s ∧ Rel A cx s a w
/-- what a piece of a body does -/
def AW (P : Program) (A : Run) (c : Code) (s : St) (Q : Ex → St → Prop) : Prop := ∀ cx a w, Rel A cx s a w → c.wp P (Post A Q) a w
def CallA (P : Program) (A : Run) (f : FuncId) (args : List V) (s : St) (K : V → St → Prop) : Prop :=
  Callable P f ∧ ∀ cx a w cargs, Rel A cx s a w → VReps cx w args cargs →
    Calls P f cargs w fun e w' => ∃ u v s' cx', e = .returned u ∧ K v s' ∧ VRep cx' w' v u ∧ Rel A cx' s' a w'
/-- an operation that only computes -/
def PureOp (P : Program) (run : Value → Sem Value) (x : V) (k : V → Prop) : Prop := ∃ r, k r ∧ ∀ (cx : Cx) (w : World) (u : Value), VRep cx w x u → ∃ v, (run u).run P w = .ok v w ∧ VRep cx w r v
/-- a method's call, by the function behind it -/
def InvA (P : Program) (A : Run) (m : String) (r : V) (args : List V) (s : St) (K : V → St → Prop) : Prop :=
  ∃ f r', (∀ (cx : Cx) (w : World) (u : Value), VRep cx w r u → ∃ u', (∀ cargs, (callMethod u m cargs).run P w = (callFunc f (#[u'] ++ cargs)).run P w) ∧ VRep cx w r' u') ∧ CallA P A f (r' :: args) s K
def arF (op : BinOp) (k : IntKind) (x y : Int) : Int :=
  match op with
  | .add => k.wrap (x + y)
  | .sub => k.wrap (x - y)
  | .mul => k.wrap (x * y)
  | .quo => k.wrap (x.tdiv y)
  | .rem => x.tmod y
  | .and => k.wrap (BitVec.ofInt k.bits x &&& BitVec.ofInt k.bits y).toNat
  | .or => k.wrap (BitVec.ofInt k.bits x ||| BitVec.ofInt k.bits y).toNat
  | .xor => k.wrap (BitVec.ofInt k.bits x ^^^ BitVec.ofInt k.bits y).toNat
  | .andNot => k.wrap (BitVec.ofInt k.bits x &&& ~~~(BitVec.ofInt k.bits y)).toNat
  | .shl => k.wrap (x * 2 ^ (min y.toNat k.bits))
  | .shr => x.fdiv (2 ^ (min y.toNat k.bits))
  | _ => 0
def cmpF (op : BinOp) (x y : Int) : Bool :=
  match op with
  | .eql => x == y
  | .neq => x != y
  | .lss => decide (x < y)
  | .leq => decide (x ≤ y)
  | .gtr => decide (x > y)
  | .geq => decide (x ≥ y)
  | _ => false
def scmpF (op : BinOp) (x y : ByteArray) : Bool :=
  match op with
  | .eql => x.toList == y.toList
  | .neq => !(x.toList == y.toList)
  | .lss => Op.bytesLess x.toList y.toList
  | .leq => Op.bytesLess x.toList y.toList || x.toList == y.toList
  | .gtr => !(Op.bytesLess x.toList y.toList || x.toList == y.toList)
  | .geq => !Op.bytesLess x.toList y.toList
  | _ => false
def dom (P : Program) (A : Run) : Env where
  ar := arF
  cmp := cmpF
  conj := fun l => l.all id
  ne0 := fun y => y ≠ 0
  ge0 := fun y => 0 ≤ y
  conv := fun k n => k.wrap n
  slen := fun s => s.size
  scmp := scmpF
  cat := fun x y => x ++ y
  catok := fun x y => x.size + y.size ≤ maxLen
  sat := fun s n => (s.data.getD n.toNat 0).toNat
  sin := fun s n => 0 ≤ n ∧ n < s.size
  ssub := fun s l h => s.extract l.toNat h.toNat
  ssin := fun s l h => 0 ≤ l ∧ l ≤ h ∧ h ≤ s.size
  llen := fun rows => rows.length
  row := fun rows n k => ∃ r, 0 ≤ n ∧ rows[n.toNat]? = some r ∧ k r
  lsub := fun rows l h => (rows.take h.toNat).drop l.toNat
  lsin := fun rows l h es => 0 ≤ l ∧ l ≤ h ∧ h ≤ rows.length ∧ ∀ row ∈ rows, row.length = es
  lset := fun rows n r => rows.set n.toNat r
  lapp := fun a b => a ++ b
  lzero := fun n r => List.replicate n.toNat r
  room := fun a b es bytes => (∀ row ∈ b, row.length = es) ∧ a.length + b.length ≤ maxLen ∧ (a.length + b.length) * bytes ≤ 2 ^ 47
  roomz := fun n m bytes => n = m ∧ 0 ≤ n ∧ n ≤ 2 ^ 40 ∧ (bytes : Int) * n ≤ 2 ^ 47
  ifb := fun b p q => (b = true → p ()) ∧ (b = false → q ())
  pcall := fun f args k => args.all V.closedB = true ∧ ∃ v, Fun P f args v ∧ k v
  call := CallA P A
  draw := fun ops s K => ∀ id, AW P A (.region id ops.toArray true) s fun e s' => e = .normal ∧ K s'
  other := AW P A
  mki := fun xt x k => PureOp P (Instr.makeInterface xt) x k
  asrt := fun xt at_ ok x k => PureOp P (fun u => Instr.typeAssert u xt at_ ok) x k
  inv := InvA P A
-- single operations
section
variable {P : Program} {w : World}
theorem run_underlying {t : TypeId} {d : TypeDesc} (h : P.underlying t = some d) : (underlying t).run P w = .ok d w := by
  simp [underlying, go_sem, h]
theorem run_typeInfo {t : TypeId} {d : TypeInfo} (h : P.info? t = some d) : (typeInfo t).run P w = .ok d w := by
  simp [typeInfo, go_sem, h]
theorem run_sizeOf {t : TypeId} {d : TypeInfo} (h : P.info? t = some d) : (sizeOf t).run P w = .ok d.size w := by
  simp [sizeOf, run_typeInfo h, go_sem]
theorem run_zero {t : TypeId} {d : TypeInfo} {z : Value} (h : P.info? t = some d) (hz : d.zero = some z) : (zeroValue t).run P w = .ok z w := by
  simp [zeroValue, run_typeInfo h, go_sem, hz]
theorem run_isAgg {t : TypeId} {d : TypeDesc} (h : P.underlying t = some d) : (isAgg t).run P w = .ok (aggD d) w := by
  unfold isAgg aggD
  cases d <;> simp [run_underlying h, go_sem]
theorem add_none (b o n : Nat) : (⟨b, o, none⟩ : Addr).add n = ⟨b, o + n, none⟩ := by
  unfold Addr.add
  split
  · subst_vars; rfl
  · rfl
theorem run_fieldAt {t f : Nat} {fs : Array Field} {fld : Field} {fi : TypeInfo} {b o : Nat} (hu : P.underlying t = some (.struct fs)) (hf : fs[f]? = some fld) (hi : P.info? fld.type = some fi) (hz : 0 < fi.size) :
    (Instr.fieldAt t (.pointer (some ⟨b, o, none⟩)) f).run P w = .ok (.pointer (some ⟨b, o + fld.offset, none⟩)) w := by
  have hz' : fi.size ≠ 0 := by omega
  simp [Instr.fieldAt, run_underlying hu, go_sem, hf, Instr.sureAddr, fieldPlace, run_sizeOf hi, hz', add_none]
theorem run_loadCellsFrom {b o : Nat} {vs : List Value} : ∀ (i : Nat) (acc : Array Value), (∀ (j : Nat) u, vs[j]? = some u → w.cell? ⟨b, o + (i + j), none⟩ = some u) →
    (loadCellsFrom ⟨b, o, none⟩ i vs.length acc).run P w = .ok (acc ++ vs.toArray) w := by
  induction vs with
  | nil => intro i acc _; simp [loadCellsFrom, go_sem]
  | cons v r ih =>
    intro i acc h
    have h0 := h 0 v rfl
    rw [Nat.add_zero] at h0
    have := ih (i + 1) (acc.push v) (fun j u hu => by have := h (j + 1) u hu; rwa [show i + (j + 1) = i + 1 + j by omega] at this)
    simp [loadCellsFrom, go_sem, add_none, h0, this]
theorem run_loadCells {b o : Nat} {vs : List Value} (h : ∀ (j : Nat) u, vs[j]? = some u → w.cell? ⟨b, o + j, none⟩ = some u) : (loadCells ⟨b, o, none⟩ vs.length).run P w = .ok vs.toArray w := by
  have := run_loadCellsFrom (P := P) (w := w) (b := b) (o := o) (vs := vs) 0 #[] (fun j u hu => by rw [Nat.zero_add]; exact h j u hu)
  simpa [loadCells] using this
end
end Ab
end Go.Proofs.Ytgcgilcalmefgaa
namespace Go.Proofs.Ytgcgilcalmefgaa
open Go Go.RowKit
set_option linter.unusedVariables false
set_option linter.unusedSimpArgs false
namespace Ab
section
variable {P : Program} {cx : Cx} {w : World}
/-- these cells lie there -/
def CellsAt (cx : Cx) (w : World) (b o : Nat) (cs : List V) : Prop :=
  ∀ (j : Nat) c, cs[j]? = some c → ∃ u, w.cell? ⟨b, o + j, none⟩ = some u ∧ VRep cx w c u
theorem cell_of_block {b o : Nat} {vs : Array Value} {ty : TypeId} (h : w.heap[b]? = some (.cells vs ty (0, 0))) : w.cell? ⟨b, o, none⟩ = vs[o]? := by
  simp [World.cell?, h]
theorem RowRep.boxCells {id : Nat} {ty : TypeId} {cs : List V} (h : RowRep cx w id (.box ty cs)) : ∃ b, cx.at_ id = some (.at b 1 cs.length 1) ∧ CellsAt cx w b 0 cs := by
  cases h with
  | box ty cs b vs hat hb hG hr =>
    refine ⟨b, hat, fun j c hc => ?_⟩
    have hj : j < vs.size := by have := (List.getElem?_eq_some_iff.1 hc).1; rw [hr.1]; exact this
    refine ⟨vs[j], ?_, hr.2 j c _ hc (Array.getElem?_eq_getElem hj)⟩
    rw [cell_of_block hb, Nat.zero_add, Array.getElem?_eq_getElem hj]
theorem tCells_get : ∀ (l : List T) (j : Nat), (tCells l)[j]? = (l[j]?).map V.t
  | [], j => by simp [tCells]
  | t :: r, 0 => by simp [tCells]
  | t :: r, j + 1 => by simp [tCells, tCells_get r j]
theorem tCells_len : ∀ (l : List T), (tCells l).length = l.length
  | [] => rfl
  | t :: r => by simp [tCells, tCells_len r]
theorem tCells_cellB (l : List T) : ∀ c ∈ tCells l, c.cellB = true := by
  induction l with
  | nil => intro c h; simp [tCells] at h
  | cons t r ih =>
    intro c h
    simp only [tCells, List.mem_cons] at h
    rcases h with rfl | h
    · rfl
    · exact ih c h
theorem RowRep.listCells {id : Nat} {ty es : TypeId} {rows : Rows} {i : Nat} {row : List T} (h : RowRep cx w id (.list ty es rows)) (hi : rows[i]? = some row) :
    ∃ b cap, cx.at_ id = some (.at b cap es rows.length) ∧ CellsAt cx w b (i * es) (tCells row) := by
  cases h with
  | listN => simp at hi
  | list ty es rows b cap vs hat hb hG hcap hmax hsz hes hr =>
    refine ⟨b, cap, hat, fun j c hc => ?_⟩
    rw [tCells_get] at hc
    obtain ⟨t, ht, rfl⟩ := Option.map_eq_some_iff.1 hc
    obtain ⟨u, hu, hrep⟩ := hr i j t (by simp [hi, ht])
    exact ⟨u, by rw [cell_of_block hb]; exact hu, .t _ _ hrep⟩
theorem CellsAt.of_closed {b o : Nat} {cells : List T} {u : Nat → Value} (hc : ∀ (j : Nat) (t : T), cells[j]? = some t → w.cell? ⟨b, o + j, none⟩ = some (u j))
    (hr : ∀ (j : Nat) (t : T), cells[j]? = some t → TRep cx.G w t (u j)) : CellsAt cx w b o (tCells cells) := by
  intro j c h
  rw [tCells_get] at h
  obtain ⟨t, ht, rfl⟩ := Option.map_eq_some_iff.1 h
  exact ⟨u j, hc j t ht, .t _ _ (hr j t ht)⟩
theorem choose_list {α β : Type} {l : List α} {p : Nat → α → β → Prop} (h : ∀ (j : Nat) c, l[j]? = some c → ∃ u, p j c u) : ∃ us : List β, us.length = l.length ∧ ∀ (j : Nat) c u, l[j]? = some c → us[j]? = some u → p j c u := by
  induction l generalizing p with
  | nil => exact ⟨[], rfl, fun j c u h => by simp at h⟩
  | cons a r ih =>
    obtain ⟨u, hu⟩ := h 0 a rfl
    obtain ⟨us, hn, hus⟩ := ih (p := fun j c u => p (j + 1) c u) (fun j c hc => h (j + 1) c hc)
    refine ⟨u :: us, by simp [hn], fun j c v h1 h2 => ?_⟩
    cases j with
    | zero => simp at h1 h2; subst h1; subst h2; exact hu
    | succ j => exact hus j c v h1 h2
theorem CellsAt.values {b o : Nat} {cs : List V} (h : CellsAt cx w b o cs) :
    ∃ us : List Value, us.length = cs.length ∧ (∀ (j : Nat) u, us[j]? = some u → w.cell? ⟨b, o + j, none⟩ = some u) ∧ ∀ (j : Nat) c u, cs[j]? = some c → us[j]? = some u → VRep cx w c u := by
  obtain ⟨us, hn, hus⟩ := choose_list h
  refine ⟨us, hn, fun j u hu => ?_, fun j c u h1 h2 => (hus j c u h1 h2).2⟩
  have hj : j < cs.length := by have := (List.getElem?_eq_some_iff.1 hu).1; omega
  exact (hus j _ u (List.getElem?_eq_getElem hj) hu).1
theorem CellsAt.drop {b o : Nat} {cs : List V} (h : CellsAt cx w b o cs) (d : Nat) : CellsAt cx w b (o + d) (cs.drop d) :=
  fun j c hc => by
    rw [List.getElem?_drop] at hc
    obtain ⟨u, h1, h2⟩ := h _ c hc
    exact ⟨u, by rw [Nat.add_assoc]; exact h1, h2⟩
theorem CellsAt.take {b o : Nat} {cs : List V} (h : CellsAt cx w b o cs) (n : Nat) : CellsAt cx w b o (cs.take n) :=
  fun j c hc => by
    rw [List.getElem?_take] at hc
    split at hc
    · exact h j c hc
    · cases hc
theorem CellsAt.load {L : TypeId → Option Lt} (hL : LayOk P L) {t : TypeId} {lt : Lt} (ht : L t = some lt) {b o off : Nat} {cs : List V} {v : V} (h : CellsAt cx w b o cs) (hv : loadV lt cs off = some v) :
    ∃ u, (loadVar t ⟨b, o + off, none⟩).run P w = .ok u w ∧ VRep cx w v u := by
  obtain ⟨info, d, z, hi, hd, hsz, -, -, -, -, -, ⟨-, -, -, -, hag, -⟩, -⟩ := hL t lt ht
  by_cases hk : lt.kind = 1 ∨ lt.kind = 2
  · have hagg := hag.2 hk
    have hv' : off + lt.size ≤ cs.length ∧ ((cs.drop off).take lt.size).all V.cellB = true ∧ v = .agg ((cs.drop off).take lt.size) := by
      unfold loadV at hv
      rcases hk with hk | hk <;>
      · rw [hk] at hv
        simp only at hv
        split at hv
        · rename_i h1
          split at hv
          · rename_i h2
            cases hv
            exact ⟨h1, h2, rfl⟩
          · cases hv
        · cases hv
    obtain ⟨hle, hcb, rfl⟩ := hv'
    have hc := (h.drop off).take lt.size
    obtain ⟨us, hn, h1, h2⟩ := hc.values
    have hlen : us.length = info.size := by rw [hn, List.length_take, List.length_drop, hsz]; omega
    refine ⟨.agg us.toArray, ?_, .agg _ _ (by simpa using hn) (fun c hc => List.all_eq_true.1 hcb c hc) (fun i c u hc hu => h2 i c u hc (by simpa using hu))⟩
    have := run_loadCells (P := P) h1
    rw [hlen] at this
    unfold loadCells at this
    simp [loadVar, run_isAgg hd, hagg, go_sem, run_sizeOf hi, this]
  · have hagg : aggD d = false := by
      cases h1 : aggD d with
      | false => rfl
      | true => exact absurd (hag.1 h1) hk
    have hv' : cs[off]? = some v := by
      unfold loadV at hv
      split at hv
      · rename_i hk'; exact absurd (.inl hk') hk
      · rename_i hk'; exact absurd (.inr hk') hk
      · exact hv
    obtain ⟨u, hu, hr⟩ := h off v hv'
    exact ⟨u, by simp [loadVar, run_isAgg hd, hagg, go_sem, hu], hr⟩
/-- one store behind the other -/
structure Stored (w w' : World) (b o : Nat) (us : List Value) (arr : Array Value) (ty : TypeId) : Prop where
  os : w'.os = w.os
  tape : w'.tape = w.tape
  output : w'.output = w.output
  size : w'.heap.size = w.heap.size
  other : ∀ k, k ≠ b → w'.heap[k]? = w.heap[k]?
  here : ∃ arr' : Array Value, w'.heap[b]? = some (.cells arr' ty (0, 0)) ∧ arr'.size = arr.size ∧ ∀ j, arr'[j]? = if o ≤ j ∧ j < o + us.length then us[j - o]? else arr[j]?
theorem setCell_block {b o : Nat} {u : Value} {arr : Array Value} {ty : TypeId} (h : w.heap[b]? = some (.cells arr ty (0, 0))) : (w.setCell ⟨b, o, none⟩ u).heap[b]? = some (.cells (arr.setIfInBounds o u) ty (0, 0)) := by
  simp [World.setCell, Array.getElem?_modify, h]
theorem setCell_other {b o k : Nat} {u : Value} (h : k ≠ b) : (w.setCell ⟨b, o, none⟩ u).heap[k]? = w.heap[k]? := by
  simp only [World.setCell, Array.getElem?_modify]
  rw [if_neg (Ne.symm h)]
theorem run_store {a : Addr} {v u : Value} (h1 : oneV v = true) (hc : w.cell? a = some u) (hf : w.frozen? a = false) : (store a v).run P w = .ok () (w.setCell a v) := by
  unfold store
  cases v <;> simp [oneV] at h1 <;> simp [Sem.run, hc, hf]
theorem run_storeCells {b o : Nat} {ty : TypeId} : ∀ (us : List Value) (i : Nat) (w : World) (arr : Array Value), w.heap[b]? = some (.cells arr ty (0, 0)) → o + i + us.length ≤ arr.size → (∀ u ∈ us, oneV u = true) →
    ∃ w', (storeCells ⟨b, o, none⟩ us i).run P w = .ok () w' ∧ Stored w w' b (o + i) us arr ty := by
  intro us
  induction us with
  | nil =>
    intro i w arr hb hs ho
    refine ⟨w, by simp [storeCells, go_sem], rfl, rfl, rfl, rfl, fun _ _ => rfl, arr, hb, rfl, fun j => ?_⟩
    rw [if_neg (by simp only [List.length_nil]; omega)]
  | cons u r ih =>
    intro i w arr hb hs ho
    simp only [List.length_cons] at hs
    have hcell : w.cell? ⟨b, o + i, none⟩ = some (arr[o + i]'(by omega)) := by rw [cell_of_block hb, Array.getElem?_eq_getElem (by omega)]
    have hfr : w.frozen? ⟨b, o + i, none⟩ = false := by simp [World.frozen?, hb]
    have hone := ho u (by simp)
    obtain ⟨w', hrun, hst⟩ := ih (i + 1) (w.setCell ⟨b, o + i, none⟩ u) (arr.setIfInBounds (o + i) u) (setCell_block hb) (by rw [Array.size_setIfInBounds]; omega) (fun v hv => ho v (by simp [hv]))
    refine ⟨w', ?_, ?_⟩
    · simp only [storeCells, Sem.run_bind, add_none, run_store hone hcell hfr, Result.andThen_ok, hrun]
    · obtain ⟨h1, h2, h3, h4, h5, arr', h6, h7, h8⟩ := hst
      refine ⟨h1, h2, h3, by rw [h4]; simp [World.setCell], fun k hk => by rw [h5 k hk, setCell_other hk], arr', h6, by rw [h7]; simp, fun j => ?_⟩
      rw [h8]
      by_cases e : j = o + i
      · subst e
        rw [if_neg (by omega), if_pos (by simp only [List.length_cons]; omega), Array.getElem?_setIfInBounds_self_of_lt (by omega), Nat.sub_self]
        rfl
      · rw [Array.getElem?_setIfInBounds_ne (by omega)]
        by_cases e2 : o + (i + 1) ≤ j ∧ j < o + (i + 1) + r.length
        · rw [if_pos e2, if_pos (by simp only [List.length_cons]; omega), show j - (o + i) = (j - (o + (i + 1))) + 1 by omega, List.getElem?_cons_succ]
        · rw [if_neg e2, if_neg (by simp only [List.length_cons]; omega)]
end
end Ab
end Go.Proofs.Ytgcgilcalmefgaa
namespace Go.Proofs.Ytgcgilcalmefgaa
open Go Go.RowKit
set_option linter.unusedVariables false
set_option linter.unusedSimpArgs false
namespace Ab
structure Res (cx : Cx) (w : World) (aid : Nat) (row : Option Row) (cx' : Cx) (w' : World) (v : V) (u : Value) : Prop where
  below : Below w.heap.size w w'
  at_ : ∀ id, id ≠ aid → cx'.at_ id = cx.at_ id
  aid0 : row = none → cx'.at_ aid = cx.at_ aid
  G : ∀ b, cx.G b → cx'.G b
  G1 : ∀ b, cx'.G b → cx.G b ∨ (w.heap.size ≤ b ∧ b < w'.heap.size)
  rep : VRep cx' w' v u
  row : ∀ r, row = some r → RowRep cx' w' aid r ∧ ∀ b cap es len, cx'.at_ aid = some (.at b cap es len) → w.heap.size ≤ b ∧ b < w'.heap.size
theorem Res.val {cx : Cx} {w : World} {aid : Nat} {v : V} {u : Value} (h : VRep cx w v u) : Res cx w aid none cx w v u :=
  ⟨Below.refl _ _, fun _ _ => rfl, fun _ => rfl, fun _ h => h, fun _ h => .inl h, h, fun r e => by cases e⟩
/-- the class's eye: what is told of a value is that value's -/
def Eyes (cx : Cx) (w : World) (ρ : Operand → V) (e : Operand → Value) : Prop := ∀ x, VRep cx w (ρ x) (e x)
theorem rep_const (cx : Cx) (w : World) (v : Value) : VRep cx w (ofConst v) v := by
  unfold ofConst
  split
  · rename_i cs
    split
    · rename_i h
      refine .agg _ _ (by simp) (fun c hc => ?_) (fun i c u h1 h2 => ?_)
      · simp only [List.mem_map] at hc
        obtain ⟨v, -, rfl⟩ := hc
        rfl
      · rw [List.getElem?_map] at h1
        obtain ⟨v, hv, rfl⟩ := Option.map_eq_some_iff.1 h1
        have : u = v := by
          rw [Array.getElem?_toList] at hv
          rw [h2] at hv
          exact Option.some.inj hv
        subst this
        exact .t _ _ (.flat _ (List.all_eq_true.1 h _ (List.mem_of_getElem? hv)))
    · exact .junk _
  · exact .junk _
  · rename_i h1 h2
    refine .t _ _ (.flat _ ?_)
    cases v <;> first | rfl | exact absurd rfl (h1 _) | exact absurd rfl (h2 _)
theorem eyes_of {cx : Cx} {w : World} {s : St} {a : Act} (h : VReps cx w s.tmps a.tmps) : Eyes cx w s.ev a.eval := fun x => by
  cases x with
  | tmp t =>
    simp only [St.ev, Act.eval, List.getD_eq_getElem?_getD, Array.getD_eq_getD_getElem?]
    rcases Nat.lt_or_ge t s.tmps.length with hl | hl
    · have hl' : t < a.tmps.size := by rw [h.1]; exact hl
      rw [List.getElem?_eq_getElem hl, Array.getElem?_eq_getElem hl']
      exact h.2 t _ _ (List.getElem?_eq_getElem hl) (Array.getElem?_eq_getElem hl')
    · rw [List.getElem?_eq_none hl]
      exact .junk _
  | const v => exact rep_const cx w v
  | global g => exact .t _ _ (.flat _ rfl)
  | func f => exact .fn f [] #[] rfl (fun i c u h => by simp at h)
section
variable {P : Program} {A : Run} {L : TypeId → Option Lt} {cx : Cx} {w : World} {e : Operand → Value} {o : Oper} {ρ : Operand → V} {hp : List (Option Row)} {aid : Nat} {k : V → Option Row → Prop}
/-- an operation that runs to a value -/
def Does (P : Program) (cx : Cx) (w : World) (e : Operand → Value) (o : Oper) (aid : Nat) (k : V → Option Row → Prop) : Prop :=
  ∃ v row u w' cx', k v row ∧ (execOp e o).run P w = .ok (.value u) w' ∧ Res cx w aid row cx' w' v u
theorem Does.val {v : V} {u : Value} (hk : k v none) (hr : (execOp e o).run P w = .ok (.value u) w) (h : VRep cx w v u) : Does P cx w e o aid k := ⟨v, none, u, w, cx, hk, hr, .val h⟩
theorem inv_bool {b : Bool} {u : Value} (h : VRep cx w (fB b) u) : u = .bool b := by cases h with | t x v h => cases h; rfl
theorem inv_int {i : IntKind} {n : Int} {u : Value} (h : VRep cx w (fI i n) u) : u = .int i n := by cases h with | t x v h => cases h; rfl
theorem inv_flat {x u : Value} (h : VRep cx w (.t (.flat x)) u) : u = x := by cases h with | t x v h => cases h; rfl
theorem rep_flat {x : Value} (h : oneV x = true) : VRep cx w (.t (.flat x)) x := .t _ _ (.flat _ h)
/-- a row of cells laid new -/
theorem Res.fresh {r : Row} {v : V} {u : Value} {vs : Array Value} {ty : TypeId} {cap es len : Nat} (h0 : cx.at_ aid = none) (hG : ∀ b, cx.G b → b < w.heap.size)
    (hr : ∀ cx', (∀ id B, cx.at_ id = some B → cx'.at_ id = some B) → cx'.at_ aid = some (.at w.heap.size cap es len) → cx'.G = cx.G → VRep cx' (w.alloc (.cells vs ty)) v u ∧ RowRep cx' (w.alloc (.cells vs ty)) aid r) :
    ∃ cx', Res cx w aid (some r) cx' (w.alloc (.cells vs ty)) v u := by
  let cx' : Cx := ⟨fun id => if id = aid then some (.at w.heap.size cap es len) else cx.at_ id, cx.G⟩
  have e1 : cx'.at_ aid = some (.at w.heap.size cap es len) := if_pos rfl
  obtain ⟨h1, h2⟩ := hr cx' (fun id B hB => by
    have : id ≠ aid := by rintro rfl; rw [h0] at hB; cases hB
    show (if id = aid then _ else _) = _
    rw [if_neg this]; exact hB) e1 rfl
  refine ⟨cx', (Below.refl _ _).alloc (Nat.le_refl _) _, fun id hid => if_neg hid, (fun e => by cases e), fun b h => h, fun b h => .inl h, h1, fun r' e => ?_⟩
  cases e
  refine ⟨h2, fun b cap es len h => ?_⟩
  rw [e1] at h
  cases h
  exact ⟨Nat.le_refl _, by simp⟩
theorem alloc_same (hG : ∀ b, cx.G b → b < w.heap.size) (o : Obj) : Same cx.G w (w.alloc o) := fun b hb => Below.heap_alloc _ _ _ (hG b hb)
theorem alloc_new (o : Obj) : (w.alloc o).heap[w.heap.size]? = some o := by show (w.heap.push o)[w.heap.size]? = _; simp
theorem box_res {ty : TypeId} {cs : List V} {vs : Array Value} (h0 : cx.at_ aid = none) (hG : ∀ b, cx.G b → b < w.heap.size) (hr : VReps cx w cs vs) :
    ∃ cx', Res cx w aid (some (.box ty cs)) cx' (w.alloc (.cells vs ty)) (.ptr aid 0) (.pointer (some ⟨w.heap.size, 0, none⟩)) := by
  refine Res.fresh (cap := 1) (es := cs.length) (len := 1) h0 hG fun cx' hle he hg => ?_
  have hm : VReps cx' (w.alloc (.cells vs ty)) cs vs := hr.mono (alloc_same hG _) ⟨hle, fun b h => by rw [hg]; exact h⟩
  exact ⟨.ptr _ _ _ _ _ _ he, .box ty cs _ vs he (alloc_new _) (by rw [hg]; intro h; have := hG _ h; omega) hm⟩
theorem ev_move {x : Operand} (hop : o.op = .move x ∨ o.op = .assign x) (he : Eyes cx w ρ e) (h : k (ρ x) none) : Does P cx w e o aid k :=
  Does.val h (by rcases hop with hop | hop <;> simp [execOp, hop, go_sem]) (he x)
theorem ev_pick {c x y : Operand} (hop : o.op = .pick c x y) (he : Eyes cx w ρ e) (h : evC (dom P A) L o ρ hp aid k) : Does P cx w e o aid k := by
  simp only [evC, hop] at h
  split at h
  · rename_i b hc
    have hb := inv_bool (by have := he c; rw [hc] at this; exact this)
    cases b
    · exact Does.val (h.2 rfl) (by simp [execOp, hop, go_sem, hb]) (he y)
    · exact Does.val (h.1 rfl) (by simp [execOp, hop, go_sem, hb]) (he x)
  · exact h.elim
theorem ev_mki {t : TypeId} {x : Operand} (hop : o.op = .makeInterface t x) (he : Eyes cx w ρ e) (h : evC (dom P A) L o ρ hp aid k) : Does P cx w e o aid k := by
  simp only [evC, hop] at h
  obtain ⟨r, hk, hr⟩ := h
  obtain ⟨v, h1, h2⟩ := hr cx w _ (he x)
  exact Does.val hk (by simp only [execOp, hop, Sem.run_bind, h1, Result.andThen_ok, Sem.run_pure]) h2
theorem ev_asrt {x : Operand} {t u : TypeId} {ok : Bool} (hop : o.op = .typeAssert x t u ok) (he : Eyes cx w ρ e) (h : evC (dom P A) L o ρ hp aid k) : Does P cx w e o aid k := by
  simp only [evC, hop] at h
  obtain ⟨r, hk, hr⟩ := h
  obtain ⟨v, h1, h2⟩ := hr cx w _ (he x)
  exact Does.val hk (by simp only [execOp, hop, Sem.run_bind, h1, Result.andThen_ok, Sem.run_pure]) h2
theorem ev_alloc {t : TypeId} (hL : LayOk P L) (h0 : cx.at_ aid = none) (hG : ∀ b, cx.G b → b < w.heap.size) (hop : o.op = .alloc t) (h : evC (dom P A) L o ρ hp aid k) : Does P cx w e o aid k := by
  simp only [evC, hop] at h
  split at h
  · rename_i lt ht
    obtain ⟨info, d, z, hi, hd, hsz, hby, hz, hzl, hone, hlen, -⟩ := hL t lt ht
    obtain ⟨cx', hres⟩ := box_res (ty := t) (cs := lt.zero.map fun v => .t (.flat v)) (vs := z.cells) h0 hG (by
      refine ⟨by simp [← hzl], fun i c u h1 h2 => ?_⟩
      rw [List.getElem?_map] at h1
      obtain ⟨v, hv, rfl⟩ := Option.map_eq_some_iff.1 h1
      rw [← hzl, Array.getElem?_toList, h2] at hv
      cases hv
      exact rep_flat (hone _ (by rw [← hzl]; exact Array.mem_toList_iff.2 (Array.mem_of_getElem? h2))))
    refine ⟨_, _, _, _, cx', h, ?_, hres⟩
    simp [execOp, hop, go_sem, Instr.alloc, run_zero hi hz, newVar, newRow]
  · exact h.elim
theorem ev_box {t : TypeId} {x : Operand} (h0 : cx.at_ aid = none) (hG : ∀ b, cx.G b → b < w.heap.size) (hop : o.op = .box t x) (he : Eyes cx w ρ e) (h : evC (dom P A) L o ρ hp aid k) : Does P cx w e o aid k := by
  simp only [evC, hop] at h
  split at h
  · split at h
    · rename_i hall
      obtain ⟨h1, -⟩ := (he x).cells hall
      obtain ⟨cx', hres⟩ := box_res (ty := t) h0 hG h1
      exact ⟨_, _, _, _, cx', h, by simp [execOp, hop, go_sem, Instr.box, newVar, newRow], hres⟩
    · exact h.elim
  · exact h.elim
end
end Ab
end Go.Proofs.Ytgcgilcalmefgaa
namespace Go.Proofs.Ytgcgilcalmefgaa
open Go Go.RowKit
set_option linter.unusedVariables false
set_option linter.unusedSimpArgs false
namespace Ab
theorem patch_get {α : Type} {cs vs : List α} {off : Nat} (h : off + vs.length ≤ cs.length) (j : Nat) :
    (cs.take off ++ (vs ++ cs.drop (off + vs.length)))[j]? = if off ≤ j ∧ j < off + vs.length then vs[j - off]? else cs[j]? := by
  have hl : (cs.take off).length = off := by rw [List.length_take]; omega
  by_cases h1 : j < off
  · rw [List.getElem?_append_left (by omega), List.getElem?_take, if_pos h1, if_neg (by omega)]
  · rw [List.getElem?_append_right (by omega), hl]
    by_cases h2 : j < off + vs.length
    · rw [List.getElem?_append_left (by omega), if_pos (by omega)]
    · rw [List.getElem?_append_right (by omega), List.getElem?_drop, if_neg (by omega)]
      congr 1
      omega
theorem patch_len {α : Type} {cs vs : List α} {off : Nat} (h : off + vs.length ≤ cs.length) : (cs.take off ++ (vs ++ cs.drop (off + vs.length))).length = cs.length := by
  simp only [List.length_append, List.length_take, List.length_drop]
  omega
theorem fold_set : ∀ (vs : List Value) (off k : Nat) (arr : Array Value), off + k + vs.length ≤ arr.size →
    ((vs.zipIdx k).foldl (fun cs (x : Value × Nat) => cs.setIfInBounds (off + x.2) x.1) arr).size = arr.size ∧
    ∀ j, ((vs.zipIdx k).foldl (fun cs (x : Value × Nat) => cs.setIfInBounds (off + x.2) x.1) arr)[j]? = if off + k ≤ j ∧ j < off + k + vs.length then vs[j - (off + k)]? else arr[j]? := by
  intro vs
  induction vs with
  | nil =>
    intro off k arr h
    refine ⟨rfl, fun j => ?_⟩
    rw [if_neg (by simp only [List.length_nil]; omega)]
    rfl
  | cons v r ih =>
    intro off k arr h
    simp only [List.length_cons] at h
    simp only [List.zipIdx_cons, List.foldl_cons]
    obtain ⟨h1, h2⟩ := ih off (k + 1) (arr.setIfInBounds (off + k) v) (by rw [Array.size_setIfInBounds]; omega)
    refine ⟨by rw [h1, Array.size_setIfInBounds], fun j => ?_⟩
    rw [h2]
    by_cases e : j = off + k
    · subst e
      rw [if_neg (by omega), if_pos (by simp only [List.length_cons]; omega), Array.getElem?_setIfInBounds_self_of_lt (by omega), Nat.sub_self]
      rfl
    · rw [Array.getElem?_setIfInBounds_ne (by omega)]
      by_cases e2 : off + (k + 1) ≤ j ∧ j < off + (k + 1) + r.length
      · rw [if_pos e2, if_pos (by simp only [List.length_cons]; omega), show j - (off + k) = (j - (off + (k + 1))) + 1 by omega, List.getElem?_cons_succ]
      · rw [if_neg e2, if_neg (by simp only [List.length_cons]; omega)]
section
variable {P : Program} {A : Run} {L : TypeId → Option Lt} {cx : Cx} {w : World} {e : Operand → Value} {o : Oper} {ρ : Operand → V} {hp : List (Option Row)} {aid : Nat} {k : V → Option Row → Prop}
theorem VReps.patch {cs vs : List V} {ccs cvs arr : Array Value} {off : Nat} (h : VReps cx w cs ccs) (hv : VReps cx w vs cvs) (hle : off + vs.length ≤ cs.length) (hn : arr.size = ccs.size)
    (ha : ∀ j, arr[j]? = if off ≤ j ∧ j < off + cvs.size then cvs[j - off]? else ccs[j]?) : VReps cx w (Ab.patch cs off vs) arr := by
  unfold Ab.patch
  refine ⟨by rw [patch_len hle, hn, h.1], fun i c u h1 h2 => ?_⟩
  rw [patch_get hle] at h1
  rw [ha, hv.1] at h2
  split at h1
  · rename_i hc
    rw [if_pos hc] at h2
    exact hv.2 _ _ _ h1 h2
  · rename_i hc
    rw [if_neg hc] at h2
    exact h.2 _ _ _ h1 h2
theorem patch_cellB {cs vs : List V} {off : Nat} (h : ∀ c ∈ cs, c.cellB = true) (hv : ∀ c ∈ vs, c.cellB = true) : ∀ c ∈ Ab.patch cs off vs, c.cellB = true := fun c hc => by
  unfold Ab.patch at hc
  simp only [List.mem_append] at hc
  rcases hc with hc | hc | hc
  · exact h c (List.mem_of_mem_take hc)
  · exact hv c hc
  · exact h c (List.mem_of_mem_drop hc)
theorem fill_rep {parts : List (Nat × Nat × Bool)} {places : List (Nat × Nat)} (hp : places = parts.map fun p => (p.1, p.2.1)) : ∀ (l : List (Nat × Operand)) (cs : List V) (ccs : Array Value) (r : List V),
    Eyes cx w ρ e → VReps cx w cs ccs → (∀ c ∈ cs, c.cellB = true) → fillV parts cs (l.map fun p => (p.1, ρ p.2)) = some r →
    ∃ ccr, Instr.fill (places.toArray[·]?) ccs (l.map fun p => (p.1, e p.2)) = some ccr ∧ VReps cx w r ccr ∧ ∀ c ∈ r, c.cellB = true := by
  intro l
  induction l with
  | nil =>
    intro cs ccs r he hr hc h
    simp only [List.map_nil, fillV, Option.some.injEq] at h
    subst h
    exact ⟨ccs, rfl, hr, hc⟩
  | cons x l ih =>
    intro cs ccs r he hr hc h
    simp only [List.map_cons, fillV] at h
    split at h
    · cases h
    · rename_i off size b hx
      split at h
      · rename_i hsz
        split at h
        · rename_i hle
          split at h
          · rename_i hall
            obtain ⟨hv, hone⟩ := (he x.2).cells hall
            have hpl : places.toArray[x.1]? = some (off, size) := by subst hp; simp [hx]
            have hcs : (e x.2).cells.size = size := by rw [hv.1, hsz]
            have hsz2 : ccs.size = cs.length := hr.1
            obtain ⟨f1, f2⟩ := fold_set (e x.2).cells.toList off 0 ccs (by rw [Array.length_toList]; omega)
            have hfold : ((e x.2).cells.zipIdx.foldl (fun cs (c, j) => cs.setIfInBounds (off + j) c) ccs) = (((e x.2).cells.toList.zipIdx 0).foldl (fun cs (x : Value × Nat) => cs.setIfInBounds (off + x.2) x.1) ccs) := by
              rw [← Array.foldl_toList, Array.toList_zipIdx]
            obtain ⟨ccr, h1, h2, h3⟩ := ih _ _ r he (VReps.patch (arr := (((e x.2).cells.toList.zipIdx 0).foldl (fun cs (x : Value × Nat) => cs.setIfInBounds (off + x.2) x.1) ccs)) hr hv (by omega) f1 (fun j => by
              rw [f2 j]
              simp only [Array.length_toList, Nat.add_zero, Array.getElem?_toList])) (patch_cellB hc (fun c hc => List.all_eq_true.1 hall c hc)) h
            refine ⟨ccr, ?_, h2, h3⟩
            simp only [List.map_cons, Instr.fill, hpl]
            rw [if_neg (by simp [hcs]; omega)]
            rw [hfold]
            exact h1
          · cases h
        · cases h
      · cases h
theorem places_of {fs : List Field} (h : ∀ f ∈ fs, ∃ i, P.info? f.type = some i) : fs.mapM (fun f => (P.info? f.type).map fun i => (f.offset, i.size)) = some ((fs.map (partOf P)).map fun p => (p.1, p.2.1)) := by
  induction fs with
  | nil => rfl
  | cons f r ih =>
    obtain ⟨i, hi⟩ := h f (by simp)
    rw [List.mapM_cons, ih (fun f hf => h f (by simp [hf]))]
    simp [hi, partOf, Program.cellsOf]
theorem zero_reps {lt : Lt} {z : Value} (hzl : z.cells.toList = lt.zero) (hone : ∀ v ∈ lt.zero, oneV v = true) : VReps cx w (lt.zero.map fun v => .t (.flat v)) z.cells := by
  refine ⟨by simp [← hzl], fun i c u h1 h2 => ?_⟩
  rw [List.getElem?_map] at h1
  obtain ⟨v, hv, rfl⟩ := Option.map_eq_some_iff.1 h1
  rw [← hzl, Array.getElem?_toList, h2] at hv
  cases hv
  exact rep_flat (hone _ (by rw [← hzl]; exact Array.mem_toList_iff.2 (Array.mem_of_getElem? h2)))
theorem ev_build {t : TypeId} {ps : Array (Nat × Operand)} (hL : LayOk P L) (hop : o.op = .build t ps) (he : Eyes cx w ρ e) (h : evC (dom P A) L o ρ hp aid k) : Does P cx w e o aid k := by
  simp only [evC, hop] at h
  split at h
  · rename_i lt ht
    split at h
    · rename_i hk
      obtain ⟨info, d, z, hi, hd, hsz, hby, hz, hzl, hone, hlen, ⟨hk1, -⟩, -⟩ := hL t lt ht
      obtain ⟨fs, rfl, hparts, hfs⟩ := hk1 hk
      split at h
      · rename_i cs hcs
        obtain ⟨ccr, h1, h2, h3⟩ := fill_rep (parts := lt.parts) (places := lt.parts.map fun p => (p.1, p.2.1)) rfl ps.toList _ z.cells cs he (zero_reps hzl hone) (by
          intro c hc
          simp only [List.mem_map] at hc
          obtain ⟨v, -, rfl⟩ := hc
          rfl) hcs
        have hbuilt : P.built t (ps.map fun (x : Nat × Operand) => (x.1, e x.2)).toList = some ccr := by
          unfold Program.built
          rw [hi, hd]
          simp only [hz]
          rw [places_of (fun f hf => (hfs f (by simpa using hf)).1), hparts, Array.toList_map]
          exact h1
        exact Does.val h (by simp only [execOp, hop, Sem.run_bind, run_build w t _ ccr hbuilt, Result.andThen_ok, Sem.run_pure]) (.agg _ _ h2.1 h3 h2.2)
      · exact h.elim
    · exact h.elim
  · exact h.elim
theorem ev_load {t : TypeId} {x : Operand} (hL : LayOk P L) (hop : o.op = .load t x) (he : Eyes cx w ρ e) (hrow : ∀ id r, hp.getD id none = some r → RowRep cx w id r) (h : evC (dom P A) L o ρ hp aid k) : Does P cx w e o aid k := by
  simp only [evC, hop] at h
  split at h
  case h_2 => exact h.elim
  rename_i lt ht
  have hx := he x
  split at h
  · rename_i id off hid
    rw [hid] at hx
    split at h
    · rename_i ty cs hr
      obtain ⟨b, hat, hc⟩ := (hrow _ _ hr).boxCells
      split at h
      · rename_i v hv
        obtain ⟨u, h1, h2⟩ := hc.load (P := P) hL ht hv
        rw [Nat.zero_add] at h1
        have hu : e x = .pointer (some ⟨b, off, none⟩) := by
          generalize e x = y at hx
          cases hx with
          | ptr id off b' cap es len h' => rw [hat] at h'; cases h'; rfl
        refine Does.val h ?_ h2
        simp only [execOp, hop, hu, Instr.loadAt, Instr.sureAddr, Sem.run_bind, Sem.run_pure, Result.andThen_ok, h1]
      · exact h.elim
    · exact h.elim
  · rename_i id r off hid
    rw [hid] at hx
    split at h
    · rename_i ty es rows hr
      obtain ⟨cs, -, hcs', h⟩ := h
      · split at h
        · rename_i v hv
          obtain ⟨b, cap, hat, hc⟩ := (hrow _ _ hr).listCells hcs'
          obtain ⟨u, h1, h2⟩ := hc.load (P := P) hL ht hv
          have hu : e x = .pointer (some ⟨b, r.toNat * es + off, none⟩) := by
            generalize e x = y at hx
            cases hx with
            | elt id row off b' cap' es' len h' => rw [hat] at h'; cases h'; rfl
          refine Does.val h ?_ h2
          simp only [execOp, hop, hu, Instr.loadAt, Instr.sureAddr, Sem.run_bind, Sem.run_pure, Result.andThen_ok, h1]
        · exact h.elim
    · exact h.elim
  · rename_i cs off hid
    rw [hid] at hx
    split at h
    · rename_i v hv
      have hu : ∃ u, (Instr.loadAt t (e x)).run P w = .ok u w ∧ VRep cx w v u := by
        generalize e x = y at hx
        cases hx with
        | ipt cells off b o u hG hc hr =>
          obtain ⟨u, h1, h2⟩ := (CellsAt.of_closed hc hr).load (P := P) hL ht hv
          exact ⟨u, by simp only [Instr.loadAt, Instr.sureAddr, Sem.run_bind, Sem.run_pure, Result.andThen_ok, h1], h2⟩
      obtain ⟨u, h1, h2⟩ := hu
      exact Does.val h (by simp only [execOp, hop, Sem.run_bind, h1, Result.andThen_ok, Sem.run_pure]) h2
    · exact h.elim
  · exact h.elim
theorem ev_nilCheck {x : Operand} (hop : o.op = .nilCheck x) (he : Eyes cx w ρ e) (h : evC (dom P A) L o ρ hp aid k) : Does P cx w e o aid k := by
  simp only [evC, hop] at h
  have hx := he x
  split at h
  · rename_i hid
    rw [hid] at hx
    refine Does.val h ?_ hx
    generalize hy : e x = y at hx
    cases hx
    simp only [execOp, hop, hy, Sem.run_pure]
  · rename_i hid
    rw [hid] at hx
    refine Does.val h ?_ hx
    generalize hy : e x = y at hx
    cases hx
    simp only [execOp, hop, hy, Sem.run_pure]
  · rename_i hid
    rw [hid] at hx
    refine Does.val h ?_ hx
    generalize hy : e x = y at hx
    cases hx
    simp only [execOp, hop, hy, Sem.run_pure]
  · rename_i hid
    rw [hid] at hx
    refine Does.val h ?_ hx
    generalize hy : e x = y at hx
    cases hx
    simp only [execOp, hop, hy, Sem.run_pure]
  · exact h.elim
theorem ev_fieldAddr {t : TypeId} {x : Operand} {f : Nat} (hL : LayOk P L) (hop : o.op = .fieldAddr t x f) (he : Eyes cx w ρ e) (h : evC (dom P A) L o ρ hp aid k) : Does P cx w e o aid k := by
  simp only [evC, hop] at h
  split at h
  case h_2 => exact h.elim
  rename_i lt ht
  split at h
  case isFalse => exact h.elim
  rename_i hk
  obtain ⟨info, d, z, hi, hd, hsz, hby, hz, hzl, hone, hlen, ⟨hk1, -⟩, -⟩ := hL t lt ht
  obtain ⟨fs, rfl, hparts, hfs⟩ := hk1 hk
  split at h
  case h_2 => exact h.elim
  rename_i dd size ag hp'
  split at h
  case isFalse => exact h.elim
  rename_i hpos
  have hfld : ∃ fld, fs[f]? = some fld ∧ partOf P fld = (dd, size, ag) := by
    rw [← hparts, List.getElem?_map] at hp'
    obtain ⟨fld, h1, h2⟩ := Option.map_eq_some_iff.1 hp'
    exact ⟨fld, by rwa [Array.getElem?_toList] at h1, h2⟩
  obtain ⟨fld, hf, hpt⟩ := hfld
  obtain ⟨⟨fi, hfi⟩, -⟩ := hfs fld (Array.mem_of_getElem? hf)
  have hoff : fld.offset = dd := by have := congrArg (·.1) hpt; exact this
  have hfsz : fi.size = size := by have := congrArg (·.2.1) hpt; simpa [partOf, Program.cellsOf, hfi] using this
  have hx := he x
  split at h
  · rename_i id off hid
    rw [hid] at hx
    generalize hy : e x = y at hx
    cases hx with
    | ptr id off b cap es len h' =>
      refine Does.val h ?_ (.ptr _ _ _ _ _ _ h')
      simp only [execOp, hop, hy, Sem.run_bind, run_fieldAt hd hf hfi (by omega), Result.andThen_ok, Sem.run_pure, hoff]
  · rename_i id r off hid
    rw [hid] at hx
    generalize hy : e x = y at hx
    cases hx with
    | elt id row off b cap es len h' =>
      refine Does.val h ?_ (.elt _ _ _ _ _ _ _ h')
      simp only [execOp, hop, hy, Sem.run_bind, run_fieldAt hd hf hfi (by omega), Result.andThen_ok, Sem.run_pure, hoff, Nat.add_assoc]
  · rename_i cs off hid
    rw [hid] at hx
    generalize hy : e x = y at hx
    cases hx with
    | ipt cells off b o' u hG hc hr =>
      refine Does.val h ?_ (.ipt _ _ _ _ u hG hc hr)
      simp only [execOp, hop, hy, Sem.run_bind, run_fieldAt hd hf hfi (by omega), Result.andThen_ok, Sem.run_pure, hoff, Nat.add_assoc]
  · exact h.elim
theorem ev_field {t : TypeId} {x : Operand} {f : Nat} (hL : LayOk P L) (hop : o.op = .field t x f) (he : Eyes cx w ρ e) (h : evC (dom P A) L o ρ hp aid k) : Does P cx w e o aid k := by
  simp only [evC, hop] at h
  split at h
  case h_2 => exact h.elim
  rename_i lt ht
  split at h
  case isFalse => exact h.elim
  rename_i hk
  obtain ⟨info, d, z, hi, hd, hsz, hby, hz, hzl, hone, hlen, ⟨hk1, -⟩, -⟩ := hL t lt ht
  obtain ⟨fs, rfl, hparts, hfs⟩ := hk1 hk
  split at h
  case h_2 => exact h.elim
  rename_i dd size ag cs hp' hid
  have hfld : ∃ fld, fs[f]? = some fld ∧ partOf P fld = (dd, size, ag) := by
    rw [← hparts, List.getElem?_map] at hp'
    obtain ⟨fld, h1, h2⟩ := Option.map_eq_some_iff.1 hp'
    exact ⟨fld, by rwa [Array.getElem?_toList] at h1, h2⟩
  obtain ⟨fld, hf, hpt⟩ := hfld
  obtain ⟨⟨fi, hfi⟩, d', hd'⟩ := hfs fld (Array.mem_of_getElem? hf)
  have hoff : fld.offset = dd := by have := congrArg (·.1) hpt; exact this
  have hfsz : fi.size = size := by have := congrArg (·.2.1) hpt; simpa [partOf, Program.cellsOf, hfi] using this
  have hag : aggD d' = ag := by have := congrArg (·.2.2) hpt; simpa [partOf, hd'] using this
  have hx := he x
  rw [hid] at hx
  generalize hy : e x = y at hx
  cases hx with
  | agg cs vs hn hcb hr =>
    split at h
    · split at h
      case isFalse => exact h.elim
      rename_i hle
      refine Does.val (u := .agg (vs.extract dd (dd + size))) h ?_ (.agg _ _ ?_ (fun c hc => hcb c (List.mem_of_mem_drop (List.mem_of_mem_take hc))) (fun i c u h1 h2 => ?_))
      · simp only [execOp, hop, hy, Instr.field, Sem.run_bind, run_underlying hd, Result.andThen_ok, hf, asAgg, Sem.run_pure, part, run_isAgg hd', hag, if_true, run_sizeOf hfi, hoff, hfsz]
      · simp only [Array.size_extract, List.length_take, List.length_drop]; omega
      · rw [List.getElem?_take] at h1
        split at h1
        · rw [List.getElem?_drop] at h1
          rw [Array.getElem?_extract] at h2
          split at h2
          · exact hr _ _ _ h1 h2
          · cases h2
        · cases h1
    · split at h
      · rename_i v hv
        have hlt : dd < vs.size := by have := (List.getElem?_eq_some_iff.1 hv).1; omega
        refine Does.val (u := vs[dd]) h ?_ (hr _ _ _ hv (Array.getElem?_eq_getElem hlt))
        simp only [execOp, hop, hy, Instr.field, Sem.run_bind, run_underlying hd, Result.andThen_ok, hf, asAgg, Sem.run_pure, part, run_isAgg hd', hag, hoff, Bool.false_eq_true, if_false, Array.getElem?_eq_getElem hlt]
      · exact h.elim
theorem ev_extract {x : Operand} {i : Nat} (hop : o.op = .extract x i) (he : Eyes cx w ρ e) (h : evC (dom P A) L o ρ hp aid k) : Does P cx w e o aid k := by
  simp only [evC, hop] at h
  have hx := he x
  split at h
  · rename_i vs hid
    rw [hid] at hx
    split at h
    · rename_i v hv
      generalize hy : e x = y at hx
      cases hx with
      | tup cs us hn hr =>
        have hlt : i < us.size := by have := (List.getElem?_eq_some_iff.1 hv).1; omega
        refine Does.val (u := us[i]) h ?_ (hr _ _ _ hv (Array.getElem?_eq_getElem hlt))
        simp only [execOp, hop, hy, Instr.extract, Sem.run_bind, Array.getElem?_eq_getElem hlt, Sem.run_pure, Result.andThen_ok]
    · exact h.elim
  · exact h.elim
theorem ev_makeFunc {fn : Fn} {first caps : Array Operand} (hop : o.op = .makeFunc fn first caps) (he : Eyes cx w ρ e) (h : evC (dom P A) L o ρ hp aid k) : Does P cx w e o aid k := by
  simp only [evC, hop] at h
  cases fn with
  | func f =>
    obtain ⟨fl⟩ := first
    cases fl with
    | nil =>
      refine Does.val (u := .func (.func f) #[] (caps.map e)) h (by simp [execOp, hop, Instr.makeFunc]) (.fn _ _ _ (by simp) (fun i c u h1 h2 => ?_))
      rw [List.getElem?_map, Array.getElem?_toList] at h1
      rw [Array.getElem?_map] at h2
      obtain ⟨x, hx, rfl⟩ := Option.map_eq_some_iff.1 h1
      rw [hx] at h2
      cases h2
      exact he x
    | cons => exact h.elim
  | _ => exact h.elim
end
end Ab
end Go.Proofs.Ytgcgilcalmefgaa
namespace Go.Proofs.Ytgcgilcalmefgaa
open Go Go.RowKit
set_option linter.unusedVariables false
set_option linter.unusedSimpArgs false
namespace Ab
section
variable {P : Program} {A : Run} {L : TypeId → Option Lt} {cx : Cx} {w : World} {e : Operand → Value} {o : Oper} {ρ : Operand → V} {hp : List (Option Row)} {aid : Nat} {k : V → Option Row → Prop}
/-- two numbers, or two texts -/
def plainPair : Value → Value → Bool
  | .int _ _, .int _ _ => true
  | .string _, .string _ => true
  | _, _ => false
theorem run_eqGuard_flat (op : BinOp) (t : TypeId) (x y : Operand) {a b : Value} (h : plainPair a b = true) : (eqGuard op t x y a b).run P w = .ok () w := by
  unfold plainPair at h
  split at h
  · cases op <;> simp [eqGuard, go_sem]
  · cases op <;> simp [eqGuard, go_sem]
  · cases h
theorem binV_run {op : BinOp} {x y v : V} {a b : Value} {c : Prop} (t : TypeId) (ha : VRep cx w x a) (hb : VRep cx w y b) (h : binV (dom P A) op x y = some (c, v)) (hc : c) :
    plainPair a b = true ∧ ∃ u, (binOp op t a b).run P w = .ok u w ∧ VRep cx w v u := by
  unfold binV at h
  split at h
  · rename_i k1 n1 k2 n2
    obtain rfl := inv_int ha
    obtain rfl := inv_int hb
    refine ⟨rfl, ?_⟩
    cases op <;> simp only [dom] at h
    case add | sub | mul =>
      split at h
      · rename_i hk; subst hk
        cases h
        exact ⟨_, by simp [binOp, Op.intArith, arF, go_sem], rep_flat rfl⟩
      · cases h
    case and | or | xor | andNot =>
      split at h
      · rename_i hk; subst hk
        cases h
        exact ⟨_, by simp [binOp, Op.intBits, arF, go_sem], rep_flat rfl⟩
      · cases h
    case quo | rem =>
      split at h
      · rename_i hk; subst hk
        cases h
        have hne : n2 ≠ 0 := hc
        exact ⟨_, by simp [binOp, Op.intDiv, arF, hne, go_sem], rep_flat rfl⟩
      · cases h
    case shl | shr =>
      cases h
      have hge : 0 ≤ n2 := hc
      have hne : ¬ n2 < 0 := by omega
      exact ⟨_, by simp [binOp, Op.shift, arF, hne, go_sem], rep_flat rfl⟩
    case eql | neq | lss | leq | gtr | geq =>
      split at h
      · rename_i hk; subst hk
        cases h
        exact ⟨_, by simp [binOp, Op.intCmp, cmpF, go_sem], rep_flat rfl⟩
      · cases h
  · rename_i s1 s2
    obtain rfl := inv_flat ha
    obtain rfl := inv_flat hb
    refine ⟨rfl, ?_⟩
    cases op <;> simp only [dom] at h
    case add =>
      cases h
      have hle : ¬ (((s1.size + s2.size : Nat) : Int) > IntKind.i64.max) := by
        have h1 : s1.size + s2.size ≤ maxLen := hc
        have h2 : IntKind.i64.max = 9223372036854775807 := rfl
        unfold maxLen at h1
        omega
      exact ⟨_, by simp only [binOp, Op.stringOp, if_neg hle, Sem.run_pure], rep_flat rfl⟩
    case eql | neq | lss | leq | gtr | geq =>
      cases h
      exact ⟨_, by simp only [binOp, Op.stringOp, scmpF, Sem.run_pure], rep_flat rfl⟩
    all_goals cases h
  · cases h
theorem part_cell {t : TypeId} {d : TypeDesc} {cs : Array Value} {i : Nat} {v : Value} (hd : P.underlying t = some d) (ha : aggD d = false) (h : cs[i]? = some v) : (part t cs i).run P w = .ok v w := by
  simp only [part, Sem.run_bind, run_isAgg hd, Result.andThen_ok, ha, Bool.false_eq_true, if_false, h, Sem.run_pure]
theorem bytes_beq2 (a b : ByteArray) : (a.toList == b.toList) = (a == b) := (beq_toListBytes a b).symm
theorem eqOne_run {f : Field} {i n : Nat} {c : Ck} {x y : V} {u v : Value} {b : Bool} (hok : ckOk P f i c) (h : eqOne (dom P A) c x y = some b) (hu : VRep cx w x u) (hv : VRep cx w y v) :
    ∃ d, P.underlying f.type = some d ∧ aggD d = false ∧ (Op.equalIn (n + 1) f.type u v).run P w = .ok b w := by
  obtain ⟨-, -, hty⟩ := hok
  unfold eqOne at h
  split at h
  · split at h
    case isFalse => cases h
    rename_i e1
    split at h
    case isFalse => cases h
    rename_i e2
    cases h
    subst e1
    subst e2
    have e3 := inv_int hu
    have e4 := inv_int hv
    subst e3
    subst e4
    exact ⟨_, hty, rfl, run_equalIn_int w n f.type _ _ _ _ hty⟩
  · cases h
    have e3 := inv_flat hu
    have e4 := inv_flat hv
    subst e3
    subst e4
    exact ⟨_, hty, rfl, run_equalIn_string w n f.type _ _ hty⟩
  · cases h
    have e3 := inv_bool hu
    have e4 := inv_bool hv
    subst e3
    subst e4
    exact ⟨_, hty, rfl, run_equalIn_bool' w n f.type _ _ hty⟩
  · cases h
/-- two structs of scalars, field by field -/
theorem run_eqFields {n : Nat} {cx1 cy1 : Array Value} : ∀ {fs : List Field} {ks : List Ck} {xs ys : List V} {l : List Bool} {k0 : Nat}, fs.length = ks.length → (∀ (i : Nat) f c, fs[i]? = some f → ks[i]? = some c → ckOk P f (k0 + i) c) → eqCells (dom P A) ks xs ys = some l →
    (∀ (i : Nat) (c : V) (u : Value), xs[i]? = some c → cx1[k0 + i]? = some u → VRep cx w c u) → (∀ (i : Nat) (c : V) (u : Value), ys[i]? = some c → cy1[k0 + i]? = some u → VRep cx w c u) → k0 + xs.length ≤ cx1.size → k0 + ys.length ≤ cy1.size →
    (Op.eqFields (n + 1) cx1 cy1 fs).run P w = .ok (l.all id) w := by
  intro fs
  induction fs with
  | nil =>
    intro ks xs ys l k0 hl _ h _ _ _ _
    obtain rfl : ks = [] := List.eq_nil_of_length_eq_zero (by simpa using hl.symm)
    cases xs <;> cases ys <;> simp [eqCells] at h
    subst h
    simp [Op.eqFields]
  | cons f fs ih =>
    intro ks xs ys l k0 hl hok h hx hy hxl hyl
    cases ks with
    | nil => simp at hl
    | cons c ks =>
      have hck := hok 0 f c rfl rfl
      cases xs with
      | nil => simp [eqCells] at h
      | cons x xs =>
        cases ys with
        | nil => simp [eqCells] at h
        | cons y ys =>
          simp only [eqCells] at h
          split at h
          case h_2 => cases h
          rename_i b l' hb hl'
          cases h
          simp only [List.length_cons] at hxl hyl
          have h1 : k0 < cx1.size := by omega
          have h2 : k0 < cy1.size := by omega
          obtain ⟨d, hd, ha, hr⟩ := eqOne_run (n := n) hck hb (hx 0 x _ rfl (Array.getElem?_eq_getElem h1)) (hy 0 y _ rfl (Array.getElem?_eq_getElem h2))
          have hrest := ih (k0 := k0 + 1) (by simpa using hl) (fun i f c q1 q2 => by have := hok (i + 1) f c (by simpa using q1) (by simpa using q2); rwa [show k0 + (i + 1) = k0 + 1 + i by omega] at this) hl'
            (fun i c u q1 q2 => hx (i + 1) c u (by simpa using q1) (by rwa [show k0 + (i + 1) = k0 + 1 + i by omega])) (fun i c u q1 q2 => hy (i + 1) c u (by simpa using q1) (by rwa [show k0 + (i + 1) = k0 + 1 + i by omega])) (by omega) (by omega)
          have hoff : f.offset = k0 := by have := hck.2.1; rwa [Nat.add_zero] at this
          simp only [Op.eqFields]
          rw [if_pos hck.1]
          simp only [Sem.run_bind, hoff, part_cell (w := w) hd ha (Array.getElem?_eq_getElem h1), part_cell (w := w) hd ha (Array.getElem?_eq_getElem h2), Nat.add_zero, Result.andThen_ok, hr]
          cases b
          · simp
          · simp [hrest]
theorem eqV_run {op : BinOp} {t : TypeId} {x y : Operand} {xv yv v : V} {a b : Value} (hL : LayOk P L) (ha : VRep cx w xv a) (hb : VRep cx w yv b) (h : eqV (dom P A) L op t xv yv = some v) :
    (eqGuard op t x y a b).run P w = .ok () w ∧ ∃ u, (binOp op t a b).run P w = .ok u w ∧ VRep cx w v u := by
  unfold eqV at h
  split at h
  · rename_i xs ys
    split at h
    case h_2 => cases h
    rename_i lt hlt
    split at h
    case h_2 => cases h
    rename_i ks hks
    split at h
    case h_2 => cases h
    rename_i l hl
    obtain ⟨_, _, _, _, _, _, _, _, _, _, _, _, heq⟩ := hL t lt hlt
    obtain ⟨h1, h2, fs, hfs, hfl, hok⟩ := heq ks hks
    cases ha with
    | agg cs va hna hca hra =>
      cases hb with
      | agg cs' vb hnb hcb hrb =>
        have hfo : P.fieldsOf t = fs := by unfold Program.fieldsOf; rw [hfs]
        have hrun : (Op.equal t (.agg va) (.agg vb)).run P w = .ok (l.all id) w := by
          unfold Op.equal Op.maxDepth
          rw [run_equalIn_struct w 9999 t va vb (by rw [hfo]; exact hfs) h1, hfo]
          exact run_eqFields (k0 := 0) (by simpa using hfl) (fun i f c q1 q2 => by rw [Nat.zero_add]; exact hok i f c (by simpa using q1) q2) hl (fun i c u q1 q2 => hra i c u q1 (by rwa [Nat.zero_add] at q2)) (fun i c u q1 q2 => hrb i c u q1 (by rwa [Nat.zero_add] at q2)) (by omega) (by omega)
        have hguard : (eqGuard op t x y (.agg va) (.agg vb)).run P w = .ok () w := by
          cases op <;> simp [eqGuard, go_sem, h2]
        refine ⟨hguard, ?_⟩
        split at h
        · cases h
          exact ⟨_, by simp [binOp, hrun, show (dom P A).conj l = l.all id from rfl], rep_flat rfl⟩
        · cases h
          exact ⟨_, by simp [binOp, hrun, show (dom P A).conj l = l.all id from rfl], rep_flat rfl⟩
        · cases h
  · rename_i p q
    split at h
    case h_2 => cases h
    rename_i lt hlt
    obtain ⟨_, d, _, _, hd, _, _, _, _, _, _, ⟨_, _, _, _, _, _, _, h5⟩, _⟩ := hL t lt hlt
    split at h
    case h_2 => cases h
    rename_i hk
    have hd5 := h5 hk
    subst hd5
    have e3 := inv_bool ha
    have e4 := inv_bool hb
    subst e3
    subst e4
    have hrun : (Op.equal t (.bool p) (.bool q)).run P w = .ok (p == q) w := by
      unfold Op.equal Op.maxDepth
      exact run_equalIn_bool' w 9999 t p q hd
    refine ⟨by cases op <;> simp [eqGuard, go_sem], ?_⟩
    split at h
    · cases h
      exact ⟨.bool (p == q), by simp [binOp, hrun], by simp only [dom, List.all_cons, List.all_nil, Bool.and_true, id]; exact rep_flat rfl⟩
    · cases h
      exact ⟨.bool (!(p == q)), by simp [binOp, hrun], by simp only [dom, List.all_cons, List.all_nil, Bool.and_true, id]; exact rep_flat rfl⟩
    · cases h
  · cases h
theorem ev_binOp {op : BinOp} {t u : TypeId} {x y : Operand} (hL : LayOk P L) (hop : o.op = .binOp op t x y u) (he : Eyes cx w ρ e) (h : evC (dom P A) L o ρ hp aid k) : Does P cx w e o aid k := by
  simp only [evC, hop] at h
  split at h
  · rename_i c v hv
    obtain ⟨hg, u', h1, h2⟩ := binV_run t (he x) (he y) hv h.1
    exact Does.val h.2 (by simp only [execOp, hop, Sem.run_bind, run_eqGuard_flat op t x y hg, Result.andThen_ok, h1, Sem.run_pure]) h2
  · split at h
    · rename_i v hv
      obtain ⟨hg, u', h1, h2⟩ := eqV_run (x := x) (y := y) hL (he x) (he y) hv
      exact Does.val h (by simp only [execOp, hop, Sem.run_bind, hg, Result.andThen_ok, h1, Sem.run_pure]) h2
    · exact h.elim
theorem ev_unOp {op : UnOp} {t : TypeId} {x : Operand} (hop : o.op = .unOp op t x) (he : Eyes cx w ρ e) (h : evC (dom P A) L o ρ hp aid k) : Does P cx w e o aid k := by
  simp only [evC, hop] at h
  have hx := he x
  split at h
  · rename_i b hid
    rw [hid] at hx
    have hy := inv_bool hx
    exact Does.val h (by simp [execOp, hop, hy, Op.unary, go_sem]) (rep_flat rfl)
  · rename_i i n hid
    rw [hid] at hx
    have hy := inv_int hx
    exact Does.val h (by simp [execOp, hop, hy, Op.unary, Op.intArith, dom, arF, go_sem]) (rep_flat rfl)
  · exact h.elim
theorem ev_convert {s d : TypeId} {x : Operand} (hL : LayOk P L) (hop : o.op = .convert s d x) (he : Eyes cx w ρ e) (h : evC (dom P A) L o ρ hp aid k) : Does P cx w e o aid k := by
  simp only [evC, hop] at h
  have hx := he x
  split at h
  case h_2 => exact h.elim
  rename_i ls ld hs hd
  obtain ⟨_, ds, _, _, hus, _, _, _, _, _, _, ⟨_, _, _, hs4, _, hsi, _⟩, _⟩ := hL s ls hs
  obtain ⟨_, dd, _, _, hud, _, _, _, _, _, _, ⟨_, _, _, hd4, _, hdi, _⟩, _⟩ := hL d ld hd
  split at h
  · rename_i i n hid
    rw [hid] at hx
    have hy := inv_int hx
    split at h
    · rename_i i1 i2 h1 h2
      have e1 := hsi _ h1
      have e2 := hdi _ h2
      subst e1
      subst e2
      exact Does.val h (by simp only [execOp, hop, hy, convert, Sem.run_bind, run_underlying hus, run_underlying hud, Result.andThen_ok, Conv.intToInt, Sem.run_pure, dom]) (rep_flat rfl)
    · exact h.elim
  · rename_i str hid
    rw [hid] at hx
    have hy := inv_flat hx
    split at h
    case isFalse => exact h.elim
    rename_i hk1
    split at h
    case isFalse => exact h.elim
    rename_i hk2
    have e1 := hs4 hk1
    have e2 := hd4 hk2
    subst e1
    subst e2
    exact Does.val h (by simp only [execOp, hop, hy, convert, Sem.run_bind, run_underlying hus, run_underlying hud, Result.andThen_ok, Sem.run_pure]) (rep_flat rfl)
  · exact h.elim
theorem run_indexAt {t el : TypeId} {a : Addr} {len cap : Nat} {i : IntKind} {n : Int} {ei : TypeInfo} (h : P.underlying t = some (.slice el)) (he : P.info? el = some ei) (h0 : 0 ≤ n) (h1 : n < len) :
    (Instr.indexAt t (.slice (some a) len cap) (.int i n)).run P w = .ok (.pointer (some (a.add (n.toNat * ei.size)))) w := by
  simp only [Instr.indexAt, asIntOf, Sem.run_bind, Sem.run_pure, Result.andThen_ok, run_underlying h]
  rw [if_pos ⟨h0, h1⟩]
  simp only [Sem.run_bind, run_sizeOf he, Result.andThen_ok, Sem.run_pure]
theorem run_indexArr {t el n : Nat} {b oo m : Nat} {i : IntKind} {ei : TypeInfo} (h : P.underlying t = some (.array n el)) (he : P.info? el = some ei) (h1 : m < n) :
    (Instr.indexAt t (.pointer (some ⟨b, oo, none⟩)) (.int i (.ofNat m))).run P w = .ok (.pointer (some ⟨b, oo + m * ei.size, none⟩)) w := by
  simp only [Instr.indexAt, asIntOf, Sem.run_bind, Sem.run_pure, Result.andThen_ok, run_underlying h, Instr.sureAddr]
  rw [if_pos ⟨Int.natCast_nonneg m, Int.ofNat_lt.2 h1⟩]
  simp only [Sem.run_bind, run_sizeOf he, Result.andThen_ok, Sem.run_pure, add_none, Int.ofNat_eq_natCast, Int.toNat_natCast]
theorem ev_indexArr {t : TypeId} {x i : Operand} {lt : Lt} (hL : LayOk P L) (ht : L t = some lt) (hop : o.op = .indexAddr t x i) (he : Eyes cx w ρ e)
    (h : if lt.kind = 2 then
          match L lt.elem with
          | some le =>
            match ρ x, ρ i with
            | .ptr id off, .t (.flat (.int _ (.ofNat m))) => if m < lt.len then (if 0 < le.size then k (.ptr id (off + m * le.size)) none else False) else False
            | .ipt cs off, .t (.flat (.int _ (.ofNat m))) => if m < lt.len then (if 0 < le.size then k (.ipt cs (off + m * le.size)) none else False) else False
            | _, _ => False
          | none => False
        else False) : Does P cx w e o aid k := by
  split at h
  case isFalse => exact h.elim
  rename_i hk
  obtain ⟨_, d, _, _, hd, _, _, _, _, _, _, ⟨_, hk2, _⟩, _⟩ := hL t lt ht
  obtain rfl := hk2 hk
  split at h
  case h_2 => exact h.elim
  rename_i le hle
  obtain ⟨ei, _, _, hei, _, hesz, _⟩ := hL lt.elem le hle
  have hx := he x
  have hi := he i
  split at h
  · rename_i id off kk m hxv hiv
    rw [hxv] at hx
    rw [hiv] at hi
    have hn := inv_int hi
    split at h
    case isFalse => exact h.elim
    rename_i hm
    split at h
    case isFalse => exact h.elim
    generalize hy : e x = y at hx
    cases hx with
    | ptr id off b cap es len h' =>
      refine Does.val h ?_ (.ptr _ _ _ _ _ _ h')
      simp only [execOp, hop, hy, hn, Sem.run_bind, run_indexArr hd hei hm, Result.andThen_ok, Sem.run_pure, hesz]
  · rename_i cs off kk m hxv hiv
    rw [hxv] at hx
    rw [hiv] at hi
    have hn := inv_int hi
    split at h
    case isFalse => exact h.elim
    rename_i hm
    split at h
    case isFalse => exact h.elim
    generalize hy : e x = y at hx
    cases hx with
    | ipt cells off b o' u hG hc hr =>
      refine Does.val h ?_ (.ipt _ _ _ _ u hG hc hr)
      simp only [execOp, hop, hy, hn, Sem.run_bind, run_indexArr hd hei hm, Result.andThen_ok, Sem.run_pure, hesz, Nat.add_assoc]
  · exact h.elim
theorem ev_indexAddr {t : TypeId} {x i : Operand} (hL : LayOk P L) (hop : o.op = .indexAddr t x i) (he : Eyes cx w ρ e) (hrow : ∀ id r, hp.getD id none = some r → RowRep cx w id r) (h : evC (dom P A) L o ρ hp aid k) : Does P cx w e o aid k := by
  simp only [evC, hop] at h
  split at h
  case h_2 => exact h.elim
  rename_i lt ht
  split at h
  case isFalse => exact ev_indexArr hL ht hop he h
  rename_i hk
  obtain ⟨_, d, _, _, hd, _, _, _, _, _, _, ⟨_, _, hk3, _⟩, _⟩ := hL t lt ht
  obtain rfl := hk3 hk
  split at h
  case h_2 => exact h.elim
  rename_i le hle
  obtain ⟨ei, _, _, hei, _, hesz, _⟩ := hL lt.elem le hle
  have hx := he x
  have hi := he i
  split at h
  · rename_i rows kk n hxv hiv
    rw [hxv] at hx
    rw [hiv] at hi
    have hn := inv_int hi
    obtain ⟨cs, h0, hrow', h⟩ := h
    split at h
    case isFalse => exact h.elim
    rename_i hlen
    have hlt := (List.getElem?_eq_some_iff.1 hrow').1
    generalize hy : e x = y at hx
    cases hx with
    | t x v hT =>
      cases hT with
      | slc rows a b oo es cap u hcap hnil ha hes hc hr =>
        have hne : rows ≠ [] := by rintro rfl; simp at hlt
        obtain ⟨rfl, hG⟩ := ha hne
        have hes' : es = ei.size := by rw [hesz, ← hlen, hes cs (List.mem_of_getElem? hrow')]
        refine Does.val (u := .pointer (some ⟨b, oo + n.toNat * es, none⟩)) h ?_ ?_
        · simp only [execOp, hop, hy, hn, Sem.run_bind, run_indexAt hd hei h0 (by omega : n < (rows.length : Int)), Result.andThen_ok, Sem.run_pure, add_none, hes']
        · have := VRep.ipt (cx := cx) (w := w) cs 0 b (oo + n.toNat * es) (u n.toNat) hG (fun j t' h' => by rw [Nat.add_assoc]; exact hc n.toNat j t' (by simp [hrow', h'])) (fun j t' h' => hr n.toNat j t' (by simp [hrow', h']))
          simpa using this
  · rename_i id kk n hxv hiv
    rw [hxv] at hx
    rw [hiv] at hi
    have hn := inv_int hi
    split at h
    case h_2 => exact h.elim
    rename_i ty es rows hr
    obtain ⟨cs, h0, hrow', h⟩ := h
    split at h
    case isFalse => exact h.elim
    rename_i hes
    have hlt := (List.getElem?_eq_some_iff.1 hrow').1
    have hR := hrow _ _ hr
    generalize hy : e x = y at hx
    cases hR with
    | listN => simp at hlt
    | list ty es rows b cap vs hat hb hG hcap hmax hsz hes2 hr2 =>
      cases hx with
      | lstN id h' => rw [hat] at h'; cases h'
      | lst id b' cap' es' len' h' =>
        rw [hat] at h'
        cases h'
        refine Does.val (u := .pointer (some ⟨b, n.toNat * es + 0, none⟩)) h ?_ (.elt _ _ _ _ _ _ _ hat)
        simp only [execOp, hop, hy, hn, Sem.run_bind, run_indexAt hd hei h0 (by omega : n < (rows.length : Int)), Result.andThen_ok, Sem.run_pure, add_none, hes, hesz, Nat.zero_add, Nat.add_zero]
  · exact h.elim
theorem ev_index {t : TypeId} {x i : Operand} (hL : LayOk P L) (hop : o.op = .index t x i) (he : Eyes cx w ρ e) (h : evC (dom P A) L o ρ hp aid k) : Does P cx w e o aid k := by
  simp only [evC, hop] at h
  split at h
  case h_2 => exact h.elim
  rename_i lt ht
  split at h
  case isFalse => exact h.elim
  rename_i hk
  obtain ⟨_, d, _, _, hd, _, _, _, _, _, _, ⟨_, _, _, hk4, _⟩, _⟩ := hL t lt ht
  obtain rfl := hk4 hk
  have hx := he x
  have hi := he i
  split at h
  case h_2 => exact h.elim
  rename_i s kk n hxv hiv
  rw [hxv] at hx
  rw [hiv] at hi
  have hn := inv_int hi
  have hs := inv_flat hx
  obtain ⟨⟨h0, h1⟩, h⟩ := h
  refine Does.val h ?_ (rep_flat rfl)
  have hlt : n.toNat < s.size := by omega
  have hc : s[n.toNat]? = some (s.data.getD n.toNat 0) := by
    have h2 : s[n.toNat]? = some (s[n.toNat]'hlt) := getElem?_pos s n.toNat hlt
    rw [h2]
    have hlt2 : n.toNat < s.data.size := hlt
    congr 1
    rw [Array.getD_eq_getD_getElem?, Array.getElem?_eq_getElem hlt2]
    rfl
  simp only [execOp, hop, hs, hn, Instr.index, asIntOf, Sem.run_bind, Sem.run_pure, Result.andThen_ok, run_underlying hd, if_pos h0, hc]
  rfl
end
end Ab
end Go.Proofs.Ytgcgilcalmefgaa
namespace Go.Proofs.Ytgcgilcalmefgaa
open Go Go.RowKit
set_option linter.unusedVariables false
set_option linter.unusedSimpArgs false
namespace Ab
section
variable {P : Program} {A : Run} {L : TypeId → Option Lt} {cx : Cx} {w : World} {e : Operand → Value} {o : Oper} {ρ : Operand → V} {hp : List (Option Row)} {aid : Nat} {k : V → Option Row → Prop}
theorem toTs_eq : ∀ {cs : List V} {ts : List T}, toTs cs = some ts → cs = ts.map V.t := by
  intro cs
  induction cs with
  | nil => intro ts h; simp [toTs] at h; subst h; rfl
  | cons c r ih =>
    intro ts h
    cases c with
    | t x =>
      simp only [toTs] at h
      split at h
      · rename_i l hl
        cases h
        rw [ih hl]
        rfl
      · cases h
    | _ => simp [toTs] at h
theorem mul_lt {i j n es : Nat} (hi : i < n) (hj : j < es) : i * es + j < n * es := by
  have : (i + 1) * es ≤ n * es := Nat.mul_le_mul_right _ hi
  rw [Nat.succ_mul] at this
  omega
theorem fill_rows {es : Nat} (he : Eyes cx w ρ e) : ∀ (l : List (Nat × Operand)) (k : Nat) (rows : Rows) (arr : Array Value) (N : Nat), arr.size = N * es → k + l.length ≤ N → rowsOf es k (l.map fun p => (p.1, ρ p.2)) = some rows →
    ∃ arr', Instr.fill (fun i => some (i * es, es)) arr (l.map fun p => (p.1, e p.2)) = some arr' ∧ arr'.size = arr.size ∧ (∀ j, j < k * es → arr'[j]? = arr[j]?) ∧ rows.length = l.length ∧ (∀ row ∈ rows, row.length = es) ∧
      ∀ (i j : Nat) (t : T), (rows[i]?).bind (fun r => r[j]?) = some t → ∃ u, arr'[(k + i) * es + j]? = some u ∧ TRep cx.G w t u := by
  intro l
  induction l with
  | nil =>
    intro k rows arr N hN hk h
    simp only [List.map_nil, rowsOf, Option.some.injEq] at h
    subst h
    exact ⟨arr, rfl, rfl, fun _ _ => rfl, rfl, fun _ h => by simp at h, fun i j t h => by simp at h⟩
  | cons x l ih =>
    intro k rows arr N hN hk h
    simp only [List.length_cons] at hk
    simp only [List.map_cons, rowsOf] at h
    split at h
    case isFalse => cases h
    rename_i hx
    split at h
    case isFalse => cases h
    rename_i hlen
    split at h
    case h_2 => cases h
    rename_i r hr
    split at h
    case h_2 => cases h
    rename_i rest hrest
    cases h
    have hcells := toTs_eq hr
    have hall : (ρ x.2).cells.all V.cellB = true := by
      rw [hcells, List.all_eq_true]
      intro c hc
      obtain ⟨t, -, rfl⟩ := List.mem_map.1 hc
      rfl
    obtain ⟨hv, hone⟩ := (he x.2).cells hall
    have hcs : (e x.2).cells.size = es := by rw [hv.1, hlen]
    have hrl : r.length = es := by rw [hcells, List.length_map] at hlen; exact hlen
    have hke : k * es + es ≤ N * es := by
      have : (k + 1) * es ≤ N * es := Nat.mul_le_mul_right _ (by omega)
      rwa [Nat.succ_mul] at this
    obtain ⟨f1, f2⟩ := fold_set (e x.2).cells.toList (k * es) 0 arr (by rw [Array.length_toList]; omega)
    have hfold : ((e x.2).cells.zipIdx.foldl (fun cs (c, j) => cs.setIfInBounds (k * es + j) c) arr) = (((e x.2).cells.toList.zipIdx 0).foldl (fun cs (x : Value × Nat) => cs.setIfInBounds (k * es + x.2) x.1) arr) := by
      rw [← Array.foldl_toList, Array.toList_zipIdx]
    generalize (((e x.2).cells.toList.zipIdx 0).foldl (fun cs (x : Value × Nat) => cs.setIfInBounds (k * es + x.2) x.1) arr) = arr1 at *
    obtain ⟨arr', g1, g2, g3, g4, g5, g6⟩ := ih (k + 1) rest arr1 N (by omega) (by omega) hrest
    refine ⟨arr', ?_, by omega, fun j hj => ?_, by simp [g4], fun row hrow => ?_, fun i j t ht => ?_⟩
    · simp only [List.map_cons, Instr.fill, hx]
      rw [if_neg (by simp [hcs]; omega), hfold]
      exact g1
    · rw [g3 j (by rw [Nat.succ_mul]; omega), f2 j, if_neg (by omega)]
    · simp only [List.mem_cons] at hrow
      rcases hrow with rfl | hrow
      · exact hrl
      · exact g5 row hrow
    · cases i with
      | zero =>
        simp only [List.getElem?_cons_zero, Option.bind_some] at ht
        have hj : j < es := by have := (List.getElem?_eq_some_iff.1 ht).1; omega
        have hj2 : j < (e x.2).cells.size := by omega
        refine ⟨(e x.2).cells[j], ?_, ?_⟩
        · rw [Nat.add_zero, g3 _ (by rw [Nat.succ_mul]; omega), f2, if_pos (by rw [Array.length_toList]; omega)]
          rw [show k * es + j - (k * es + 0) = j by omega, Array.getElem?_toList, Array.getElem?_eq_getElem hj2]
        · have := hv.2 j (.t t) _ (by rw [hcells, List.getElem?_map, ht]; rfl) (Array.getElem?_eq_getElem hj2)
          cases this with | t x v h => exact h
      | succ i =>
        simp only [List.getElem?_cons_succ] at ht
        obtain ⟨u, h1, h2⟩ := g6 i j t ht
        exact ⟨u, by rw [show k + (i + 1) = k + 1 + i by omega]; exact h1, h2⟩
/-- a list's row laid new -/
theorem list_res {ty es : Nat} {rows : Rows} {vs : Array Value} (h0 : cx.at_ aid = none) (hG : ∀ b, cx.G b → b < w.heap.size) (hmax : rows.length ≤ maxLen) (hsz : vs.size = rows.length * es) (hes : ∀ row ∈ rows, row.length = es)
    (hr : ∀ (i j : Nat) (t : T), (rows[i]?).bind (fun r => r[j]?) = some t → ∃ u, vs[i * es + j]? = some u ∧ TRep cx.G w t u) :
    ∃ cx', Res cx w aid (some (.list ty es rows)) cx' (w.alloc (.cells vs ty)) (.lst aid) (.slice (some ⟨w.heap.size, 0, none⟩) rows.length rows.length) := by
  refine Res.fresh (cap := rows.length) (es := es) (len := rows.length) h0 hG fun cx' hle he hg => ?_
  refine ⟨.lst _ _ _ _ _ he, .list ty es rows _ _ vs he (alloc_new _) (by rw [hg]; intro h; have := hG _ h; omega) (Nat.le_refl _) hmax hsz hes (fun i j t ht => ?_)⟩
  obtain ⟨u, h1, h2⟩ := hr i j t ht
  exact ⟨u, h1, h2.mono (alloc_same hG _) (fun b h => by rw [hg]; exact h)⟩
theorem ev_buildSlice {t : TypeId} {n : Nat} {ps : Array (Nat × Operand)} (hL : LayOk P L) (h0 : cx.at_ aid = none) (hG : ∀ b, cx.G b → b < w.heap.size) (hop : o.op = .buildSlice t n ps) (he : Eyes cx w ρ e) (h : evC (dom P A) L o ρ hp aid k) : Does P cx w e o aid k := by
  simp only [evC, hop] at h
  split at h
  case h_2 => exact h.elim
  rename_i lt ht
  split at h
  case isFalse => exact h.elim
  rename_i hk
  obtain ⟨_, d, _, _, hd, _, _, _, _, _, _, ⟨_, _, hk3, _⟩, _⟩ := hL t lt ht
  obtain rfl := hk3 hk
  split at h
  case h_2 => exact h.elim
  rename_i le hle
  obtain ⟨ei, _, z, hei, _, hesz, _, hz, hzl, hone, hlen, _⟩ := hL lt.elem le hle
  split at h
  case isFalse => exact h.elim
  rename_i hn
  split at h
  case isFalse => exact h.elim
  rename_i hpos
  split at h
  case isFalse => exact h.elim
  rename_i hbig
  split at h
  case h_2 => exact h.elim
  rename_i rows hrows
  have hzs : z.cells.size = le.size := by rw [← Array.length_toList, hzl, hlen]
  obtain ⟨arr', g1, g2, -, g4, g5, g6⟩ := fill_rows he ps.toList 0 rows ((Array.range (n * le.size)).map (z.cells[· % z.cells.size]!)) n (by simp) (by omega) hrows
  have hnl : rows.length = n := by omega
  obtain ⟨cx', hres⟩ := list_res (ty := lt.elem) (es := le.size) (rows := rows) (vs := arr') h0 hG (by
    have : rows.length ≤ n * le.size := by rw [hnl]; exact Nat.le_mul_of_pos_right _ hpos
    unfold maxLen
    omega) (by rw [g2, hnl]; simp) g5 (fun i j t ht => by have := g6 i j t ht; rwa [Nat.zero_add] at this)
  refine ⟨_, _, _, _, cx', h, ?_, hres⟩
  have hsmall : ¬ (n * ei.size > 2 ^ 24) := by rw [hesz]; omega
  have hfill : Instr.fill (fun i => some (i * ei.size, ei.size)) ((Array.range (n * ei.size)).map (z.cells[· % z.cells.size]!)) (ps.map fun p => (p.1, e p.2)).toList = some arr' := by rw [hesz, Array.toList_map]; exact g1
  by_cases hz0 : n * ei.size = 0
  · have hfill0 : Instr.fill (fun i => some (i * ei.size, ei.size)) ((Array.range (n * ei.size)).map ((#[] : Array Value)[· % (#[] : Array Value).size]!)) (ps.map fun p => (p.1, e p.2)).toList = some arr' := by
      rw [← hfill]
      congr 1
      rw [hz0]
      simp
    simp only [execOp, hop, Instr.buildSlice, Sem.run_bind, run_underlying hd, Result.andThen_ok, run_sizeOf hei]
    rw [if_neg hsmall]
    rw [if_pos hz0]
    simp only [Sem.run_bind, Sem.run_pure, Result.andThen_ok]
    rw [hfill0]
    simp [newRow, go_sem, hnl]
  · simp only [execOp, hop, Instr.buildSlice, Sem.run_bind, run_underlying hd, Result.andThen_ok, run_sizeOf hei]
    rw [if_neg hsmall]
    rw [if_neg hz0]
    simp only [Sem.run_bind, run_zero hei hz, Result.andThen_ok, Sem.run_pure]
    rw [hfill]
    simp [newRow, go_sem, hnl]
theorem ev_makeSlice {t : TypeId} {l c : Operand} (hL : LayOk P L) (h0 : cx.at_ aid = none) (hG : ∀ b, cx.G b → b < w.heap.size) (hop : o.op = .makeSlice t l c) (he : Eyes cx w ρ e) (h : evC (dom P A) L o ρ hp aid k) : Does P cx w e o aid k := by
  simp only [evC, hop] at h
  split at h
  case h_2 => exact h.elim
  rename_i lt ht
  split at h
  case isFalse => exact h.elim
  rename_i hk
  obtain ⟨_, d, _, _, hd, _, _, _, _, _, _, ⟨_, _, hk3, _⟩, _⟩ := hL t lt ht
  obtain rfl := hk3 hk
  split at h
  case h_2 => exact h.elim
  rename_i le hle
  obtain ⟨ei, _, z, hei, _, hesz, heby, hz, hzl, hone, hlen, _⟩ := hL lt.elem le hle
  split at h
  case isFalse => exact h.elim
  rename_i hpos
  have hl := he l
  have hc := he c
  split at h
  case h_2 => exact h.elim
  rename_i k1 n k2 m hlv hcv
  rw [hlv] at hl
  rw [hcv] at hc
  have el := inv_int hl
  have ec := inv_int hc
  obtain ⟨⟨hnm, r1, r2, r3⟩, h⟩ := h
  subst hnm
  have hzs : z.cells.size = le.size := by rw [← Array.length_toList, hzl, hlen]
  have hlz : (List.replicate n.toNat (le.zero.map T.flat)).length = n.toNat := List.length_replicate
  obtain ⟨cx', hres⟩ := list_res (w := w) (ty := lt.elem) (es := le.size) (rows := List.replicate n.toNat (le.zero.map T.flat)) (vs := madeCells z.cells (n.toNat * ei.size)) h0 hG (by rw [hlz]; unfold maxLen; omega)
    (by rw [size_madeCells, hlz, hesz]) (fun row hr => by obtain ⟨-, rfl⟩ := List.mem_replicate.1 hr; simp [hlen]) (fun i j t' ht' => by
      rw [List.getElem?_replicate] at ht'
      split at ht'
      · rename_i hi
        simp only [Option.bind_some, List.getElem?_map] at ht'
        obtain ⟨v, hv, rfl⟩ := Option.map_eq_some_iff.1 ht'
        have hj : j < le.size := by have := (List.getElem?_eq_some_iff.1 hv).1; omega
        refine ⟨v, ?_, .flat _ (hone _ (List.mem_of_getElem? hv))⟩
        have hb : i * le.size + j < n.toNat * ei.size := by rw [hesz]; exact mul_lt hi hj
        rw [madeCells, Array.getElem?_map, Array.getElem?_range]
        rw [if_pos hb]
        simp only [Option.map_some, hzs]
        have hm : (i * le.size + j) % le.size = j := by rw [Nat.mul_comm, Nat.mul_add_mod]; exact Nat.mod_eq_of_lt hj
        rw [hm]
        rw [← hzl, Array.getElem?_toList] at hv
        obtain ⟨hj2, hv⟩ := Array.getElem?_eq_some_iff.1 hv
        rw [getElem!_pos z.cells j hj2, hv]
      · simp at ht')
  rw [hlz] at hres
  refine ⟨_, _, _, _, cx', h, ?_, hres⟩
  simp only [execOp, hop, el, ec, Sem.run_bind, run_make w t lt.elem ei z hd hei hz k1 k2 n n r1 (Int.le_refl _) (by rw [heby]; omega) (by omega), Result.andThen_ok, Sem.run_pure]
theorem run_bound {x : Value} {i : IntKind} {n : Int} {y : Nat} {code : BoundsCode} (hx : x = .int i n) (h0 : 0 ≤ n) (h1 : n ≤ y) : (Instr.sliceBound x y code).run P w = .ok n.toNat w := by
  subst hx
  simp only [Instr.sliceBound, asIntOf, Sem.run_bind, Sem.run_pure, Result.andThen_ok]
  rw [if_pos ⟨h0, h1⟩]
  simp only [Sem.run_pure]
theorem run_bounds {b : Bool} {len cap : Nat} {lo hi : Option Operand} {l h : Int} (he : Eyes cx w ρ e) (hl : numV ρ lo 0 = some l) (hh : numV ρ hi len = some h) (h0 : 0 ≤ l) (h1 : l ≤ h) (h2 : h ≤ len) (h3 : len ≤ cap) :
    (Instr.sliceBounds b len cap (lo.map e) (hi.map e) none).run P w = .ok (l.toNat, h.toNat, cap) w := by
  have hhi : ∀ c, hi = none ∧ h = (len : Int) ∨ ∃ z, hi = some z ∧ (Instr.sliceBound (e z) cap c).run P w = .ok h.toNat w := by
    intro c
    cases hi with
    | none => simp [numV] at hh; exact .inl ⟨rfl, hh.symm⟩
    | some z =>
      simp only [numV] at hh
      split at hh
      · rename_i k n hz
        cases hh
        exact .inr ⟨z, rfl, run_bound (inv_int (by have := he z; rw [hz] at this; exact this)) (by omega) (by omega)⟩
      · cases hh
  have hlo : lo = none ∧ l = 0 ∨ ∃ z, lo = some z ∧ (Instr.sliceBound (e z) h.toNat .sliceB).run P w = .ok l.toNat w := by
    cases lo with
    | none => simp [numV] at hl; exact .inl ⟨rfl, hl.symm⟩
    | some z =>
      simp only [numV] at hl
      split at hl
      · rename_i k n hz
        cases hl
        exact .inr ⟨z, rfl, run_bound (inv_int (by have := he z; rw [hz] at this; exact this)) (by omega) (by omega)⟩
      · cases hl
  rcases hhi (if b then .sliceAcap else .sliceAlen) with ⟨rfl, hh'⟩ | ⟨zh, rfl, hzh⟩ <;> rcases hlo with ⟨rfl, hl'⟩ | ⟨zl, rfl, hzl⟩
  · have e1 : h.toNat = len := by omega
    have e2 : l.toNat = 0 := by omega
    simp only [Instr.sliceBounds, Option.map_none, Sem.run_bind, Sem.run_pure, Result.andThen_ok, e1, e2]
  · have e1 : h.toNat = len := by omega
    rw [e1] at hzl
    simp [Instr.sliceBounds, hzl, e1]
  · have e2 : l.toNat = 0 := by omega
    simp only [Instr.sliceBounds, Option.map_none, Option.map_some, Sem.run_bind, Sem.run_pure, Result.andThen_ok, hzh, e2]
  · simp [Instr.sliceBounds, hzh, hzl]
theorem ev_slice {t : TypeId} {x : Operand} {lo hi mx : Option Operand} (hL : LayOk P L) (hop : o.op = .slice t x lo hi mx) (he : Eyes cx w ρ e) (h : evC (dom P A) L o ρ hp aid k) : Does P cx w e o aid k := by
  simp only [evC, hop] at h
  split at h
  case h_2 => exact h.elim
  rename_i lt ht
  obtain ⟨_, d, _, _, hd, _, _, _, _, _, _, ⟨_, _, hk3, hk4, _⟩, _⟩ := hL t lt ht
  have hx := he x
  split at h
  · rename_i s hxv
    rw [hxv] at hx
    have hs := inv_flat hx
    split at h
    case isFalse => exact h.elim
    rename_i hk
    obtain rfl := hk4 hk
    split at h
    case h_2 => exact h.elim
    rename_i l hh hl1 hh1
    have hl2 : numV ρ lo 0 = some l := hl1
    have hh2 : numV ρ hi s.size = some hh := hh1
    obtain ⟨hb, h⟩ := h
    have h' : k (fS (s.extract l.toNat hh.toNat)) none := h
    refine Does.val h' ?_ (rep_flat rfl)
    have hbd := run_bounds (P := P) (b := false) (cap := s.size) he hl2 hh2 hb.1 hb.2.1 hb.2.2 (Nat.le_refl _)
    simp only [execOp, hop, Instr.sliceAt, Sem.run_bind, run_underlying hd, Result.andThen_ok, Instr.slice, hs, Option.map_none, Option.isSome_none, Bool.false_eq_true, if_false, Sem.run_pure, hbd]
  · rename_i rows hxv
    rw [hxv] at hx
    split at h
    case isFalse => exact h.elim
    rename_i hk
    obtain rfl := hk3 hk
    split at h
    case h_2 => exact h.elim
    rename_i le hle
    obtain ⟨ei, _, _, hei, _, hesz, _⟩ := hL lt.elem le hle
    split at h
    case h_2 => exact h.elim
    rename_i l hh hl1 hh1
    have hl2 : numV ρ lo 0 = some l := hl1
    have hh2 : numV ρ hi rows.length = some hh := hh1
    obtain ⟨⟨hb0, hb1, hb2, hfit⟩, h⟩ := h
    have h' : k (.t (.slc ((rows.take hh.toNat).drop l.toNat))) none := h
    generalize hy : e x = y at hx
    cases hx with
    | t x v hT =>
      cases hT with
      | slc rows a b oo es cap u hcap hnil ha hes hc hr =>
        have hbd := run_bounds (P := P) (b := true) (cap := cap) he hl2 hh2 hb0 hb1 hb2 hcap
        have hlen : ((rows.take hh.toNat).drop l.toNat).length = hh.toNat - l.toNat := by rw [List.length_drop, List.length_take]; omega
        have hml : ei.size = es ∨ rows = [] := by
          cases rows with
          | nil => exact .inr rfl
          | cons row rest => exact .inl (by rw [hesz, ← hfit row (by simp), hes row (by simp)])
        · refine Does.val (u := .slice (if cap = l.toNat then a else a.map (·.add (l.toNat * ei.size))) (hh.toNat - l.toNat) (cap - l.toNat)) h' ?_ ?_
          · simp only [execOp, hop, Instr.sliceAt, Sem.run_bind, run_underlying hd, Result.andThen_ok, Instr.slice, hy, Option.map_none, hbd, run_sizeOf hei, Sem.run_pure]
          · rw [← hlen]
            refine .t _ _ (.slc _ _ b (oo + l.toNat * es) es _ (fun i j => u (l.toNat + i) j) (by rw [hlen]; omega) (fun hn => ?_) (fun hne => ?_) (fun row hrow => hes row (List.mem_of_mem_take (List.mem_of_mem_drop hrow))) (fun i j t' ht' => ?_) (fun i j t' ht' => ?_))
            · have ha0 : a = none := by
                split at hn
                · exact hn
                · cases a <;> simp_all
              have := hnil ha0
              omega
            · have hne' : rows ≠ [] := by rintro rfl; simp at hne
              have hpos : 0 < ((rows.take hh.toNat).drop l.toNat).length := List.length_pos_iff.2 hne
              obtain ⟨rfl, hG⟩ := ha hne'
              rw [if_neg (by omega)]
              refine ⟨?_, hG⟩
              have : ei.size = es := by rcases hml with h | h; exact h; exact absurd h hne'
              simp [add_none, this]
            · rw [List.getElem?_drop, List.getElem?_take] at ht'
              split at ht'
              · have := hc (l.toNat + i) j t' ht'
                rw [Nat.add_mul] at this
                rw [show oo + l.toNat * es + (i * es + j) = oo + (l.toNat * es + i * es + j) by omega]
                exact this
              · simp at ht'
            · rw [List.getElem?_drop, List.getElem?_take] at ht'
              split at ht'
              · exact hr (l.toNat + i) j t' ht'
              · simp at ht'
  · exact h.elim
theorem ev_len {c : Call} (hL : LayOk P L) (hop : o.op = .call c) (hc : c.callee = .builtin .len) (he : Eyes cx w ρ e) (hrow : ∀ id r, hp.getD id none = some r → RowRep cx w id r) (h : evC (dom P A) L o ρ hp aid k) : Does P cx w e o aid k := by
  simp only [evC, hop, hc] at h
  split at h
  case h_2 => exact h.elim
  rename_i t x ht hx'
  have e1 : c.argTypes = #[t] := by cases hh : c.argTypes; simp_all
  have e2 : c.args = #[x] := by cases hh : c.args; simp_all
  split at h
  case h_2 => exact h.elim
  rename_i lt hlt
  obtain ⟨_, d, _, _, hd, _, _, _, _, _, _, ⟨_, _, hk3, hk4, _⟩, _⟩ := hL t lt hlt
  have hx := he x
  have key : ∀ (u : Value) (n : Int), (Builtin.len_ #[t] o.type #[e x]).run P w = .ok (goInt n) w → (execOp e o).run P w = .ok (.value (.int .i64 n)) w := by
    intro u n hr
    simp only [execOp, hop, resolve, hc, Sem.run_bind, Sem.run_pure, Result.andThen_ok, invoke, builtin, e1, e2, List.map_toArray, List.map_cons, List.map_nil, hr, goInt]
  split at h
  · rename_i s hxv
    rw [hxv] at hx
    have hs := inv_flat hx
    split at h
    case isFalse => exact h.elim
    rename_i hk
    obtain rfl := hk4 hk
    exact Does.val h (key undef _ (by simp [Builtin.len_, run_underlying hd, hs, dom])) (rep_flat rfl)
  · rename_i rows hxv
    rw [hxv] at hx
    split at h
    case isFalse => exact h.elim
    rename_i hk
    obtain rfl := hk3 hk
    generalize hy : e x = y at hx
    cases hx with
    | t x v hT =>
      cases hT with
      | slc rows a b oo es cap u hcap hnil ha hes hc hr =>
        exact Does.val h (key undef _ (by simp [Builtin.len_, run_underlying hd, hy, dom])) (rep_flat rfl)
  · rename_i n m hxv
    rw [hxv] at hx
    have hs := inv_flat hx
    split at h
    case isFalse => exact h.elim
    rename_i hk
    obtain rfl := hk3 hk
    exact Does.val h (key undef _ (by simp [Builtin.len_, run_underlying hd, hs, dom])) (rep_flat rfl)
  · rename_i id hxv
    rw [hxv] at hx
    split at h
    case isFalse => exact h.elim
    rename_i hk
    obtain rfl := hk3 hk
    split at h
    case h_2 => exact h.elim
    rename_i ty es rows hr
    have hR := hrow _ _ hr
    generalize hy : e x = y at hx
    cases hx with
    | lstN id h' =>
      cases hR with
      | listN => exact Does.val h (key undef _ (by simp [Builtin.len_, run_underlying hd, hy, dom])) (rep_flat rfl)
      | list ty es rows b cap vs hat => rw [hat] at h'; cases h'
    | lst id b cap es' len h' =>
      cases hR with
      | listN ty es hat => rw [hat] at h'; cases h'
      | list ty es rows b' cap' vs hat =>
        rw [hat] at h'
        cases h'
        exact Does.val h (key undef _ (by simp [Builtin.len_, run_underlying hd, hy, dom])) (rep_flat rfl)
  · exact h.elim
end
end Ab
end Go.Proofs.Ytgcgilcalmefgaa
namespace Go.Proofs.Ytgcgilcalmefgaa
open Go Go.RowKit
set_option linter.unusedVariables false
set_option linter.unusedSimpArgs false
namespace Ab
theorem lt_size {w : World} {b : Nat} {o : Obj} (h : w.heap[b]? = some o) : b < w.heap.size := (Array.getElem?_eq_some_iff.1 h).1
theorem RowRep.mono {cx cx' : Cx} {w w' : World} {id : Nat} {r : Row} (h : RowRep cx w id r) (hb : ∀ b, b < w.heap.size → w'.heap[b]? = w.heap[b]?) (hs : Same cx.G w w') (hc : cx.le cx')
    (hG : ∀ b, cx'.G b → cx.G b ∨ w.heap.size ≤ b) : RowRep cx' w' id r := by
  cases h with
  | box ty cs b vs hat hbl hn hr =>
    refine .box ty cs b vs (hc.at_ _ _ hat) (by rw [hb _ (lt_size hbl)]; exact hbl) (fun h => ?_) (hr.mono hs hc)
    rcases hG b h with h | h
    · exact hn h
    · have := lt_size hbl; omega
  | listN ty es hat => exact .listN ty es (hc.at_ _ _ hat)
  | list ty es rows b cap vs hat hbl hn hcap hmax hsz hes hr =>
    refine .list ty es rows b cap vs (hc.at_ _ _ hat) (by rw [hb _ (lt_size hbl)]; exact hbl) (fun h => ?_) hcap hmax hsz hes (fun i j t ht => ?_)
    · rcases hG b h with h | h
      · exact hn h
      · have := lt_size hbl; omega
    · obtain ⟨u, h1, h2⟩ := hr i j t ht
      exact ⟨u, h1, h2.mono hs hc.G⟩
theorem VReps.set {cx : Cx} {w : World} {cs : List V} {vs : Array Value} (h : VReps cx w cs vs) {v : V} {u : Value} (hv : VRep cx w v u) (d : Nat) : VReps cx w (cs.set d v) (vs.setIfInBounds d u) := by
  refine ⟨by simp [h.1], fun i c x h1 h2 => ?_⟩
  by_cases e : d = i
  · subst e
    rw [List.getElem?_set] at h1
    rw [if_pos rfl] at h1
    split at h1
    · rename_i hlt
      cases h1
      rw [Array.getElem?_setIfInBounds_self_of_lt (by rw [h.1]; exact hlt)] at h2
      cases h2
      exact hv
    · cases h1
  · rw [List.getElem?_set_ne e] at h1
    rw [Array.getElem?_setIfInBounds_ne e] at h2
    exact h.2 i c x h1 h2
theorem VReps.put {cx : Cx} {w : World} {s : St} {a : Act} (h : VReps cx w s.tmps a.tmps) {v : V} {u : Value} (hv : VRep cx w v u) (d : Option Tmp) : VReps cx w (s.put d v).tmps (a.put d u).tmps := by
  cases d with
  | none => exact h
  | some d => exact h.set hv d
theorem put_heap (s : St) (d : Option Tmp) (v : V) : (s.put d v).heap = s.heap := by cases d <;> rfl
theorem put_base (s : St) (d : Option Tmp) (v : V) : (s.put d v).base = s.base := by cases d <;> rfl
theorem put_df (a : Act) (d : Option Tmp) (u : Value) : (a.put d u).defers = a.defers := by cases d <;> rfl
section
variable {P : Program} {A : Run} {L : TypeId → Option Lt}
theorem Rel.step {cx cx' : Cx} {s : St} {a : Act} {w w' : World} {aid : Nat} {row : Option Row} {v : V} {u : Value} (R : Rel A cx s a w) (X : Res cx w aid row cx' w' v u) (h0 : cx.at_ aid = none) (d : Option Tmp)
    (heap : List (Option Row)) (hh : ∀ (id : Nat) r, heap[id]? = some (some r) → (id ≠ aid ∧ s.heap[id]? = some (some r)) ∨ (id = aid ∧ row = some r))
    (hl : s.heap.length ≤ heap.length) (hl2 : row ≠ none → aid < heap.length) : Rel A cx' ⟨(s.put d v).tmps, heap, s.base⟩ (a.put d u) w' := by
  have hle : cx.le cx' := ⟨fun id B hB => by
    have : id ≠ aid := by rintro rfl; rw [h0] at hB; cases hB
    rw [X.at_ _ this]; exact hB, X.G⟩
  have hsame : Same cx.G w w' := fun b hb => X.below.block b (R.kp.G1 b hb)
  have hGn : ∀ b, cx'.G b → cx.G b ∨ w.heap.size ≤ b := fun b h => (X.G1 b h).imp id (·.1)
  have hblk : ∀ (id : Nat) r b cap es len, s.heap[id]? = some (some r) → cx.at_ id = some (.at b cap es len) → b < w.heap.size := fun id r b cap es len hr hat => by
    have := R.hp.row id r hr
    cases this with
    | box ty cs b' vs hat' hbl => rw [hat] at hat'; cases hat'; exact lt_size hbl
    | listN ty es hat' => rw [hat] at hat'; cases hat'
    | list ty es rows b' cap' vs hat' hbl => rw [hat] at hat'; cases hat'; exact lt_size hbl
  constructor
  · exact VReps.put (s := s) (R.tm.mono hsame hle) X.rep d
  · rw [put_df]; exact R.df
  · constructor
    · intro id r hr
      rcases hh id r hr with ⟨hne, hr'⟩ | ⟨rfl, hrow⟩
      · exact (R.hp.row id r hr').mono X.below.block hsame hle hGn
      · exact (X.row r hrow).1
    · intro id id' r r' b cap es len cap' es' len' h1 h2 h3 h4
      rcases hh id r h1 with ⟨hne, hr⟩ | ⟨rfl, hrow⟩ <;> rcases hh id' r' h2 with ⟨hne', hr'⟩ | ⟨rfl, hrow'⟩
      · rw [X.at_ _ hne] at h3
        rw [X.at_ _ hne'] at h4
        exact R.hp.inj _ _ _ _ _ _ _ _ _ _ _ hr hr' h3 h4
      · rw [X.at_ _ hne] at h3
        have := hblk _ _ _ _ _ _ hr h3
        have := ((X.row _ hrow').2 _ _ _ _ h4).1
        omega
      · rw [X.at_ _ hne'] at h4
        have := hblk _ _ _ _ _ _ hr' h4
        have := ((X.row _ hrow).2 _ _ _ _ h3).1
        omega
      · rfl
    · intro id hid
      by_cases e : id = aid
      · subst e
        cases row with
        | none => rw [X.aid0 rfl]; exact h0
        | some r => have := hl2 (by simp); simp only at hid; omega
      · rw [X.at_ _ e]
        exact R.hp.dom id (by simp only at hid; omega)
  · constructor
    · rw [X.below.os]; exact R.kp.os
    · rw [X.below.tape]; exact R.kp.tape
    · rw [X.below.output]; exact R.kp.output
    · exact Nat.le_trans R.kp.size X.below.size
    · intro b hb hM
      rw [X.below.block b (Nat.lt_of_lt_of_le hb R.kp.size)]
      exact R.kp.block b hb hM
    · intro id r b cap es len hr hat
      rcases hh id r hr with ⟨hne, hr'⟩ | ⟨rfl, hrow⟩
      · rw [X.at_ _ hne] at hat
        exact R.kp.live id r b cap es len hr' hat
      · exact .inr (Nat.le_trans R.kp.size ((X.row _ hrow).2 _ _ _ _ hat).1)
    · exact fun b h => X.G b (R.kp.G0 b h)
    · intro b h
      rcases X.G1 b h with h | h
      · exact Nat.lt_of_lt_of_le (R.kp.G1 b h) X.below.size
      · exact h.2
    · intro b h
      rcases X.G1 b h with h | h
      · exact R.kp.G2 b h
      · exact .inr (.inr (Nat.le_trans R.kp.size h.1))
    · intro id B hB
      obtain ⟨h1, h2⟩ := R.kp.pin id B hB
      exact ⟨hle.at_ _ _ h1, h2⟩
    · intro id ty es rows hr
      rcases hh id _ hr with ⟨hne, hr'⟩ | ⟨rfl, hrow⟩
      · exact R.kp.pinL id ty es rows hr'
      · cases hp : A.pin id with
        | none => rfl
        | some B => have := (R.kp.pin id B hp).1; rw [h0] at this; cases this
    · exact Nat.le_trans R.kp.base hl
  · exact R.bs
/-- an operation that changes no memory that there is, as a step -/
def DoesW (P : Program) (cx : Cx) (w : World) (a : Act) (o : Oper) (aid : Nat) (k : V → Option Row → Prop) : Prop :=
  ∀ next Q, (∀ v row u w' cx', k v row → Res cx w aid row cx' w' v u → next (a.put o.dst u) w') → o.wp P a w next Q
theorem Does.wp {cx : Cx} {w : World} {a : Act} {o : Oper} {aid : Nat} {k : V → Option Row → Prop} (h : Does P cx w a.eval o aid k) : DoesW P cx w a o aid k := fun next Q hn => by
  obtain ⟨v, row, u, w', cx', hk, hr, hres⟩ := h
  unfold Oper.wp
  rw [hr, Oper.upon_value]
  exact hn v row u w' cx' hk hres
theorem closed_rep {cx : Cx} {w : World} {v : V} {u : Value} (h : VRep cx w v u) : v.closedB = true → VRep (Cx.none cx.G) w v u := by
  have all : ∀ {cs : List V}, V.closedB.allC cs = true → ∀ (i : Nat) (c : V), cs[i]? = some c → c.closedB = true := by
    intro cs
    induction cs with
    | nil => intro _ i c h; simp at h
    | cons x r ih =>
      intro h i c hc
      simp only [V.closedB.allC, Bool.and_eq_true] at h
      cases i with
      | zero => simp at hc; subst hc; exact h.1
      | succ i => exact ih h.2 i c (by simpa using hc)
  induction h with
  | t x v h => intro _; exact .t x v h
  | agg cs vs hn hcb hr ih => intro hc; exact .agg cs vs hn hcb (fun i c u h1 h2 => ih i c u h1 h2 (all (by simpa [V.closedB] using hc) i c h1))
  | tup cs vs hn hr ih => intro hc; exact .tup cs vs hn (fun i c u h1 h2 => ih i c u h1 h2 (all (by simpa [V.closedB] using hc) i c h1))
  | lstN id h => intro hc; simp [V.closedB] at hc
  | lst => intro hc; simp [V.closedB] at hc
  | ptr => intro hc; simp [V.closedB] at hc
  | elt => intro hc; simp [V.closedB] at hc
  | ipt cells off b o u hG hcell hr => intro _; exact .ipt cells off b o u hG hcell hr
  | fn f cs vs hn hr ih => intro hc; exact .fn f cs vs hn (fun i c u h1 h2 => ih i c u h1 h2 (all (by simpa [V.closedB] using hc) i c h1))
  | ifc t v u h ih => intro hc; exact .ifc t v u (ih (by simpa [V.closedB] using hc))
  | junk v => intro _; exact .junk v
theorem closed_reps {cx : Cx} {w : World} {cs : List V} {vs : Array Value} (h : VReps cx w cs vs) (hc : cs.all V.closedB = true) : VReps (Cx.none cx.G) w cs vs :=
  ⟨h.1, fun i c u h1 h2 => closed_rep (h.2 i c u h1 h2) (List.all_eq_true.1 hc c (List.mem_of_getElem? h1))⟩
theorem none_le (cx : Cx) (G : Nat → Prop) (h : ∀ b, G b → cx.G b) : (Cx.none G).le cx := ⟨(fun _ _ h => by cases h), h⟩
/-- a call of closed values that computes, as a step -/
theorem fun_wp {cx : Cx} {w : World} {a : Act} {o : Oper} {aid : Nat} {k : V → Option Row → Prop} {c : Call} {f : Operand} {g : FuncId} {caps : List V} {ρ : Operand → V}
    (hop : o.op = .call c) (hc : c.callee = .value f) (he : Eyes cx w ρ a.eval) (hG : ∀ b, cx.G b → b < w.heap.size) (hf : ρ f = .fn g caps) (h : (dom P A).pcall g (c.args.toList.map ρ ++ caps) fun v => k v none) : DoesW P cx w a o aid k := fun next Q hn => by
  obtain ⟨hcl, v, ⟨hcall, hfun⟩, hk⟩ := h
  have hx := he f
  rw [hf] at hx
  generalize hy : a.eval f = y at hx
  cases hx with
  | fn f' cs vs hnn hr =>
    have hargs : VReps cx w (c.args.toList.map ρ ++ caps) (c.args.map a.eval ++ vs) := by
      refine ⟨by simp [hnn], fun i x u h1 h2 => ?_⟩
      by_cases hi : i < c.args.size
      · rw [List.getElem?_append_left (by simpa using hi)] at h1
        rw [Array.getElem?_append_left (by simpa using hi)] at h2
        rw [List.getElem?_map, Array.getElem?_toList] at h1
        rw [Array.getElem?_map] at h2
        obtain ⟨z, hz, rfl⟩ := Option.map_eq_some_iff.1 h1
        rw [hz] at h2
        cases h2
        exact he z
      · rw [List.getElem?_append_right (by simpa using Nat.le_of_not_lt hi)] at h1
        rw [Array.getElem?_append_right (by simpa using Nat.le_of_not_lt hi)] at h2
        simp only [List.length_map, Array.length_toList] at h1
        simp only [Array.size_map] at h2
        exact hr _ _ _ h1 h2
    have hrun : (execOp a.eval o).run P w = .ok (.enter g (c.args.map a.eval ++ vs)) w := by
      simp only [execOp, hop, resolve, hc, hy, Deferred.ofValue, Sem.run_bind, Sem.run_pure, Result.andThen_ok, invoke, Array.empty_append]
      exact hcall _ _
    unfold Oper.wp
    rw [hrun, Oper.upon_enter]
    refine (hfun cx.G w _ hG (closed_reps hargs hcl)).mono ?_
    rintro e w' ⟨u, rfl, hb, hrep⟩
    refine hn v none u w' ⟨cx.at_, fun b => cx.G b ∨ (w.heap.size ≤ b ∧ b < w'.heap.size)⟩ hk ⟨hb, fun _ _ => rfl, fun _ => rfl, fun b h => .inl h, fun b h => h, ?_, fun r e => by cases e⟩
    exact hrep.mono (Same.refl _ _) (none_le _ _ fun b h => h)
theorem evC_wp {cx : Cx} {w : World} {a : Act} {o : Oper} {aid : Nat} {k : V → Option Row → Prop} {ρ : Operand → V} {hp : List (Option Row)} (hL : LayOk P L) (he : Eyes cx w ρ a.eval)
    (hrow : ∀ id r, hp.getD id none = some r → RowRep cx w id r) (h0 : cx.at_ aid = none) (hG : ∀ b, cx.G b → b < w.heap.size) (h : evC (dom P A) L o ρ hp aid k) : DoesW P cx w a o aid k := by
  cases hop : o.op with
  | move x => exact (ev_move (.inl hop) he (by simpa only [evC, hop] using h)).wp
  | assign x => exact (ev_move (.inr hop) he (by simpa only [evC, hop] using h)).wp
  | pick c x y => exact (ev_pick hop he h).wp
  | makeInterface t x => exact (ev_mki hop he h).wp
  | typeAssert x t u ok => exact (ev_asrt hop he h).wp
  | alloc t => exact (ev_alloc hL h0 hG hop h).wp
  | box t x => exact (ev_box h0 hG hop he h).wp
  | build t ps => exact (ev_build hL hop he h).wp
  | buildSlice t n ps => exact (ev_buildSlice hL h0 hG hop he h).wp
  | load t x => exact (ev_load hL hop he hrow h).wp
  | nilCheck x => exact (ev_nilCheck hop he h).wp
  | binOp op t x y u => exact (ev_binOp hL hop he h).wp
  | unOp op t x => exact (ev_unOp hop he h).wp
  | convert s d x => exact (ev_convert hL hop he h).wp
  | fieldAddr t x f => exact (ev_fieldAddr hL hop he h).wp
  | field t x f => exact (ev_field hL hop he h).wp
  | indexAddr t x i => exact (ev_indexAddr hL hop he hrow h).wp
  | index t x i => exact (ev_index hL hop he h).wp
  | extract x i => exact (ev_extract hop he h).wp
  | slice t x lo hi mx => exact (ev_slice hL hop he h).wp
  | makeFunc fn first caps => exact (ev_makeFunc hop he h).wp
  | makeSlice t l c => exact (ev_makeSlice hL h0 hG hop he h).wp
  | call c =>
    cases hc : c.callee with
    | value f =>
      have h' := h
      simp only [evC, hop, hc] at h'
      split at h'
      · rename_i g caps hf
        exact fun_wp hop hc he hG hf h'
      · exact h'.elim
    | builtin b =>
      cases b with
      | len => exact (ev_len hL hop hc he hrow h).wp
      | _ => simp only [evC, hop, hc] at h
    | invoke r m => simp only [evC, hop, hc] at h
  | _ => simp only [evC, hop] at h
end
end Ab
end Go.Proofs.Ytgcgilcalmefgaa
namespace Go.Proofs.Ytgcgilcalmefgaa
open Go Go.RowKit
set_option linter.unusedVariables false
set_option linter.unusedSimpArgs false
namespace Ab
section
variable {P : Program} {A : Run} {L : TypeId → Option Lt}
/-- a world that differs in one block -/
structure But (b : Nat) (w w' : World) : Prop where
  os : w'.os = w.os
  tape : w'.tape = w.tape
  output : w'.output = w.output
  size : w'.heap.size = w.heap.size
  other : ∀ k, k ≠ b → w'.heap[k]? = w.heap[k]?
theorem RowRep.but {cx : Cx} {w w' : World} {id : Nat} {r : Row} (h : RowRep cx w id r) {b : Nat} (hb : But b w w') (hG : ¬ cx.G b) (hne : ∀ c cap es len, cx.at_ id = some (.at c cap es len) → c ≠ b) : RowRep cx w' id r := by
  have hs : Same cx.G w w' := fun c hc => hb.other c (fun e => hG (e ▸ hc))
  cases h with
  | box ty cs c vs hat hbl hn hr => exact .box ty cs c vs hat (by rw [hb.other c (hne _ _ _ _ hat)]; exact hbl) hn (hr.mono hs (Cx.le.refl _))
  | listN ty es hat => exact .listN ty es hat
  | list ty es rows c cap vs hat hbl hn hcap hmax hsz hes hr =>
    refine .list ty es rows c cap vs hat (by rw [hb.other c (hne _ _ _ _ hat)]; exact hbl) hn hcap hmax hsz hes (fun i j t ht => ?_)
    obtain ⟨u, h1, h2⟩ := hr i j t ht
    exact ⟨u, h1, h2.mono hs (fun _ h => h)⟩
theorem HRep.live_lt {cx : Cx} {heap : List (Option Row)} {w : World} (h : HRep cx heap w) {id : Nat} {r : Row} {b cap es len : Nat} (hr : heap[id]? = some (some r)) (hat : cx.at_ id = some (.at b cap es len)) : b < w.heap.size ∧ ¬ cx.G b := by
  have := h.row id r hr
  cases this with
  | box ty cs b' vs hat' hbl hn => rw [hat] at hat'; cases hat'; exact ⟨lt_size hbl, hn⟩
  | listN ty es hat' => rw [hat] at hat'; cases hat'
  | list ty es rows b' cap' vs hat' hbl hn => rw [hat] at hat'; cases hat'; exact ⟨lt_size hbl, hn⟩
def isList : Row → Bool
  | .list _ _ _ => true
  | .box _ _ => false
/-- a row changed in its place -/
theorem Rel.write {cx : Cx} {s : St} {a : Act} {w w' : World} {id b cap es len : Nat} {r r' : Row} (R : Rel A cx s a w) (hr : s.heap[id]? = some (some r)) (hat : cx.at_ id = some (.at b cap es len)) (hb : But b w w')
    (hnew : RowRep cx w' id r') (hk : isList r' = true → isList r = true) : Rel A cx (s.setRow id r') a w' := by
  obtain ⟨hlt, hnG⟩ := R.hp.live_lt hr hat
  have hs : Same cx.G w w' := fun c hc => hb.other c (fun e => hnG (e ▸ hc))
  have hid : id < s.heap.length := (List.getElem?_eq_some_iff.1 hr).1
  have hg : ∀ (i : Nat) x, (s.heap.set id (some r'))[i]? = some (some x) → (i ≠ id ∧ s.heap[i]? = some (some x)) ∨ (i = id ∧ x = r') := fun i x hx => by
    by_cases e : id = i
    · subst e
      rw [List.getElem?_set_self hid] at hx
      cases hx
      exact .inr ⟨rfl, rfl⟩
    · rw [List.getElem?_set_ne e] at hx
      exact .inl ⟨Ne.symm e, hx⟩
  have old : ∀ (i : Nat) x, (s.heap.set id (some r'))[i]? = some (some x) → ∃ y, s.heap[i]? = some (some y) := fun i x hx => by
    rcases hg i x hx with ⟨-, h⟩ | ⟨rfl, -⟩
    · exact ⟨x, h⟩
    · exact ⟨r, hr⟩
  constructor
  · exact R.tm.mono hs (Cx.le.refl _)
  · exact R.df
  · constructor
    · intro i x hx
      rcases hg i x hx with ⟨hne, h⟩ | ⟨rfl, rfl⟩
      · refine (R.hp.row i x h).but hb hnG fun c cap' es' len' hc e => ?_
        subst e
        exact hne (R.hp.inj _ _ _ _ _ _ _ _ _ _ _ h hr hc hat)
      · exact hnew
    · intro i i' x x' c cap' es' len' cap2 es2 len2 h1 h2 h3 h4
      obtain ⟨y, hy⟩ := old i x h1
      obtain ⟨y', hy'⟩ := old i' x' h2
      exact R.hp.inj _ _ _ _ _ _ _ _ _ _ _ hy hy' h3 h4
    · intro i hi
      exact R.hp.dom i (by simpa [St.setRow] using hi)
  · constructor
    · rw [hb.os]; exact R.kp.os
    · rw [hb.tape]; exact R.kp.tape
    · rw [hb.output]; exact R.kp.output
    · rw [hb.size]; exact R.kp.size
    · intro c hc hM
      rw [hb.other c (fun e => ?_)]
      · exact R.kp.block c hc hM
      · subst e
        rcases R.kp.live _ _ _ _ _ _ hr hat with h | h
        · exact hM h
        · omega
    · intro i x c cap' es' len' hx hc
      obtain ⟨y, hy⟩ := old i x hx
      exact R.kp.live _ _ _ _ _ _ hy hc
    · exact R.kp.G0
    · rw [hb.size]; exact R.kp.G1
    · exact R.kp.G2
    · exact R.kp.pin
    · intro i ty es' rows hx
      rcases hg i _ hx with ⟨hne, h⟩ | ⟨rfl, e⟩
      · exact R.kp.pinL i ty es' rows h
      · have := hk (by rw [← e]; rfl)
        cases r with
        | box => cases this
        | list ty' es'' rows' => exact R.kp.pinL i _ _ _ hr
    · have := R.kp.base
      simpa [St.setRow] using this
  · exact R.bs
theorem Stored.but {w w' : World} {b o : Nat} {us : List Value} {arr : Array Value} {ty : TypeId} (h : Stored w w' b o us arr ty) : But b w w' := ⟨h.os, h.tape, h.output, h.size, h.other⟩
theorem run_storeVar {t : TypeId} {b o : Nat} {v : Value} {ty : TypeId} {arr : Array Value} {info : TypeInfo} {w : World} (hi : P.info? t = some info) (hsz : v.cells.size = info.size) (hb : w.heap[b]? = some (.cells arr ty (0, 0)))
    (hle : o + v.cells.size ≤ arr.size) (ho : ∀ u ∈ v.cells, oneV u = true) : ∃ w', (storeVar t ⟨b, o, none⟩ v).run P w = .ok () w' ∧ Stored w w' b o v.cells.toList arr ty := by
  obtain ⟨w', h1, h2⟩ := run_storeCells (P := P) (b := b) (o := o) v.cells.toList 0 w arr hb (by rw [Array.length_toList]; omega) (fun u hu => ho u (Array.mem_toList_iff.1 hu))
  refine ⟨w', ?_, h2⟩
  simp only [storeVar, Sem.run_bind, run_sizeOf hi, Result.andThen_ok]
  rw [if_neg (by simp [hsz])]
  exact h1
/-- a store, as a step -/
theorem store_wp {cx : Cx} {s : St} {a : Act} {w : World} {o : Oper} {t : TypeId} {x y : Operand} {K : St → Prop} (hL : LayOk P L) (hop : o.op = .store t x y) (R : Rel A cx s a w) (h : pop (dom P A) L o s K) :
    ∀ next Q, (∀ s' w', K s' → Rel A cx s' a w' → next a w') → o.wp P a w next Q := fun next Q hn => by
  have he := eyes_of R.tm
  simp only [pop, hop] at h
  split at h
  · rename_i id off hd hxv
    have hx := he x
    rw [hxv] at hx
    split at h
    case h_2 => exact h.elim
    rename_i ty cs hrow
    split at h
    case isFalse => exact h.elim
    rename_i hle
    split at h
    case isFalse => exact h.elim
    rename_i hall
    split at h
    case h_2 => exact h.elim
    rename_i lt hlt
    split at h
    case isFalse => exact h.elim
    rename_i hsz
    obtain ⟨info, _, _, hi, _, hisz, _⟩ := hL t lt hlt
    obtain ⟨hv, hone⟩ := (he y).cells hall
    have hrow' : s.heap[id]? = some (some (.box ty cs)) := by
      rw [List.getD_eq_getElem?_getD] at hrow
      cases hg : s.heap[id]? with
      | none => rw [hg] at hrow; cases hrow
      | some z => rw [hg] at hrow; simp at hrow; rw [hrow]
    have hR := R.hp.row id _ hrow'
    generalize hy : a.eval x = z at hx
    cases hR with
    | box ty cs b vs hat hbl hnG hr =>
      cases hx with
      | ptr id off b' cap es len h' =>
        rw [hat] at h'
        cases h'
        obtain ⟨w', h1, h2⟩ := run_storeVar (P := P) (o := off) hi (by rw [hv.1, hsz, hisz]) hbl (by rw [hv.1, hr.1]; exact hle) hone
        have hdst : a.put o.dst undef = a := by rw [hd]; rfl
        unfold Oper.wp
        have hrun : (execOp a.eval o).run P w = .ok .skip w' := by
          simp only [execOp, hop, Instr.storeAt, hy, Instr.sureAddr, Sem.run_bind, Sem.run_pure, Result.andThen_ok, h1]
        rw [hrun, Oper.upon_skip, hdst]
        refine hn _ _ h (R.write hrow' hat h2.but ?_ (fun e => by cases e))
        obtain ⟨arr', g1, g2, g3⟩ := h2.here
        have hs : Same cx.G w w' := fun c hc => h2.other c (fun e => hnG (e ▸ hc))
        have hpl : (patch cs off (s.ev y).cells).length = cs.length := patch_len hle
        refine .box ty _ b arr' (by rw [hpl]; exact hat) g1 hnG ?_
        exact VReps.patch (hr.mono hs (Cx.le.refl _)) (hv.mono hs (Cx.le.refl _)) hle g2 (fun j => by rw [g3 j, Array.length_toList, Array.getElem?_toList])
  · rename_i id r off hd hxv
    have hx := he x
    rw [hxv] at hx
    split at h
    case h_2 => exact h.elim
    rename_i ty es rows hrow
    obtain ⟨cs, h0, hcs', h⟩ := h
    split at h
    case h_2 => exact h.elim
    rename_i ts hts
    split at h
    case isFalse => exact h.elim
    rename_i hle
    split at h
    case h_2 => exact h.elim
    rename_i lt hlt
    split at h
    case isFalse => exact h.elim
    rename_i hsz
    obtain ⟨info, _, _, hi, _, hisz, _⟩ := hL t lt hlt
    have hcells := toTs_eq hts
    have hall : (s.ev y).cells.all V.cellB = true := by
      rw [hcells, List.all_eq_true]
      intro c hc
      obtain ⟨t, -, rfl⟩ := List.mem_map.1 hc
      rfl
    obtain ⟨hv, hone⟩ := (he y).cells hall
    have hvl : (a.eval y).cells.size = ts.length := by rw [hv.1, hcells, List.length_map]
    have hrow' : s.heap[id]? = some (some (.list ty es rows)) := by
      rw [List.getD_eq_getElem?_getD] at hrow
      cases hg : s.heap[id]? with
      | none => rw [hg] at hrow; cases hrow
      | some z => rw [hg] at hrow; simp at hrow; rw [hrow]
    have hR := R.hp.row id _ hrow'
    generalize hy : a.eval x = z at hx
    cases hR with
    | listN => simp at hcs'
    | list ty es rows b cap vs hat hbl hnG hcap hmax hvsz hes hr =>
      cases hx with
      | elt id row off b' cap' es' len h' =>
        rw [hat] at h'
        cases h'
        have hi1 : r.toNat < rows.length := (List.getElem?_eq_some_iff.1 hcs').1
        have hcl : cs.length = es := hes cs (List.mem_of_getElem? hcs')
        have hbound : r.toNat * es + es ≤ vs.size := by
          have : (r.toNat + 1) * es ≤ cap * es := Nat.mul_le_mul_right _ (by omega)
          rw [Nat.succ_mul] at this
          omega
        obtain ⟨w', h1, h2⟩ := run_storeVar (P := P) (o := r.toNat * es + off) hi (by rw [hvl, hsz, hisz]) hbl (by omega) hone
        have hdst : a.put o.dst undef = a := by rw [hd]; rfl
        unfold Oper.wp
        have hrun : (execOp a.eval o).run P w = .ok .skip w' := by
          simp only [execOp, hop, Instr.storeAt, hy, Instr.sureAddr, Sem.run_bind, Sem.run_pure, Result.andThen_ok, h1]
        rw [hrun, Oper.upon_skip, hdst]
        refine hn _ _ h (R.write hrow' hat h2.but ?_ (fun e => rfl))
        obtain ⟨arr', g1, g2, g3⟩ := h2.here
        have hs : Same cx.G w w' := fun c hc => h2.other c (fun e => hnG (e ▸ hc))
        have hpl : (patchT cs off ts).length = cs.length := patch_len hle
        have hll : ((dom P A).lset rows r (patchT cs off ts)).length = rows.length := by simp [dom]
        refine .list ty es _ b cap arr' (by rw [hll]; exact hat) g1 hnG (by rw [hll]; exact hcap) hmax (by rw [g2]; exact hvsz) (fun row hrow => ?_) (fun i j t' ht' => ?_)
        · rcases List.mem_or_eq_of_mem_set hrow with h | h
          · exact hes row h
          · rw [h, hpl, hcl]
        · rw [g3, Array.length_toList, hvl]
          by_cases e : i = r.toNat
          · subst e
            have : ((dom P A).lset rows r (patchT cs off ts))[r.toNat]? = some (patchT cs off ts) := by
              show (rows.set r.toNat _)[r.toNat]? = _
              rw [List.getElem?_set_self hi1]
            rw [this, Option.bind_some, patchT, patch_get hle] at ht'
            have hjl : j < es := by
              split at ht'
              · omega
              · have := (List.getElem?_eq_some_iff.1 ht').1; omega
            split at ht'
            · rename_i hc
              rw [if_pos (by omega)]
              rw [show r.toNat * es + j - (r.toNat * es + off) = j - off by omega, Array.getElem?_toList]
              have hlt : j - off < (a.eval y).cells.size := by omega
              refine ⟨_, Array.getElem?_eq_getElem hlt, ?_⟩
              have := hv.2 (j - off) (.t t') _ (by rw [hcells, List.getElem?_map, ht']; rfl) (Array.getElem?_eq_getElem hlt)
              cases this with | t x v h => exact h.mono hs (fun _ h => h)
            · rename_i hc
              rw [if_neg (by omega)]
              obtain ⟨u, e1, e2⟩ := hr r.toNat j t' (by rw [hcs', Option.bind_some]; exact ht')
              exact ⟨u, e1, e2.mono hs (fun _ h => h)⟩
          · have : ((dom P A).lset rows r (patchT cs off ts))[i]? = rows[i]? := by
              show (rows.set r.toNat _)[i]? = _
              rw [List.getElem?_set_ne (Ne.symm e)]
            rw [this] at ht'
            obtain ⟨u, e1, e2⟩ := hr i j t' ht'
            refine ⟨u, ?_, e2.mono hs (fun _ h => h)⟩
            have hj : j < es := by
              cases hri : rows[i]? with
              | none => rw [hri] at ht'; cases ht'
              | some row =>
                rw [hri, Option.bind_some] at ht'
                have h1 := (List.getElem?_eq_some_iff.1 ht').1
                rw [hes row (List.mem_of_getElem? hri)] at h1
                exact h1
            rw [if_neg ?_]
            · exact e1
            · intro hc
              rcases Nat.lt_or_gt_of_ne e with hlt | hlt
              · have : (i + 1) * es ≤ r.toNat * es := Nat.mul_le_mul_right _ hlt
                rw [Nat.succ_mul] at this
                omega
              · have : (r.toNat + 1) * es ≤ i * es := Nat.mul_le_mul_right _ hlt
                rw [Nat.succ_mul] at this
                omega
  · exact h.elim
end
end Ab
end Go.Proofs.Ytgcgilcalmefgaa
namespace Go.Proofs.Ytgcgilcalmefgaa
open Go Go.RowKit
set_option linter.unusedVariables false
set_option linter.unusedSimpArgs false
namespace Ab
section
variable {P : Program} {A : Run} {L : TypeId → Option Lt}
theorem killL_map (id : Nat) : ∀ l : List V, killL id l = l.map (V.kill id)
  | [] => rfl
  | v :: r => by rw [killL, killL_map id r]; rfl
theorem killAny_no {id : Nat} : ∀ {l : List V}, killAny id l = false → ∀ (i : Nat) (c : V), l[i]? = some c → c.names id = false
  | [], _, i, c, h => by simp at h
  | v :: r, hn, i, c, h => by
    simp only [killAny, Bool.or_eq_false_iff] at hn
    cases i with
    | zero => simp at h; subst h; exact hn.1
    | succ i => exact killAny_no hn.2 i c (by simpa using h)
theorem VRep.kill2 {cx cx' : Cx} {w w' : World} {v : V} {u : Value} {id : Nat} (h : VRep cx w v u) (hs : Same cx.G w w') (hat : ∀ i B, i ≠ id → cx.at_ i = some B → cx'.at_ i = some B) (hG : ∀ b, cx.G b → cx'.G b) :
    (v.names id = false → VRep cx' w' v u) ∧ VRep cx' w' (v.kill id) u := by
  induction h with
  | t x v h => exact ⟨fun _ => .t x v (h.mono hs hG), .t x v (h.mono hs hG)⟩
  | agg cs vs hn hcb hr ih =>
    have key : killAny id cs = false → VRep cx' w' (.agg cs) (.agg vs) := fun hno => .agg cs vs hn hcb fun i c u h1 h2 => (ih i c u h1 h2).1 (killAny_no hno i c h1)
    refine ⟨fun hno => key hno, ?_⟩
    rw [V.kill]
    cases hk : killAny id cs with
    | true => rw [if_pos rfl]; exact .junk _
    | false => rw [if_neg (by simp)]; exact key hk
  | tup cs vs hn hr ih =>
    refine ⟨fun hno => .tup cs vs hn fun i c u h1 h2 => (ih i c u h1 h2).1 (killAny_no hno i c h1), ?_⟩
    rw [V.kill, killL_map]
    refine .tup _ vs (by simpa using hn) fun i c u h1 h2 => ?_
    rw [List.getElem?_map] at h1
    obtain ⟨c', hc', rfl⟩ := Option.map_eq_some_iff.1 h1
    exact (ih i c' u hc' h2).2
  | lstN i h =>
    have key : i ≠ id → VRep cx' w' (.lst i) (.slice none 0 0) := fun hne => .lstN i (hat _ _ hne h)
    refine ⟨fun hno => key (by simpa [V.names] using hno), ?_⟩
    rw [V.kill]
    split
    · exact .junk _
    · rename_i hne; exact key hne
  | lst i b cap es len h =>
    have key : i ≠ id → VRep cx' w' (.lst i) (.slice (some ⟨b, 0, none⟩) len cap) := fun hne => .lst i b cap es len (hat _ _ hne h)
    refine ⟨fun hno => key (by simpa [V.names] using hno), ?_⟩
    rw [V.kill]
    split
    · exact .junk _
    · rename_i hne; exact key hne
  | ptr i off b cap es len h =>
    have key : i ≠ id → VRep cx' w' (.ptr i off) (.pointer (some ⟨b, off, none⟩)) := fun hne => .ptr i off b cap es len (hat _ _ hne h)
    refine ⟨fun hno => key (by simpa [V.names] using hno), ?_⟩
    rw [V.kill]
    split
    · exact .junk _
    · rename_i hne; exact key hne
  | elt i row off b cap es len h =>
    have key : i ≠ id → VRep cx' w' (.elt i row off) (.pointer (some ⟨b, row.toNat * es + off, none⟩)) := fun hne => .elt i row off b cap es len (hat _ _ hne h)
    refine ⟨fun hno => key (by simpa [V.names] using hno), ?_⟩
    rw [V.kill]
    split
    · exact .junk _
    · rename_i hne; exact key hne
  | ipt cells off b o u hb hc hr =>
    have key : VRep cx' w' (.ipt cells off) (.pointer (some ⟨b, o + off, none⟩)) := .ipt cells off b o u (hG _ hb) (fun j t h => by rw [hs.cell hb]; exact hc j t h) (fun j t h => (hr j t h).mono hs hG)
    exact ⟨fun _ => key, key⟩
  | fn f cs vs hn hr ih =>
    refine ⟨fun hno => .fn f cs vs hn fun i c u h1 h2 => (ih i c u h1 h2).1 (killAny_no hno i c h1), ?_⟩
    rw [V.kill, killL_map]
    refine .fn f _ vs (by simpa using hn) fun i c u h1 h2 => ?_
    rw [List.getElem?_map] at h1
    obtain ⟨c', hc', rfl⟩ := Option.map_eq_some_iff.1 h1
    exact (ih i c' u hc' h2).2
  | ifc t v u h ih => exact ⟨fun hno => .ifc t v u (ih.1 (by simpa [V.names] using hno)), .ifc t _ u ih.2⟩
  | junk v => exact ⟨fun _ => .junk v, .junk v⟩
theorem VReps.killL {cx cx' : Cx} {w w' : World} {cs : List V} {vs : Array Value} {id : Nat} (h : VReps cx w cs vs) (hs : Same cx.G w w') (hat : ∀ i B, i ≠ id → cx.at_ i = some B → cx'.at_ i = some B) (hG : ∀ b, cx.G b → cx'.G b) :
    VReps cx' w' (Ab.killL id cs) vs := by
  rw [killL_map]
  refine ⟨by simpa using h.1, fun i c u h1 h2 => ?_⟩
  rw [List.getElem?_map] at h1
  obtain ⟨c', hc', rfl⟩ := Option.map_eq_some_iff.1 h1
  exact ((h.2 i c' u hc' h2).kill2 hs hat hG).2
/-- cells one behind the other, as an append wants them -/
theorem news_of {n es : Nat} {f : Nat → Nat → Value} (he : 0 < es) : ((List.range (n * es)).map fun k => f (k / es) (k % es)).length = n * es ∧
    ∀ i j, i < n → j < es → ((List.range (n * es)).map fun k => f (k / es) (k % es))[i * es + j]? = some (f i j) := by
  refine ⟨by simp, fun i j hi hj => ?_⟩
  have h1 : i * es + j < n * es := mul_lt hi hj
  have h2 : (i * es + j) / es = i := by rw [Nat.mul_comm, Nat.mul_add_div he, Nat.div_eq_of_lt hj, Nat.add_zero]
  have h3 : (i * es + j) % es = j := by rw [Nat.mul_comm, Nat.mul_add_mod]; exact Nat.mod_eq_of_lt hj
  rw [List.getElem?_map, List.getElem?_range h1]
  simp [h2, h3]
/-- what stands behind a slice that is appended -/
theorem rows_news {cx : Cx} {s : St} {a : Act} {w : World} (R : Rel A cx s a w) {y : V} {yv : Value} (hy : VRep cx w y yv) {new : Rows} (h : rowsAt s.heap y = some new) {es : Nat} (he : 0 < es) (hfit : ∀ row ∈ new, row.length = es) :
    (new = [] ∧ yv = .slice none 0 0) ∨ ∃ (ad : Addr) (c : Nat) (news : List Value), yv = .slice (some ad) new.length c ∧ news.length = new.length * es ∧ (∀ (j : Nat) (u : Value), news[j]? = some u → w.cell? (ad.add j) = some u) ∧ (∀ u ∈ news, oneV u = true) ∧
      ∀ (i j : Nat) (t : T), (new[i]?).bind (fun r => r[j]?) = some t → ∃ u, news[i * es + j]? = some u ∧ TRep cx.G w t u := by
  have ones : ∀ {t : T} {u : Value}, TRep cx.G w t u → oneV u = true := fun h => by cases h with | flat v h => exact h | slc => rfl
  have cell_in : ∀ {i j : Nat} {t : T}, (new[i]?).bind (fun r => r[j]?) = some t → i < new.length ∧ j < es := fun {i j t} ht => by
    cases hri : new[i]? with
    | none => rw [hri] at ht; cases ht
    | some row =>
      rw [hri, Option.bind_some] at ht
      have h1 := (List.getElem?_eq_some_iff.1 ht).1
      rw [hfit row (List.mem_of_getElem? hri)] at h1
      exact ⟨(List.getElem?_eq_some_iff.1 hri).1, h1⟩
  have there : ∀ {k : Nat}, k < new.length * es → ∃ t, (new[k / es]?).bind (fun r => r[k % es]?) = some t := fun {k} hk => by
    have h1 : k / es < new.length := Nat.div_lt_of_lt_mul (by rw [Nat.mul_comm]; exact hk)
    have h2 : k % es < es := Nat.mod_lt _ he
    have h3 := hfit _ (List.getElem_mem h1)
    exact ⟨(new[k / es])[k % es]'(by rw [h3]; exact h2), by rw [List.getElem?_eq_getElem h1, Option.bind_some, List.getElem?_eq_getElem]⟩
  unfold rowsAt at h
  split at h
  · cases h
    cases hy with
    | t x v hT =>
      cases hT with
      | slc rows a b oo es' cap u hcap hnil ha hes hc hr =>
        by_cases hne : new = []
        · subst hne
          cases a with
          | none =>
            cases cap with
            | zero => exact .inl ⟨rfl, rfl⟩
            | succ cap => exact absurd (hnil rfl) (by omega)
          | some ad => exact .inr ⟨ad, cap, [], rfl, by simp, fun j u h => by simp at h, fun u h => by simp at h, fun i j t h => by simp at h⟩
        · obtain ⟨rfl, hG⟩ := ha hne
          have hee : es' = es := by
            obtain ⟨row, hrow⟩ := List.exists_mem_of_ne_nil _ hne
            rw [← hes row hrow, hfit row hrow]
          subst hee
          obtain ⟨n1, n2⟩ := news_of (n := new.length) (f := u) he
          refine .inr ⟨⟨b, oo, none⟩, cap, _, rfl, n1, fun j v hj => ?_, fun v hv => ?_, fun i j t ht => ?_⟩
          · rw [List.getElem?_map] at hj
            obtain ⟨k, hk, rfl⟩ := Option.map_eq_some_iff.1 hj
            have hlt : j < new.length * es' := by have := (List.getElem?_eq_some_iff.1 hk).1; simpa using this
            rw [List.getElem?_range hlt] at hk
            cases hk
            obtain ⟨t, ht⟩ := there hlt
            have := hc _ _ t ht
            rw [add_none]
            rw [show j / es' * es' + j % es' = j by rw [Nat.mul_comm]; exact Nat.div_add_mod j es'] at this
            exact this
          · obtain ⟨k, hk, rfl⟩ := List.mem_map.1 hv
            obtain ⟨t, ht⟩ := there (List.mem_range.1 hk)
            exact ones (hr _ _ t ht)
          · obtain ⟨c1, c2⟩ := cell_in ht
            exact ⟨_, n2 i j c1 c2, hr i j t ht⟩
  · cases h
    cases hy with
    | t x v hT => cases hT; exact .inl ⟨rfl, rfl⟩
  · rename_i id
    split at h
    · rename_i ty es' rows hrow
      cases h
      have hrow' : s.heap[id]? = some (some (.list ty es' new)) := by
        rw [List.getD_eq_getElem?_getD] at hrow
        cases hg : s.heap[id]? with
        | none => rw [hg] at hrow; cases hrow
        | some z => rw [hg] at hrow; simp at hrow; rw [hrow]
      have hR := R.hp.row id _ hrow'
      cases hR with
      | listN ty es hat =>
        cases hy with
        | lstN i h' => exact .inl ⟨rfl, rfl⟩
        | lst i b cap es len h' => rw [hat] at h'; cases h'
      | list ty es rows b cap vs hat hbl hnG hcap hmax hsz hes hr =>
        cases hy with
        | lstN i h' => rw [hat] at h'; cases h'
        | lst i b' cap' es'' len h' =>
          rw [hat] at h'
          cases h'
          by_cases hne : new = []
          · subst hne
            exact .inr ⟨_, _, [], rfl, by simp, fun j u h => by simp at h, fun u h => by simp at h, fun i j t h => by simp at h⟩
          · have hee : es' = es := by
              obtain ⟨row, hrow⟩ := List.exists_mem_of_ne_nil _ hne
              rw [← hes row hrow, hfit row hrow]
            subst hee
            have hle : new.length * es' ≤ vs.size := by rw [hsz]; exact Nat.mul_le_mul_right _ hcap
            have hvl : vs.toList.length = vs.size := by simp
            refine .inr ⟨_, _, vs.toList.take (new.length * es'), rfl, by rw [List.length_take, hvl]; omega, fun j v hj => ?_, fun v hv => ?_, fun i j t ht => ?_⟩
            · rw [List.getElem?_take] at hj
              split at hj
              · rw [Array.getElem?_toList] at hj
                rw [add_none, cell_of_block hbl, Nat.zero_add]
                exact hj
              · cases hj
            · obtain ⟨k, hk, rfl⟩ := List.mem_iff_getElem.1 hv
              have hk' : k < new.length * es' := by rw [List.length_take, hvl] at hk; omega
              obtain ⟨t, ht⟩ := there hk'
              obtain ⟨u, h1, h2⟩ := hr _ _ t ht
              rw [show k / es' * es' + k % es' = k by rw [Nat.mul_comm]; exact Nat.div_add_mod k es'] at h1
              have : (vs.toList.take (new.length * es'))[k] = u := by
                rw [List.getElem_take]
                have := (Array.getElem?_eq_some_iff.1 h1).2
                simpa using this
              rw [this]
              exact ones h2
            · obtain ⟨c1, c2⟩ := cell_in ht
              obtain ⟨u, h1, h2⟩ := hr i j t ht
              refine ⟨u, ?_, h2⟩
              rw [List.getElem?_take, if_pos (mul_lt c1 c2), Array.getElem?_toList]
              exact h1
    · cases h
  · cases h
theorem one_cell' {u : Value} (h : oneV u = true) : u.oneCell' = true := by cases u <;> first | rfl | (simp [oneV] at h)
theorem own_form {w : World} {e size : Nat} {v : Value} {n : Nat} {xs : List Value} (h : w.ownsRow 0 e size v n xs) : (v = .slice none 0 0 ∧ n = 0) ∨
    ∃ g cap cur, v = .slice (some ⟨g, 0, none⟩) n cap ∧ w.heap[g]? = some (.cells cur e (0, 0)) ∧ n ≤ cap ∧ cap ≤ maxLen ∧ cur.size = cap * size ∧ cur.toList.take (n * size) = xs := by
  rcases h.2 with h | ⟨g, cap, cur, h1, -, h2⟩
  · exact .inl h
  · exact .inr ⟨g, cap, cur, h1, h2⟩
theorem rows_news' {cx : Cx} {s : St} {a : Act} {w : World} (R : Rel A cx s a w) {y : V} {yv : Value} (hy : VRep cx w y yv) {new : Rows} (h : rowsAt s.heap y = some new) {es : Nat} (he : 0 < es) (hfit : ∀ row ∈ new, row.length = es) :
    ∃ news : List Value, news.length = new.length * es ∧ (∀ u ∈ news, oneV u = true) ∧
      ((new.length = 0 ∧ yv = .slice none 0 0) ∨ ∃ (ad : Addr) (c : Nat), yv = .slice (some ad) new.length c ∧ ∀ (j : Nat) (u : Value), news[j]? = some u → w.cell? (ad.add j) = some u) ∧
      ∀ (i j : Nat) (t : T), (new[i]?).bind (fun r => r[j]?) = some t → ∃ u, news[i * es + j]? = some u ∧ TRep cx.G w t u := by
  rcases rows_news R hy h he hfit with ⟨rfl, rfl⟩ | ⟨ad, c, news, h1, h2, h3, h4, h5⟩
  · exact ⟨[], by simp, fun u h => by simp at h, .inl ⟨rfl, rfl⟩, fun i j t h => by simp at h⟩
  · exact ⟨news, h2, h4, .inr ⟨ad, c, h1, h3⟩, h5⟩
/-- what the built-in append does, of a row and of what stands behind a slice -/
theorem append_run {w : World} {t e ty size bytes n m : Nat} {i : TypeInfo} {z : Value} (ht : P.underlying t = some (.slice e)) (hi : P.info? e = some i) (hz : i.zero = some z) (hsize : i.size = size) (hby : i.bytes = bytes)
    (hzs : z.cells.size = size) (hsz : 0 < size) {v yv : Value} {xs news : List Value} (hown : w.ownsRow 0 e size v n xs) (hl : news.length = m * size) (ho : ∀ u ∈ news, oneV u = true)
    (hy : (m = 0 ∧ yv = .slice none 0 0) ∨ ∃ (ad : Addr) (c : Nat), yv = .slice (some ad) m c ∧ ∀ (j : Nat) (u : Value), news[j]? = some u → w.cell? (ad.add j) = some u)
    (h63 : n + m ≤ maxLen) (hbytes : (n + m) * bytes ≤ 2 ^ 47) :
    ∃ v' w', (Builtin.append_ #[t, t] ty #[v, yv]).run P w = .ok v' w' ∧ w'.ownsRow 0 e size v' (n + m) (xs ++ news) ∧ w.grownBy w' v.ownBlock ∧ (v'.ownBlock = v.ownBlock ∨ v'.ownBlock = some w.heap.size) := by
  rcases hy with ⟨rfl, rfl⟩ | ⟨ad, c, rfl, hc⟩
  · have : news = [] := by simpa using hl
    subst this
    exact ⟨v, w, run_append_owned_none w 0 t ty e i size ht hi v n xs hown, by simpa using hown, ⟨rfl, rfl, rfl, Nat.le_refl _, fun _ _ _ => rfl⟩, .inl rfl⟩
  · obtain ⟨v', w', h1, h2, h3, -, h5⟩ := run_append_own_at (P := P) w 0 t ty e i z size bytes ht hi hz hsize hby hzs hsz v n xs hown ad m c news hl hc (fun u hu => one_cell' (ho u hu)) h63 (by omega) (Nat.zero_le _)
    exact ⟨v', w', h1, h2, h3, h5⟩
end
end Ab
end Go.Proofs.Ytgcgilcalmefgaa
namespace Go.Proofs.Ytgcgilcalmefgaa
open Go Go.RowKit
set_option linter.unusedVariables false
set_option linter.unusedSimpArgs false
namespace Ab
section
variable {P : Program} {A : Run} {L : TypeId → Option Lt}
/-- a row that may have moved -/
theorem Rel.grow {cx : Cx} {s : St} {a : Act} {w w' : World} {id ty es : Nat} {rows rows' : Rows} {B : Blk} {row : Option Nat} (R : Rel A cx s a w) (hr : s.heap[id]? = some (some (.list ty es rows)))
    (hg : w.grownBy w' row) (hrow : ∀ k, row = some k → ∃ cap len es', cx.at_ id = some (.at k cap es' len))
    (hB : ∀ b cap es' len, B = .at b cap es' len → (some b = row ∨ w.heap.size ≤ b) ∧ b < w'.heap.size)
    (hnew : RowRep ⟨fun i => if i = id then some B else cx.at_ i, cx.G⟩ w' id (.list ty es rows')) :
    Rel A ⟨fun i => if i = id then some B else cx.at_ i, cx.G⟩ ((s.kill id).setRow id (.list ty es rows')) a w' := by
  have hid : id < s.heap.length := (List.getElem?_eq_some_iff.1 hr).1
  have rowG : ∀ k, row = some k → ¬ cx.G k := fun k hk => by
    obtain ⟨cap, len, es', hat⟩ := hrow k hk
    exact (R.hp.live_lt hr hat).2
  have hs : Same cx.G w w' := fun c hc => hg.block c (R.kp.G1 c hc) (fun e => rowG c e.symm hc)
  have hat' : ∀ i B', i ≠ id → cx.at_ i = some B' → (if i = id then some B else cx.at_ i) = some B' := fun i B' hne h => by rw [if_neg hne]; exact h
  have hh : ∀ (i : Nat) x, ((s.kill id).setRow id (.list ty es rows')).heap[i]? = some (some x) → (i ≠ id ∧ ∃ y, s.heap[i]? = some (some y) ∧ killRow id (some y) = some x) ∨ (i = id ∧ x = .list ty es rows') := fun i x hx => by
    simp only [St.setRow, St.kill] at hx
    by_cases e : id = i
    · subst e
      rw [List.getElem?_set_self (by simpa using hid)] at hx
      cases hx
      exact .inr ⟨rfl, rfl⟩
    · rw [List.getElem?_set_ne e, List.getElem?_map] at hx
      obtain ⟨y, hy, hk⟩ := Option.map_eq_some_iff.1 hx
      cases y with
      | none => cases hk
      | some y => exact .inl ⟨Ne.symm e, y, hy, hk⟩
  have atne : ∀ {i : Nat}, i ≠ id → (if i = id then some B else cx.at_ i) = cx.at_ i := fun h => if_neg h
  have ateq : (if id = id then some B else cx.at_ id) = some B := if_pos rfl
  -- the block of another row is not the one that may have been written
  have apart : ∀ (i : Nat) y b cap es' len, i ≠ id → s.heap[i]? = some (some y) → cx.at_ i = some (.at b cap es' len) → b < w.heap.size ∧ some b ≠ row := fun i y b cap es' len hne hy hb => by
    refine ⟨(R.hp.live_lt hy hb).1, fun e => ?_⟩
    obtain ⟨cap2, len2, es2, h2⟩ := hrow b e.symm
    exact hne (R.hp.inj _ _ _ _ _ _ _ _ _ _ _ hy hr hb h2)
  constructor
  · exact R.tm.killL hs hat' (fun _ h => h)
  · exact R.df
  · constructor
    · intro i x hx
      rcases hh i x hx with ⟨hne, y, hy, hk⟩ | ⟨rfl, rfl⟩
      · have hR := R.hp.row i y hy
        cases hR with
        | box ty' cs b vs hat hbl hn hrr =>
          simp only [killRow, Option.some.injEq] at hk
          subst hk
          obtain ⟨a1, a2⟩ := apart i _ b _ _ _ hne hy hat
          refine .box ty' _ b vs ?_ (by rw [hg.block b a1 a2]; exact hbl) hn (hrr.killL hs hat' (fun _ h => h))
          show (if i = id then some B else cx.at_ i) = _
          rw [atne hne, hat, killL_map, List.length_map]
        | listN ty' es' hat =>
          simp only [killRow, Option.some.injEq] at hk
          subst hk
          exact .listN _ _ (by show (if i = id then some B else cx.at_ i) = _; rw [atne hne]; exact hat)
        | list ty' es' rows2 b cap vs hat hbl hn hcap hmax hsz hes hrr =>
          simp only [killRow, Option.some.injEq] at hk
          subst hk
          obtain ⟨a1, a2⟩ := apart i _ b _ _ _ hne hy hat
          refine .list ty' es' rows2 b cap vs (by show (if i = id then some B else cx.at_ i) = _; rw [atne hne]; exact hat) (by rw [hg.block b a1 a2]; exact hbl) hn hcap hmax hsz hes (fun k j t ht => ?_)
          obtain ⟨u, h1, h2⟩ := hrr k j t ht
          exact ⟨u, h1, h2.mono hs (fun _ h => h)⟩
      · exact hnew
    · intro i i' x x' b cap es1 len cap' es2 len' h1 h2 h3 h4
      have h3' : (if i = id then some B else cx.at_ i) = some (.at b cap es1 len) := h3
      have h4' : (if i' = id then some B else cx.at_ i') = some (.at b cap' es2 len') := h4
      rcases hh i x h1 with ⟨hne, y, hy, -⟩ | ⟨rfl, rfl⟩ <;> rcases hh i' x' h2 with ⟨hne', y', hy', -⟩ | ⟨rfl, rfl⟩
      · rw [atne hne] at h3'
        rw [atne hne'] at h4'
        exact R.hp.inj _ _ _ _ _ _ _ _ _ _ _ hy hy' h3' h4'
      · rw [atne hne] at h3'
        rw [ateq] at h4'
        cases h4'
        obtain ⟨a1, a2⟩ := apart i _ b _ _ _ hne hy h3'
        rcases (hB _ _ _ _ rfl).1 with h | h
        · exact absurd h a2
        · omega
      · rw [atne hne'] at h4'
        rw [ateq] at h3'
        cases h3'
        obtain ⟨a1, a2⟩ := apart i' _ b _ _ _ hne' hy' h4'
        rcases (hB _ _ _ _ rfl).1 with h | h
        · exact absurd h a2
        · omega
      · rfl
    · intro i hi
      simp only [St.setRow, St.kill, List.length_set, List.length_map] at hi
      show (if i = id then some B else cx.at_ i) = none
      rw [if_neg (by omega)]
      exact R.hp.dom i hi
  · constructor
    · rw [hg.os]; exact R.kp.os
    · rw [hg.tape]; exact R.kp.tape
    · rw [hg.output]; exact R.kp.output
    · exact Nat.le_trans R.kp.size hg.size
    · intro b hb hM
      rw [hg.block b (Nat.lt_of_lt_of_le hb R.kp.size) (fun e => ?_)]
      · exact R.kp.block b hb hM
      · obtain ⟨cap, len, es', hat⟩ := hrow b e.symm
        rcases R.kp.live _ _ _ _ _ _ hr hat with h | h
        · exact hM h
        · omega
    · intro i x b cap es1 len hx hb
      have hb' : (if i = id then some B else cx.at_ i) = some (.at b cap es1 len) := hb
      rcases hh i x hx with ⟨hne, y, hy, -⟩ | ⟨rfl, rfl⟩
      · rw [atne hne] at hb'
        exact R.kp.live _ _ _ _ _ _ hy hb'
      · rw [ateq] at hb'
        cases hb'
        rcases (hB _ _ _ _ rfl).1 with h | h
        · obtain ⟨cap, len, es', hat⟩ := hrow b h.symm
          exact R.kp.live _ _ _ _ _ _ hr hat
        · exact .inr (Nat.le_trans R.kp.size h)
    · exact R.kp.G0
    · exact fun b h => Nat.lt_of_lt_of_le (R.kp.G1 b h) hg.size
    · exact R.kp.G2
    · intro i B' hp
      obtain ⟨h1, h2⟩ := R.kp.pin i B' hp
      refine ⟨?_, h2⟩
      show (if i = id then some B else cx.at_ i) = some B'
      rw [if_neg]
      · exact h1
      · rintro rfl
        rw [R.kp.pinL i _ _ _ hr] at hp
        cases hp
    · intro i ty' es' rows2 hx
      rcases hh i _ hx with ⟨hne, y, hy, hk⟩ | ⟨rfl, e⟩
      · cases y with
        | box => simp [killRow] at hk
        | list ty2 es2 rows3 => exact R.kp.pinL i _ _ _ hy
      · exact R.kp.pinL i _ _ _ hr
    · have := R.kp.base
      simpa [St.setRow, St.kill] using this
  · exact R.bs
theorem Rel.put {cx : Cx} {s : St} {a : Act} {w : World} (R : Rel A cx s a w) {v : V} {u : Value} (h : VRep cx w v u) (d : Option Tmp) : Rel A cx (s.put d v) (a.put d u) w := by
  cases d with
  | none => exact R
  | some d => exact ⟨R.tm.set h d, R.df, R.hp, R.kp, R.bs⟩
/-- the cells of rows with more behind them -/
theorem appended {G : Nat → Prop} {w w' : World} {es : Nat} {rows new : Rows} {xs news : List Value} {cur : Array Value} (hxs : xs.length = rows.length * es) (hnl : news.length = new.length * es) (hfit : ∀ row ∈ rows, row.length = es) (hfit2 : ∀ row ∈ new, row.length = es)
    (hcur : cur.toList.take ((rows.length + new.length) * es) = xs ++ news) (hs : Same G w w')
    (h1 : ∀ (i j : Nat) (t : T), (rows[i]?).bind (fun r => r[j]?) = some t → ∃ u, xs[i * es + j]? = some u ∧ TRep G w t u)
    (h2 : ∀ (i j : Nat) (t : T), (new[i]?).bind (fun r => r[j]?) = some t → ∃ u, news[i * es + j]? = some u ∧ TRep G w t u) :
    ∀ (i j : Nat) (t : T), ((rows ++ new)[i]?).bind (fun r => r[j]?) = some t → ∃ u, cur[i * es + j]? = some u ∧ TRep G w' t u := by
  intro i j t ht
  have key : ∀ {k : Nat} {u : Value}, (xs ++ news)[k]? = some u → cur[k]? = some u := fun {k u} h => by
    rw [← hcur, List.getElem?_take] at h
    split at h
    · rwa [Array.getElem?_toList] at h
    · cases h
  have small : ∀ {l : Rows} {i j : Nat} {t : T}, (∀ row ∈ l, row.length = es) → (l[i]?).bind (fun r => r[j]?) = some t → i < l.length ∧ j < es := fun {l i j t} hf ht => by
    cases hri : l[i]? with
    | none => rw [hri] at ht; cases ht
    | some row =>
      rw [hri, Option.bind_some] at ht
      have h1 := (List.getElem?_eq_some_iff.1 ht).1
      rw [hf row (List.mem_of_getElem? hri)] at h1
      exact ⟨(List.getElem?_eq_some_iff.1 hri).1, h1⟩
  by_cases hi : i < rows.length
  · rw [List.getElem?_append_left hi] at ht
    obtain ⟨u, e1, e2⟩ := h1 i j t ht
    obtain ⟨c1, c2⟩ := small hfit ht
    refine ⟨u, key ?_, e2.mono hs (fun _ h => h)⟩
    rw [List.getElem?_append_left (by rw [hxs]; exact mul_lt c1 c2)]
    exact e1
  · rw [List.getElem?_append_right (by omega)] at ht
    obtain ⟨u, e1, e2⟩ := h2 _ j t ht
    refine ⟨u, key ?_, e2.mono hs (fun _ h => h)⟩
    have hm : rows.length * es ≤ i * es := Nat.mul_le_mul_right _ (by omega)
    rw [List.getElem?_append_right (by rw [hxs]; omega), hxs]
    rw [show i * es + j - rows.length * es = (i - rows.length) * es + j by rw [Nat.sub_mul]; omega]
    exact e1
theorem append_wp {cx : Cx} {s : St} {a : Act} {w : World} {o : Oper} {c : Call} {K : St → Prop} (hL : LayOk P L) (hop : o.op = .call c) (hc : c.callee = .builtin .append) (R : Rel A cx s a w) (h : pop (dom P A) L o s K) :
    ∀ next Q, (∀ s' cx' a' w', K s' → Rel A cx' s' a' w' → next a' w') → o.wp P a w next Q := fun next Q hn => by
  have he := eyes_of R.tm
  simp only [pop, hop, hc] at h
  split at h
  case h_2 => exact h.elim
  rename_i t u x y ht' hx'
  have e1 : c.argTypes = #[t, u] := by cases hh : c.argTypes; simp_all
  have e2 : c.args = #[x, y] := by cases hh : c.args; simp_all
  split at h
  case h_2 => exact h.elim
  rename_i lt hlt
  split at h
  case isFalse => exact h.elim
  rename_i hk
  obtain ⟨_, d, _, _, hd, _, _, _, _, _, _, ⟨_, _, hk3, _⟩, _⟩ := hL t lt hlt
  obtain rfl := hk3 hk
  split at h
  case h_2 => exact h.elim
  rename_i le hle
  obtain ⟨ei, _, z, hei, _, hesz, heby, hz, hzl, hone, hlen, _⟩ := hL lt.elem le hle
  have hzs : z.cells.size = le.size := by rw [← Array.length_toList, hzl, hlen]
  split at h
  case isFalse => exact h.elim
  rename_i hpos
  split at h
  case isFalse => exact h.elim
  rename_i hut
  subst hut
  split at h
  case h_2 => exact h.elim
  rename_i new hnew
  have hx := he x
  have run_of : ∀ {v' : Value} {w' : World}, (Builtin.append_ #[u, u] o.type #[a.eval x, a.eval y]).run P w = .ok v' w' → (execOp a.eval o).run P w = .ok (.value v') w' := fun hr => by
    simp only [execOp, hop, resolve, hc, Sem.run_bind, Sem.run_pure, Result.andThen_ok, invoke, builtin, e1, e2, List.map_toArray, List.map_cons, List.map_nil, hr]
  split at h
  · rename_i id hxv
    rw [hxv] at hx
    split at h
    case h_2 => exact h.elim
    rename_i ty es rows hrow
    split at h
    case isFalse => exact h.elim
    rename_i hes1
    split at h
    case isFalse => exact h.elim
    rename_i hty
    subst hes1
    subst hty
    obtain ⟨⟨hfit, hmx, hby⟩, hK⟩ := h
    have hrow' : s.heap[id]? = some (some (.list lt.elem le.size rows)) := by
      rw [List.getD_eq_getElem?_getD] at hrow
      cases hg : s.heap[id]? with
      | none => rw [hg] at hrow; cases hrow
      | some z => rw [hg] at hrow; simp at hrow; rw [hrow]
    obtain ⟨news, n1, n2, n3, n4⟩ := rows_news' R (he y) hnew hpos hfit
    have hR := R.hp.row id _ hrow'
    have hlapp : (dom P A).lapp rows new = rows ++ new := rfl
    rw [hlapp] at hK
    cases hR with
    | listN ty es hat =>
      generalize hy : a.eval x = xv at hx
      cases hx with
      | lst i b cap es len h' => rw [hat] at h'; cases h'
      | lstN i h' =>
        obtain ⟨v', w', r1, r2, r3, r4⟩ := append_run (ty := o.type) (v := .slice none 0 0) (n := 0) (xs := []) hd hei hz hesz heby hzs hpos ⟨by simp, .inl ⟨rfl, rfl⟩⟩ n1 n2 n3 (by simpa using hmx) (by simpa using hby)
        rw [← hy] at r1
        unfold Oper.wp
        rw [run_of r1, Oper.upon_value]
        have hsame : Same cx.G w w' := fun c hc => r3.block c (R.kp.G1 c hc) (fun e => by cases e)
        rcases own_form r2 with ⟨rfl, hz0⟩ | ⟨g, cap, cur, rfl, g1, g2, g3, g4, g5⟩
        · have hn0 : new = [] := by apply List.eq_nil_of_length_eq_zero; omega
          subst hn0
          have key := R.grow (B := .nil) (rows' := []) (row := none) hrow' r3 (fun k e => by cases e) (fun b cap es len e => by cases e) (.listN _ _ (if_pos rfl))
          exact hn _ _ _ _ hK (key.put (.lstN id (if_pos rfl)) o.dst)
        · have hg0 : g = w.heap.size := by
            rcases r4 with h | h <;> simp [Value.ownBlock] at h
            exact h
          have key := R.grow (B := .at g cap le.size new.length) (rows' := new) (row := none) hrow' r3 (fun k e => by cases e) (fun b cap es len e => by cases e; exact ⟨.inr (by omega), lt_size g1⟩)
            (.list _ _ _ g cap cur (if_pos rfl) g1 (fun hG => by have := R.kp.G1 _ hG; omega) (by omega) g3 g4 hfit (fun i j t ht => by
              have := appended (rows := []) (new := new) (xs := []) (news := news) (cur := cur) (w := w) (w' := w') (G := cx.G) (by simp) n1 (fun r h => by simp at h) hfit (by simpa using g5) hsame (fun i j t h => by simp at h) n4 i j t (by simpa using ht)
              exact this))
          have hv : VRep ⟨fun i => if i = id then some (.at g cap le.size new.length) else cx.at_ i, cx.G⟩ w' (.lst id) (.slice (some ⟨g, 0, none⟩) (0 + new.length) cap) := by
            rw [Nat.zero_add]
            exact .lst id _ _ _ _ (if_pos rfl)
          exact hn _ _ _ _ hK (key.put hv o.dst)
    | list ty es rows b cap0 vs hat hbl hnG hcap hmax hsz hes hr =>
      generalize hy : a.eval x = xv at hx
      cases hx with
      | lstN i h' => rw [hat] at h'; cases h'
      | lst i b' cap' es' len h' =>
        rw [hat] at h'
        cases h'
        have hxl : (vs.toList.take (rows.length * le.size)).length = rows.length * le.size := by
          have : rows.length * le.size ≤ vs.size := by rw [hsz]; exact Nat.mul_le_mul_right _ hcap
          have hvl : vs.toList.length = vs.size := by simp
          rw [List.length_take, hvl]; omega
        obtain ⟨v', w', r1, r2, r3, r4⟩ := append_run (ty := o.type) (v := .slice (some ⟨b, 0, none⟩) rows.length cap0) (n := rows.length) (xs := vs.toList.take (rows.length * le.size)) hd hei hz hesz heby hzs hpos
          ⟨hxl, .inr ⟨b, cap0, vs, rfl, Nat.zero_le _, hbl, hcap, hmax, hsz, rfl⟩⟩ n1 n2 n3 hmx hby
        rw [← hy] at r1
        unfold Oper.wp
        rw [run_of r1, Oper.upon_value]
        have hsame : Same cx.G w w' := fun c hc => r3.block c (R.kp.G1 c hc) (fun e => by cases e; exact hnG hc)
        rcases own_form r2 with ⟨rfl, hz0⟩ | ⟨g, cap, cur, rfl, g1, g2, g3, g4, g5⟩
        · exfalso
          rcases r4 with h | h <;> simp [Value.ownBlock] at h
        · have hg0 : g = b ∨ g = w.heap.size := by
            rcases r4 with h | h <;> simp [Value.ownBlock] at h
            · exact .inl h
            · exact .inr h
          have hll : (rows ++ new).length = rows.length + new.length := List.length_append
          have key := R.grow (B := .at g cap le.size (rows ++ new).length) (rows' := rows ++ new) (row := some b) hrow' r3 (fun k e => by cases e; exact ⟨_, _, _, hat⟩)
            (fun b2 cap es len e => by cases e; exact ⟨by rcases hg0 with rfl | rfl; exact .inl rfl; exact .inr (Nat.le_refl _), lt_size g1⟩)
            (.list _ _ _ g cap cur (if_pos rfl) g1 (fun hG => by
              rcases hg0 with rfl | rfl
              · exact hnG hG
              · have := R.kp.G1 _ hG; omega) (by omega) g3 g4 (fun row hrow => by
                rcases List.mem_append.1 hrow with h | h
                · exact hes row h
                · exact hfit row h) (fun i j t ht => by
              refine appended (rows := rows) (new := new) (xs := vs.toList.take (rows.length * le.size)) (news := news) (cur := cur) (w := w) (w' := w') (G := cx.G) hxl n1 hes hfit g5 hsame (fun i j t h => ?_) n4 i j t ht
              obtain ⟨u, q1, q2⟩ := hr i j t h
              refine ⟨u, ?_, q2⟩
              have hb : i * le.size + j < rows.length * le.size := by
                cases hri : rows[i]? with
                | none => rw [hri] at h; cases h
                | some row =>
                  rw [hri, Option.bind_some] at h
                  have h1 := (List.getElem?_eq_some_iff.1 h).1
                  rw [hes row (List.mem_of_getElem? hri)] at h1
                  exact mul_lt (List.getElem?_eq_some_iff.1 hri).1 h1
              rw [List.getElem?_take, if_pos hb, Array.getElem?_toList]
              exact q1))
          have hv : VRep ⟨fun i => if i = id then some (.at g cap le.size (rows ++ new).length) else cx.at_ i, cx.G⟩ w' (.lst id) (.slice (some ⟨g, 0, none⟩) (rows.length + new.length) cap) := by
            rw [← hll]
            exact .lst id _ _ _ _ (if_pos rfl)
          exact hn _ _ _ _ hK (key.put hv o.dst)
  · rename_i hxv
    rw [hxv] at hx
    have hxn := inv_flat hx
    obtain ⟨⟨hfit, hmx, hby⟩, hK⟩ := h
    simp only [List.length_nil, Nat.zero_add] at hmx hby
    obtain ⟨news, n1, n2, n3, n4⟩ := rows_news' R (he y) hnew hpos hfit
    obtain ⟨v', w', r1, r2, r3, r4⟩ := append_run (ty := o.type) (v := .slice none 0 0) (n := 0) (xs := []) hd hei hz hesz heby hzs hpos ⟨by simp, .inl ⟨rfl, rfl⟩⟩ n1 n2 n3 (by simpa using hmx) (by simpa using hby)
    rw [← hxn] at r1
    unfold Oper.wp
    rw [run_of r1, Oper.upon_value]
    have hsame : Same cx.G w w' := fun c hc => r3.block c (R.kp.G1 c hc) (fun e => by cases e)
    have hbelow : Below w.heap.size w w' := ⟨r3.os, r3.tape, r3.output, r3.size, fun k hk => r3.block k hk (fun e => by cases e)⟩
    have h0 : cx.at_ s.heap.length = none := R.hp.dom _ (Nat.le_refl _)
    have fin : ∀ (B : Blk) (u' : Value), u' = v' → RowRep ⟨fun i => if i = s.heap.length then some B else cx.at_ i, cx.G⟩ w' s.heap.length (.list lt.elem le.size new) →
        VRep ⟨fun i => if i = s.heap.length then some B else cx.at_ i, cx.G⟩ w' (.lst s.heap.length) u' → (∀ b cap es len, B = .at b cap es len → w.heap.size ≤ b ∧ b < w'.heap.size) → next (a.put o.dst v') w' := fun B u' hu hR hV hb => by
      subst hu
      have X : Res cx w s.heap.length (some (.list lt.elem le.size new)) ⟨fun i => if i = s.heap.length then some B else cx.at_ i, cx.G⟩ w' (.lst s.heap.length) u' :=
        ⟨hbelow, fun id hid => if_neg hid, (fun e => by cases e), fun b h => h, fun b h => .inl h, hV, fun r e => by
          cases e
          refine ⟨hR, fun b cap es len hat => ?_⟩
          have : (if s.heap.length = s.heap.length then some B else cx.at_ s.heap.length) = some (.at b cap es len) := hat
          rw [if_pos rfl] at this
          cases this
          exact hb _ _ _ _ rfl⟩
      have := R.step X h0 o.dst (s.heap ++ [some (.list lt.elem le.size new)]) (fun id r hr => by
        by_cases hl : id < s.heap.length
        · rw [List.getElem?_append_left hl] at hr
          exact .inl ⟨by omega, hr⟩
        · rw [List.getElem?_append_right (by omega)] at hr
          have hi : id - s.heap.length = 0 := by
            have := (List.getElem?_eq_some_iff.1 hr).1
            simp at this
            omega
          rw [hi] at hr
          simp at hr
          exact .inr ⟨by omega, by rw [hr]⟩) (by simp) (fun _ => by simp)
      have e3 : (⟨(s.put o.dst (.lst s.heap.length)).tmps, s.heap ++ [some (.list lt.elem le.size new)], s.base⟩ : St) = (s.put o.dst (.lst s.heap.length)).push (some (.list lt.elem le.size new)) := by simp [St.push, put_heap, put_base]
      rw [e3] at this
      exact hn _ _ _ _ hK this
    rcases own_form r2 with ⟨rfl, hz0⟩ | ⟨g, cap, cur, rfl, g1, g2, g3, g4, g5⟩
    · have hn0 : new = [] := by apply List.eq_nil_of_length_eq_zero; omega
      subst hn0
      exact fin .nil _ rfl (.listN _ _ (if_pos rfl)) (.lstN _ (if_pos rfl)) (fun b cap es len e => by cases e)
    · have hg0 : g = w.heap.size := by
        rcases r4 with h | h <;> simp [Value.ownBlock] at h
        exact h
      refine fin (.at g cap le.size new.length) _ rfl (.list _ _ _ g cap cur (if_pos rfl) g1 (fun hG => by have := R.kp.G1 _ hG; omega) (by omega) g3 g4 hfit (fun i j t ht => ?_)) ?_ (fun b cap es len e => by cases e; exact ⟨by omega, lt_size g1⟩)
      · exact appended (rows := []) (new := new) (xs := []) (news := news) (cur := cur) (w := w) (w' := w') (G := cx.G) (by simp) n1 (fun r h => by simp at h) hfit (by simpa using g5) hsame (fun i j t h => by simp at h) n4 i j t (by simpa using ht)
      · rw [Nat.zero_add]
        exact .lst _ _ _ _ _ (if_pos rfl)
  · exact h.elim
end
end Ab
end Go.Proofs.Ytgcgilcalmefgaa
namespace Go.Proofs.Ytgcgilcalmefgaa
open Go Go.RowKit
set_option linter.unusedVariables false
set_option linter.unusedSimpArgs false
namespace Ab
section
variable {P : Program} {A : Run} {L : TypeId → Option Lt}
theorem getD_row {heap : List (Option Row)} {id : Nat} {r : Row} (h : heap.getD id none = some r) : heap[id]? = some (some r) := by
  rw [List.getD_eq_getElem?_getD] at h
  cases hg : heap[id]? with
  | none => rw [hg] at h; cases h
  | some z => rw [hg] at h; simp at h; rw [h]
theorem push_eq {s : St} {d : Option Tmp} {v : V} (row : Option Row) : (s.put d v).push row = ⟨(s.put d v).tmps, match row with | some r => s.heap ++ [some r] | none => s.heap, s.base⟩ := by
  cases row <;> simp [St.push, put_heap, put_base]
  cases d <;> rfl
theorem calm_wp {cx : Cx} {s : St} {a : Act} {w : World} {o : Oper} {K : St → Prop} (hL : LayOk P L) (R : Rel A cx s a w) (h : evC (dom P A) L o s.ev s.heap s.heap.length fun v r => K ((s.put o.dst v).push r)) :
    ∀ next Q, (∀ s' cx' a' w', K s' → Rel A cx' s' a' w' → next a' w') → o.wp P a w next Q := fun next Q hn => by
  have h0 : cx.at_ s.heap.length = none := R.hp.dom _ (Nat.le_refl _)
  refine evC_wp hL (eyes_of R.tm) (fun id r hr => R.hp.row id r (getD_row hr)) h0 R.kp.G1 h next Q fun v row u w' cx' hk X => ?_
  refine hn _ cx' _ _ hk ?_
  rw [push_eq]
  refine R.step X h0 o.dst _ (fun id r hr => ?_) ?_ ?_
  · cases row with
    | none =>
      have hlt : id < s.heap.length := (List.getElem?_eq_some_iff.1 hr).1
      exact .inl ⟨by omega, hr⟩
    | some r' =>
      simp only at hr
      by_cases hl : id < s.heap.length
      · rw [List.getElem?_append_left hl] at hr
        exact .inl ⟨by omega, hr⟩
      · rw [List.getElem?_append_right (by omega)] at hr
        have hi : id - s.heap.length = 0 := by
          have := (List.getElem?_eq_some_iff.1 hr).1
          simp at this
          omega
        rw [hi] at hr
        simp at hr
        exact .inr ⟨by omega, by rw [hr]⟩
  · cases row <;> simp
  · cases row <;> simp
theorem pop_wp {cx : Cx} {s : St} {a : Act} {w : World} {o : Oper} {K : St → Prop} (hL : LayOk P L) (R : Rel A cx s a w) (h : pop (dom P A) L o s K) :
    ∀ next Q, (∀ s' cx' a' w', K s' → Rel A cx' s' a' w' → next a' w') → o.wp P a w next Q := fun next Q hn => by
  cases hop : o.op with
  | store t x y => exact store_wp hL hop R h next Q fun s' w' hk hR => hn s' cx a w' hk hR
  | call c =>
    cases hc : c.callee with
    | value f =>
      have h' := h
      simp only [pop, hop, hc] at h'
      split at h'
      case h_2 => exact h'.elim
      rename_i g caps hf
      obtain ⟨hcall, hA⟩ := h'
      have he := eyes_of R.tm
      have hx := he f
      rw [hf] at hx
      generalize hy : a.eval f = y at hx
      cases hx with
      | fn f' cs vs hnn hr =>
        have hargs : VReps cx w (c.args.toList.map s.ev ++ caps) (c.args.map a.eval ++ vs) := by
          refine ⟨by simp [hnn], fun i x u h1 h2 => ?_⟩
          by_cases hi : i < c.args.size
          · rw [List.getElem?_append_left (by simpa using hi)] at h1
            rw [Array.getElem?_append_left (by simpa using hi)] at h2
            rw [List.getElem?_map, Array.getElem?_toList] at h1
            rw [Array.getElem?_map] at h2
            obtain ⟨z, hz, rfl⟩ := Option.map_eq_some_iff.1 h1
            rw [hz] at h2
            cases h2
            exact he z
          · rw [List.getElem?_append_right (by simpa using Nat.le_of_not_lt hi)] at h1
            rw [Array.getElem?_append_right (by simpa using Nat.le_of_not_lt hi)] at h2
            simp only [List.length_map, Array.length_toList] at h1
            simp only [Array.size_map] at h2
            exact hr _ _ _ h1 h2
        have hrun : (execOp a.eval o).run P w = .ok (.enter g (c.args.map a.eval ++ vs)) w := by
          simp only [execOp, hop, resolve, hc, hy, Deferred.ofValue, Sem.run_bind, Sem.run_pure, Result.andThen_ok, invoke, Array.empty_append]
          exact hcall _ _
        unfold Oper.wp
        rw [hrun, Oper.upon_enter]
        refine (hA cx a w _ R hargs).mono ?_
        rintro e w' ⟨u, v, s', cx', rfl, hK, hrep, hR⟩
        exact hn _ cx' _ _ hK (hR.put hrep o.dst)
    | builtin b =>
      cases b with
      | append => exact append_wp hL hop hc R h next Q hn
      | _ => exact calm_wp hL R (by simpa only [pop, hop, hc] using h) next Q hn
    | invoke r m =>
      have h' := h
      simp only [pop, hop, hc] at h'
      obtain ⟨g, r', hres, hcall, hA⟩ := h'
      have he := eyes_of R.tm
      obtain ⟨u', hm, hu'⟩ := hres cx w _ (he r)
      have hargs : VReps cx w (r' :: c.args.toList.map s.ev) (#[u'] ++ c.args.map a.eval) := by
        refine ⟨by simp; omega, fun i x u h1 h2 => ?_⟩
        cases i with
        | zero =>
          rw [Array.getElem?_append_left (by simp)] at h2
          simp at h1 h2
          subst h1
          subst h2
          exact hu'
        | succ i =>
          rw [List.getElem?_cons_succ, List.getElem?_map, Array.getElem?_toList] at h1
          rw [Array.getElem?_append_right (by simp), Array.getElem?_map] at h2
          simp only [List.size_toArray, List.length_cons, List.length_nil, Nat.zero_add, Nat.add_sub_cancel] at h2
          obtain ⟨z, hz, rfl⟩ := Option.map_eq_some_iff.1 h1
          rw [hz] at h2
          cases h2
          exact he z
      have hrun : (execOp a.eval o).run P w = .ok (.enter g (#[u'] ++ c.args.map a.eval)) w := by
        have e : ∀ (y : Value) (ys : Array Value), (#[y] ++ ys).extract 1 (#[y] ++ ys).size = ys := fun y ys => by
          obtain ⟨l⟩ := ys
          simp
        simp only [execOp, hop, resolve, hc, Sem.run_bind, Sem.run_pure, Result.andThen_ok, invoke]
        have e0 : ∀ (y : Value) (ys : Array Value), (#[y] ++ ys)[0]? = some y := fun y ys => by
          obtain ⟨l⟩ := ys
          simp
        simp only [e0, e]
        rw [hm]
        exact hcall _ _
      unfold Oper.wp
      rw [hrun, Oper.upon_enter]
      refine (hA cx a w _ R hargs).mono ?_
      rintro e w' ⟨u, v, s', cx', rfl, hK, hrep, hR⟩
      exact hn _ cx' _ _ hK (hR.put hrep o.dst)
  | _ => exact calm_wp hL R (by simpa only [pop, hop] using h) next Q hn
theorem guarded_wp {all : List Oper} {o : Oper} {cx : Cx} {s : St} {a : Act} {w : World} {run skip : Unit → Prop} (R : VReps cx w s.tmps a.tmps) (h : guarded (dom P A) all o s run skip) :
    (Region.wanted o (yielded all.toArray a.tmps) = true ∧ run ()) ∨ (Region.wanted o (yielded all.toArray a.tmps) = false ∧ skip ()) := by
  unfold guarded at h
  unfold Region.wanted
  split at h
  · rename_i hg
    rw [hg]
    exact .inl ⟨rfl, h⟩
  · rename_i j want hg
    rw [hg]
    split at h
    case h_2 => exact h.elim
    rename_i t ht
    have hdst : ((all.toArray[j]?).bind (·.dst)) = some t := by
      unfold gslot at ht
      rw [List.getElem?_toArray]
      split at ht
      · rename_i oj hj; rw [hj]; exact ht
      · cases ht
    have htm : ∀ v, s.tmps.getD t .junk = v → v ≠ .junk → ∃ u, a.tmps[t]? = some u ∧ VRep cx w v u := fun v hv hne => by
      rw [List.getD_eq_getElem?_getD] at hv
      cases hg : s.tmps[t]? with
      | none => rw [hg] at hv; exact absurd hv.symm hne
      | some x =>
        rw [hg] at hv
        simp at hv
        subst hv
        have hlt : t < a.tmps.size := by rw [R.1]; exact (List.getElem?_eq_some_iff.1 hg).1
        exact ⟨_, Array.getElem?_eq_getElem hlt, R.2 _ _ _ hg (Array.getElem?_eq_getElem hlt)⟩
    split at h
    · rename_i b hb
      obtain ⟨u, h1, h2⟩ := htm _ hb (by simp)
      have hu := inv_bool h2
      subst hu
      have hy : yielded all.toArray a.tmps j = some b := by unfold yielded; rw [hdst, Option.bind_some, h1]
      simp only [hy]
      cases want with
      | true =>
        cases b with
        | true => exact .inl ⟨rfl, h.1 rfl⟩
        | false => exact .inr ⟨rfl, h.2 rfl⟩
      | false =>
        cases b with
        | true => exact .inr ⟨rfl, h.1 rfl⟩
        | false => exact .inl ⟨rfl, h.2 rfl⟩
    · rename_i cs hb
      obtain ⟨u, h1, h2⟩ := htm _ hb (by simp)
      cases h2 with
      | tup cs vs hn hr =>
        have hy : yielded all.toArray a.tmps j = none := by unfold yielded; rw [hdst, Option.bind_some, h1]
        simp only [hy]
        exact .inr ⟨rfl, h⟩
    · exact h.elim
theorem rep_undef (cx : Cx) (w : World) : VRep cx w (.tup []) undef := .tup [] #[] rfl fun i c u h => by simp at h
theorem known_drop {t u : Tmp} {b : Bool} : ∀ {kn : List (Tmp × Bool)}, knownAt (dropK t kn) u = some b → u ≠ t ∧ knownAt kn u = some b
  | [], h => by cases h
  | (x, c) :: r, h => by
    unfold dropK at h
    split at h
    · rename_i e
      obtain ⟨h1, h2⟩ := known_drop h
      exact ⟨h1, by unfold knownAt; rw [if_neg (fun e2 => h1 (e2.symm.trans e))]; exact h2⟩
    · rename_i e
      unfold knownAt at h ⊢
      split at h
      · rename_i e2
        rw [if_pos e2]
        exact ⟨fun e3 => e (e2.trans e3), h⟩
      · rename_i e2
        obtain ⟨h1, h2⟩ := known_drop h
        rw [if_neg e2]
        exact ⟨h1, h2⟩
/-- the truths hold of the act's slots -/
def KInv (kn : List (Tmp × Bool)) (a : Act) : Prop := ∀ t b u, knownAt kn t = some b → a.tmps[t]? = some u → u = .bool b
theorem kinv_nil (a : Act) : KInv [] a := fun t b u h => by cases h
theorem put_other {a : Act} {d t : Tmp} {v : Value} (h : t ≠ d) : (a.put (some d) v).tmps[t]? = a.tmps[t]? := by
  simp only [Act.put, Array.set!_eq_setIfInBounds]
  exact Array.getElem?_setIfInBounds_ne (fun e => h e.symm)
theorem put_same {a : Act} {d : Tmp} {v u : Value} (h : (a.put (some d) v).tmps[d]? = some u) : u = v := by
  simp only [Act.put, Array.set!_eq_setIfInBounds, Array.getElem?_setIfInBounds] at h
  split at h
  · split at h
    · cases h; rfl
    · cases h
  · rename_i e; exact absurd trivial e
theorem KInv.forget {kn : List (Tmp × Bool)} {a a' : Act} {d : Option Tmp} {v : Value} (h : KInv kn a) (ha : a'.tmps = (a.put d v).tmps) : KInv (forgetK kn d) a' := fun t b u h1 h2 => by
  rw [ha] at h2
  cases d with
  | none => exact h t b u h1 h2
  | some d =>
    obtain ⟨g1, g2⟩ := known_drop h1
    rw [put_other g1] at h2
    exact h t b u g2 h2
theorem slot_bool {cx : Cx} {w : World} {s : St} {a : Act} {t : Tmp} {b : Bool} (R : VReps cx w s.tmps a.tmps) (h : s.tmps.getD t .junk = .t (.flat (.bool b))) : a.tmps[t]? = some (.bool b) := by
  rw [List.getD_eq_getElem?_getD] at h
  cases hg : s.tmps[t]? with
  | none => rw [hg] at h; cases h
  | some x =>
    rw [hg] at h
    simp at h
    subst h
    have hlt : t < a.tmps.size := by rw [R.1]; exact (List.getElem?_eq_some_iff.1 hg).1
    have := inv_bool (R.2 _ _ _ hg (Array.getElem?_eq_getElem hlt))
    rw [Array.getElem?_eq_getElem hlt, this]
theorem eval_tmp {a : Act} {t : Tmp} {u : Value} (h : a.tmps[t]? = some u) : a.eval (.tmp t) = u := by
  simp only [Act.eval, Array.getD_eq_getD_getElem?, h, Option.getD_some]
theorem KInv.learn {cx : Cx} {w : World} {s : St} {kn : List (Tmp × Bool)} {a : Act} {d : Option Tmp} {x : Operand} (R : VReps cx w s.tmps a.tmps) (h : KInv kn a) : KInv (learn s kn d x) (a.put d (a.eval x)) := by
  cases d with
  | none => exact h
  | some d =>
    have hf : KInv (dropK d kn) (a.put (some d) (a.eval x)) := h.forget (d := some d) rfl
    have key : ∀ b, a.eval x = .bool b → KInv ((d, b) :: dropK d kn) (a.put (some d) (a.eval x)) := fun b hb t c u h1 h2 => by
      unfold knownAt at h1
      split at h1
      · rename_i e
        subst e
        cases h1
        rw [put_same h2, hb]
      · exact hf t c u h1 h2
    unfold Ab.learn
    dsimp only
    split
    · exact key _ rfl
    · split
      · rename_i t b hb
        split
        · rename_i c hk
          have h1 := slot_bool R hb
          have := h _ _ _ hk h1
          injection this with this
          subst this
          exact key _ (eval_tmp h1)
        · exact hf
      · exact hf
    · exact hf
theorem wp_frame {o : Oper} {a : Act} {w : World} {next next' : Act → World → Prop} {Q : Exit → Act → World → Prop} (h : o.wp P a w next Q) (hn : ∀ a' w' v, a'.tmps = (a.put o.dst v).tmps → next a' w' → next' a' w') : o.wp P a w next' Q := by
  unfold Oper.wp at h ⊢
  generalize (execOp a.eval o).run P w = r at h ⊢
  cases r with
  | ok n w' =>
    cases n with
    | value v => exact hn _ _ v rfl h
    | skip => exact hn _ _ undef rfl h
    | defer d => exact hn _ _ undef (by cases o.dst <;> rfl) h
    | enter f args => exact Calls.mono h fun e w'' hq => by cases e <;> first | exact hn _ _ _ rfl hq | exact hq
    | row r args => exact Rows.mono h fun v w'' hq => hn _ _ v rfl hq
    | _ => exact h
  | halt x w' => cases x <;> exact h
theorem popK_wp {cx : Cx} {s : St} {a : Act} {w : World} {o : Oper} {kn : List (Tmp × Bool)} {K : List (Tmp × Bool) → St → Prop} (hL : LayOk P L) (R : Rel A cx s a w) (hk : KInv kn a) (h : popK (dom P A) L o kn s K) :
    ∀ next Q, (∀ kn' s' cx' a' w', K kn' s' → Rel A cx' s' a' w' → KInv kn' a' → next a' w') → o.wp P a w next Q := fun next Q hn => by
  have plain : pop (dom P A) L o s (K (forgetK kn o.dst)) → o.wp P a w next Q := fun h' =>
    wp_frame (pop_wp hL R h' (fun a' w' => ∃ s' cx', K (forgetK kn o.dst) s' ∧ Rel A cx' s' a' w') Q fun s' cx' a' w' h1 h2 => ⟨s', cx', h1, h2⟩)
      fun a' w' v ha ⟨s', cx', h1, h2⟩ => hn _ s' cx' a' w' h1 h2 (hk.forget ha)
  unfold popK at h
  split at h
  · rename_i c x y hop
    split at h
    · rename_i t
      split at h
      · rename_i b hb
        have h1 := slot_bool R.tm hb
        split at h
        · rename_i hkn
          have := hk _ _ _ hkn h1
          injection this with this
          subst this
          have hrun : ∀ e : Operand → Value, e (.tmp t) = .bool true → (execOp e o).run P w = .ok (.value (e x)) w := fun e he => by simp [execOp, hop, go_sem, he]
          unfold Oper.wp
          rw [hrun a.eval (eval_tmp h1)]
          exact hn _ _ cx _ w h (R.put (eyes_of R.tm x) o.dst) (hk.learn R.tm)
        · rename_i hkn
          have := hk _ _ _ hkn h1
          injection this with this
          subst this
          have hrun : ∀ e : Operand → Value, e (.tmp t) = .bool false → (execOp e o).run P w = .ok (.value (e y)) w := fun e he => by simp [execOp, hop, go_sem, he]
          unfold Oper.wp
          rw [hrun a.eval (eval_tmp h1)]
          exact hn _ _ cx _ w h (R.put (eyes_of R.tm y) o.dst) (hk.learn R.tm)
        · exact plain h
      · exact plain h
    · exact plain h
  · rename_i x hop
    have hrun : ∀ e : Operand → Value, (execOp e o).run P w = .ok (.value (e x)) w := fun e => by simp [execOp, hop, go_sem]
    unfold Oper.wp
    rw [hrun a.eval]
    exact hn _ _ cx _ w h (R.put (eyes_of R.tm x) o.dst) (hk.learn R.tm)
  · exact plain h
theorem guardedK_wp {all : List Oper} {o : Oper} {kn : List (Tmp × Bool)} {cx : Cx} {s : St} {a : Act} {w : World} {run skip : List (Tmp × Bool) → Prop} (R : VReps cx w s.tmps a.tmps) (hk : KInv kn a) (h : guardedK (dom P A) all o kn s run skip) :
    (Region.wanted o (yielded all.toArray a.tmps) = true ∧ ∃ kn', KInv kn' a ∧ run kn') ∨ (Region.wanted o (yielded all.toArray a.tmps) = false ∧ ∃ kn', KInv kn' a ∧ skip kn') := by
  have more : ∀ {t : Tmp} {b : Bool}, a.tmps[t]? = some (.bool b) → KInv ((t, b) :: kn) a := fun {t b} hb u c v h1 h2 => by
    unfold knownAt at h1
    split at h1
    · rename_i e
      subst e
      cases h1
      rw [hb] at h2
      cases h2
      rfl
    · exact hk u c v h1 h2
  have go : guarded (dom P A) all o s (fun _ => ∃ kn', KInv kn' a ∧ run kn') (fun _ => ∃ kn', KInv kn' a ∧ skip kn') := by
    unfold guardedK at h
    unfold guarded
    split at h
    · exact ⟨kn, hk, h⟩
    · rename_i j want hg
      try dsimp only
      split at h
      case h_2 => exact h.elim
      rename_i t ht
      try dsimp only
      split at h
      · rename_i b hb
        try dsimp only
        have h1 := slot_bool R hb
        split at h
        · rename_i hkn
          have := hk _ _ _ hkn h1
          injection this with this
          subst this
          cases want
          · exact ⟨fun _ => ⟨kn, hk, h⟩, fun e => by cases e⟩
          · exact ⟨fun _ => ⟨kn, hk, h⟩, fun e => by cases e⟩
        · rename_i hkn
          have := hk _ _ _ hkn h1
          injection this with this
          subst this
          cases want
          · exact ⟨(fun e => by cases e), fun _ => ⟨kn, hk, h⟩⟩
          · exact ⟨(fun e => by cases e), fun _ => ⟨kn, hk, h⟩⟩
        · cases want
          · exact ⟨fun e => ⟨_, more (e ▸ h1), h.1 e⟩, fun e => ⟨_, more (e ▸ h1), h.2 e⟩⟩
          · exact ⟨fun e => ⟨_, more (e ▸ h1), h.1 e⟩, fun e => ⟨_, more (e ▸ h1), h.2 e⟩⟩
      · rename_i cs hb
        exact ⟨kn, hk, h⟩
      · exact h.elim
  exact guarded_wp R go
theorem pops_wp (hL : LayOk P L) {all : List Oper} {K : St → Prop} {Q : Exit → Act → World → Prop} (hQ : ∀ s cx a w, K s → Rel A cx s a w → Q .normal a w) :
    ∀ (rest : List Oper) (kn : List (Tmp × Bool)) (s : St), pops (dom P A) L all kn rest s K → ∀ cx a w, Rel A cx s a w → KInv kn a → wpList P all.toArray Q rest a w := by
  intro rest
  induction rest with
  | nil => intro kn s h cx a w R hk; exact hQ s cx a w h R
  | cons o rest ih =>
    intro kn s h cx a w R hk
    unfold wpList
    rcases guardedK_wp R.tm hk h with ⟨hw, kn', hk', h⟩ | ⟨hw, kn', hk', h⟩
    · rw [if_pos hw]
      exact .inl (popK_wp hL R hk' h _ _ fun kn2 s' cx' a' w' hK hR hI => ih kn2 s' hK cx' a' w' hR hI)
    · rw [if_neg (by simp [hw])]
      exact ih _ _ h cx _ w (R.put (rep_undef cx w) o.dst) (hk'.forget rfl)
theorem region_AW (hL : LayOk P L) {id : Nat} {ops : Array Oper} {s : St} {Q : Ex → St → Prop} (h : pops (dom P A) L ops.toList [] ops.toList s (Q .normal)) : AW P A (.region id ops false) s Q := fun cx a w R => by
  refine wp_region_list ?_
  have := pops_wp hL (Q := Post A Q) (fun s cx a w hk hR => ⟨.normal, s, cx, trivial, hk, hR⟩) ops.toList [] s h cx a w R (kinv_nil a)
  simpa using this
theorem AW.mono {c : Code} {s : St} {Q Q' : Ex → St → Prop} (h : AW P A c s Q) (hq : ∀ e s, Q e s → Q' e s) : AW P A c s Q' := fun cx a w R =>
  wp_mono (h cx a w R) fun e a w ⟨e', s', cx', h1, h2, h3⟩ => ⟨e', s', cx', h1, hq _ _ h2, h3⟩
theorem pwp_sound (hL : LayOk P L) : ∀ (c : Code) (s : St) (Q : Ex → St → Prop), pwp (dom P A) L c s Q → AW P A c s Q := by
  intro c
  induction c with
  | skip => intro s Q h cx a w R; exact wp_skip ⟨.normal, s, cx, trivial, h, R⟩
  | label l => intro s Q h cx a w R; exact wp_label ⟨.normal, s, cx, trivial, h, R⟩
  | region id ops d =>
    intro s Q h
    cases d with
    | false => exact region_AW hL h
    | true =>
      have := h id
      intro cx a w R
      refine wp_mono (this cx a w R) fun e a w ⟨e', s', cx', h1, ⟨h2, h3⟩, h4⟩ => ?_
      subst h2
      exact ⟨.normal, s', cx', h1, h3, h4⟩
  | seq x y ihx ihy =>
    intro s Q h cx a w R
    refine wp_seq (wp_mono (ihx _ _ h cx a w R) fun e a w ⟨e', s', cx', h1, h2, h3⟩ => ?_)
    cases e <;> cases e' <;> first | exact h1.elim | exact ihy _ _ h2 cx' a w h3 | exact ⟨_, s', cx', h1, h2, h3⟩
  | cond c x y ihx ihy =>
    intro s Q h cx a w R
    simp only [pwp] at h
    split at h
    case h_2 => exact h.elim
    rename_i b hb
    have hc := inv_bool (by have := eyes_of R.tm c; rw [hb] at this; exact this)
    cases b with
    | true => exact wp_cond hc (ihx _ _ (h.1 rfl) cx a w R)
    | false => exact wp_cond hc (ihy _ _ (h.2 rfl) cx a w R)
  | block id c ih =>
    intro s Q h cx a w R
    refine wp_block (wp_mono (ih _ _ h cx a w R) fun e a w ⟨e', s', cx', h1, h2, h3⟩ => ?_)
    cases e with
    | exit i =>
      cases e' with
      | exit j =>
        have e1 : i = j := h1
        subst e1
        simp only [Exit.inBlock]
        simp only at h2
        split at h2
        · rename_i e2
          rw [if_pos e2]
          exact ⟨.normal, s', cx', trivial, h2, h3⟩
        · rename_i e2
          rw [if_neg e2]
          exact ⟨.exit i, s', cx', rfl, h2, h3⟩
      | _ => exact h1.elim
    | _ => cases e' <;> first | exact h1.elim | exact ⟨_, s', cx', h1, h2, h3⟩
  | exit id => intro s Q h cx a w R; exact wp_exit ⟨.exit id, s, cx, rfl, h, R⟩
  | goto l => intro s Q h cx a w R; exact wp_goto ⟨.goto l, s, cx, rfl, h, R⟩
  | ret => intro s Q h cx a w R; exact wp_ret ⟨.ret, s, cx, trivial, h, R⟩
  | loop c ih => intro s Q h; exact h
  | rangeFunc f ps x y => intro s Q h; exact h
  | scope c ih => intro s Q h; exact h
  | refuse why => intro s Q h; exact h
end
end Ab
end Go.Proofs.Ytgcgilcalmefgaa
namespace Go.Proofs.Ytgcgilcalmefgaa
open Go Go.RowKit
set_option linter.unusedVariables false
set_option linter.unusedSimpArgs false
namespace Ab
section
variable {P : Program} {A : Run} {L : TypeId → Option Lt}
-- a state told more loosely
mutual
/-- does a value name rows below n alone? -/
def V.under (n : Nat) : V → Bool
  | .lst j => decide (j < n)
  | .ptr j _ => decide (j < n)
  | .elt j _ _ => decide (j < n)
  | .agg cs => underL n cs
  | .tup cs => underL n cs
  | .fn _ cs => underL n cs
  | .ifc _ v => V.under n v
  | _ => true
def underL (n : Nat) : List V → Bool
  | [] => true
  | v :: r => V.under n v && underL n r
end
/-- b tells no more than a; lists from n on are new, and empty -/
def leV (n : Nat) (a b : V) : Prop :=
  match b with
  | .junk => True
  | .lst id => a = .lst id ∨ (a = vNil ∧ n ≤ id)
  | b => a = b
def leL (n : Nat) : List V → List V → Prop
  | [], [] => True
  | a :: x, b :: y => leV n a b ∧ leL n x y
  | _, _ => False
def leRow (n : Nat) : Row → Row → Prop
  | .box t cs, .box t' cs' => t = t' ∧ leL n cs cs'
  | .list t es rows, .list t' es' rows' => t = t' ∧ es = es' ∧ rows = rows'
  | _, _ => False
def newRow : Row → Prop
  | .list _ _ [] => True
  | _ => False
def leOne (n : Nat) (x : List (Option Row)) (r' : Option Row) : Prop :=
  match r' with
  | none => True
  | some r' => match x with
    | [] => newRow r'
    | some r :: _ => leRow n r r'
    | none :: _ => False
def leH (n : Nat) : List (Option Row) → List (Option Row) → Prop
  | _, [] => True
  | x, r' :: y => leOne n x r' ∧ leH n x.tail y
def underRow (n : Nat) : Option Row → Bool
  | some (.box _ cs) => underL n cs
  | _ => true
def St.le (s t : St) : Prop :=
  leL s.heap.length s.tmps t.tmps ∧ leH s.heap.length s.heap t.heap ∧ underL t.heap.length t.tmps = true ∧ t.heap.all (underRow t.heap.length) = true ∧ t.base = s.base ∧ Nat.ble s.base t.heap.length = true
theorem underL_get {n : Nat} : ∀ {l : List V}, underL n l = true → ∀ (i : Nat) (c : V), l[i]? = some c → c.under n = true
  | [], _, i, c, h => by simp at h
  | v :: r, hn, i, c, h => by
    simp only [underL, Bool.and_eq_true] at hn
    cases i with
    | zero => simp at h; subst h; exact hn.1
    | succ i => exact underL_get hn.2 i c (by simpa using h)
theorem VRep.cut {cx cx' : Cx} {w : World} {v : V} {u : Value} {n : Nat} (h : VRep cx w v u) (hat : ∀ i B, i < n → cx.at_ i = some B → cx'.at_ i = some B) (hG : ∀ b, cx.G b → cx'.G b) : v.under n = true → VRep cx' w v u := by
  induction h with
  | t x v h => intro _; exact .t x v (h.mono (Same.refl _ _) hG)
  | agg cs vs hn hcb hr ih => intro hu; exact .agg cs vs hn hcb fun i c u h1 h2 => ih i c u h1 h2 (underL_get hu i c h1)
  | tup cs vs hn hr ih => intro hu; exact .tup cs vs hn fun i c u h1 h2 => ih i c u h1 h2 (underL_get hu i c h1)
  | lstN id h => intro hu; exact .lstN id (hat _ _ (by simpa [V.under] using hu) h)
  | lst id b cap es len h => intro hu; exact .lst id b cap es len (hat _ _ (by simpa [V.under] using hu) h)
  | ptr id off b cap es len h => intro hu; exact .ptr id off b cap es len (hat _ _ (by simpa [V.under] using hu) h)
  | elt id row off b cap es len h => intro hu; exact .elt id row off b cap es len (hat _ _ (by simpa [V.under] using hu) h)
  | ipt cells off b o u hb hc hr => intro _; exact .ipt cells off b o u (hG _ hb) hc fun j t h => (hr j t h).mono (Same.refl _ _) hG
  | fn f cs vs hn hr ih => intro hu; exact .fn f cs vs hn fun i c u h1 h2 => ih i c u h1 h2 (underL_get hu i c h1)
  | ifc t v u h ih => intro hu; exact .ifc t v u (ih hu)
  | junk v => intro _; exact .junk v
theorem leL_get {n : Nat} : ∀ {x y : List V}, leL n x y → x.length = y.length ∧ ∀ (i : Nat) (b : V), y[i]? = some b → ∃ a, x[i]? = some a ∧ leV n a b
  | [], [], _ => ⟨rfl, fun i b h => by simp at h⟩
  | a :: x, b :: y, h => by
    obtain ⟨h1, h2⟩ := leL_get h.2
    refine ⟨by simp [h1], fun i c hc => ?_⟩
    cases i with
    | zero => simp at hc; subst hc; exact ⟨a, rfl, h.1⟩
    | succ i => exact h2 i c (by simpa using hc)
  | [], _ :: _, h => h.elim
  | _ :: _, [], h => h.elim
theorem leH_get {n : Nat} : ∀ {y x : List (Option Row)}, leH n x y → ∀ (i : Nat) (r : Row), y[i]? = some (some r) → (∃ r0, x[i]? = some (some r0) ∧ leRow n r0 r) ∨ (x.length ≤ i ∧ ∃ ty es, r = .list ty es [])
  | [], _, _, i, r, h => by simp at h
  | r' :: y, x, h, i, r, hr => by
    cases i with
    | zero =>
      simp at hr
      subst hr
      have h1 := h.1
      unfold leOne at h1
      cases x with
      | nil =>
        simp only at h1
        unfold Ab.newRow at h1
        split at h1
        · exact .inr ⟨by simp, _, _, rfl⟩
        · exact h1.elim
      | cons z x =>
        cases z with
        | none => exact h1.elim
        | some r0 => exact .inl ⟨r0, rfl, h1⟩
    | succ i =>
      rcases leH_get h.2 i r (by simpa using hr) with ⟨r0, h1, h2⟩ | ⟨h1, h2⟩
      · exact .inl ⟨r0, by cases x <;> first | (simp at h1; done) | simpa using h1, h2⟩
      · exact .inr ⟨by cases x <;> simp at h1 ⊢ <;> omega, h2⟩
theorem Rel.loose {cx : Cx} {s t : St} {a : Act} {w : World} (R : Rel A cx s a w) (h : s.le t) : ∃ cx', Rel A cx' t a w := by
  obtain ⟨h1, h2, h3, h4, h5, h6⟩ := h
  have h6' : s.base ≤ t.heap.length := by simpa using h6
  let cx' : Cx := ⟨fun i => if i < t.heap.length then (if i < s.heap.length then cx.at_ i else some .nil) else none, cx.G⟩
  have at1 : ∀ i B, i < t.heap.length → cx.at_ i = some B → cx'.at_ i = some B := fun i B hi hB => by
    have : i < s.heap.length := by
      rcases Nat.lt_or_ge i s.heap.length with h | h
      · exact h
      · rw [R.hp.dom i h] at hB; cases hB
    show (if i < t.heap.length then (if i < s.heap.length then cx.at_ i else some .nil) else none) = some B
    rw [if_pos hi, if_pos this]; exact hB
  have at2 : ∀ i, s.heap.length ≤ i → i < t.heap.length → cx'.at_ i = some .nil := fun i h1 h2 => by
    show (if i < t.heap.length then (if i < s.heap.length then cx.at_ i else some .nil) else none) = some .nil
    rw [if_pos h2, if_neg (by omega)]
  have at3 : ∀ i B, cx'.at_ i = some B → (i < s.heap.length ∧ cx.at_ i = some B) ∨ B = .nil := fun i B hB => by
    have hB' : (if i < t.heap.length then (if i < s.heap.length then cx.at_ i else some .nil) else none) = some B := hB
    split at hB'
    · split at hB'
      · rename_i h; exact .inl ⟨h, hB'⟩
      · cases hB'; exact .inr rfl
    · cases hB'
  have one : ∀ {x : V} {u : Value} {b : V}, VRep cx w x u → leV s.heap.length x b → b.under t.heap.length = true → VRep cx' w b u := fun {x u b} hx hle hu => by
    cases b with
    | junk => exact .junk u
    | lst id =>
      rcases hle with rfl | ⟨rfl, hid⟩
      · exact hx.cut at1 (fun _ h => h) hu
      · have := inv_flat hx
        subst this
        exact .lstN id (at2 id hid (by simpa [V.under] using hu))
    | _ =>
      have e : x = _ := hle
      subst e
      exact hx.cut at1 (fun _ h => h) hu
  have many : ∀ {x y : List V} {vs : Array Value}, VReps cx w x vs → leL s.heap.length x y → underL t.heap.length y = true → VReps cx' w y vs := fun {x y vs} hx hle hu => by
    obtain ⟨g1, g2⟩ := leL_get hle
    refine ⟨by rw [hx.1, g1], fun i c u q1 q2 => ?_⟩
    obtain ⟨c0, q3, q4⟩ := g2 i c q1
    exact one (hx.2 i c0 u q3 q2) q4 (underL_get hu i c q1)
  have rows : ∀ (i : Nat) r, t.heap[i]? = some (some r) → i < t.heap.length ∧ ((∃ r0, s.heap[i]? = some (some r0) ∧ leRow s.heap.length r0 r ∧ isList r = isList r0) ∨ (s.heap.length ≤ i ∧ ∃ ty es, r = .list ty es [])) := fun i r hr => by
    refine ⟨(List.getElem?_eq_some_iff.1 hr).1, ?_⟩
    rcases leH_get h2 i r hr with ⟨r0, g1, g2⟩ | g
    · exact .inl ⟨r0, g1, g2, by cases r0 <;> cases r <;> first | rfl | exact g2.elim⟩
    · exact .inr g
  refine ⟨cx', ?_⟩
  constructor
  · exact many R.tm h1 h3
  · exact R.df
  · constructor
    · intro i r hr
      obtain ⟨hi, hh⟩ := rows i r hr
      rcases hh with ⟨r0, g1, g2, -⟩ | ⟨g1, ty, es, rfl⟩
      · have hR := R.hp.row i r0 g1
        cases hR with
        | box ty cs b vs hat hbl hn hrr =>
          cases r with
          | list => exact g2.elim
          | box ty' cs' =>
            obtain ⟨rfl, g3⟩ := g2
            have hun := List.all_eq_true.1 h4 _ (List.mem_of_getElem? hr)
            refine .box ty cs' b vs ?_ hbl hn (many hrr g3 hun)
            rw [← (leL_get g3).1]
            exact at1 _ _ hi hat
        | listN ty es hat =>
          cases r with
          | box => exact g2.elim
          | list ty' es' rows' =>
            obtain ⟨rfl, rfl, rfl⟩ := g2
            exact .listN _ _ (at1 _ _ hi hat)
        | list ty es rows b cap vs hat hbl hn hcap hmax hsz hes hrr =>
          cases r with
          | box => exact g2.elim
          | list ty' es' rows' =>
            obtain ⟨rfl, rfl, rfl⟩ := g2
            exact .list _ _ _ b cap vs (at1 _ _ hi hat) hbl hn hcap hmax hsz hes hrr
      · exact .listN _ _ (at2 _ g1 hi)
    · intro i i' r r' b cap es len cap' es' len' q1 q2 q3 q4
      obtain ⟨-, hh⟩ := rows i r q1
      obtain ⟨-, hh'⟩ := rows i' r' q2
      rcases at3 _ _ q3 with ⟨p1, p2⟩ | h
      · rcases at3 _ _ q4 with ⟨p3, p4⟩ | h
        · rcases hh with ⟨r0, g1, -⟩ | ⟨g1, -⟩
          · rcases hh' with ⟨r0', g1', -⟩ | ⟨g1', -⟩
            · exact R.hp.inj _ _ _ _ _ _ _ _ _ _ _ g1 g1' p2 p4
            · omega
          · omega
        · cases h
      · cases h
    · intro i hi
      exact if_neg (by omega)
  · constructor
    · exact R.kp.os
    · exact R.kp.tape
    · exact R.kp.output
    · exact R.kp.size
    · exact R.kp.block
    · intro i r b cap es len q1 q2
      obtain ⟨-, hh⟩ := rows i r q1
      rcases at3 _ _ q2 with ⟨p1, p2⟩ | h
      · rcases hh with ⟨r0, g1, -⟩ | ⟨g1, -⟩
        · exact R.kp.live _ _ _ _ _ _ g1 p2
        · omega
      · cases h
    · exact R.kp.G0
    · exact R.kp.G1
    · exact R.kp.G2
    · intro i B hp
      obtain ⟨q1, q2⟩ := R.kp.pin i B hp
      exact ⟨at1 _ _ (by rw [← R.bs] at q2; omega) q1, q2⟩
    · intro i ty es rows' q1
      obtain ⟨-, hh⟩ := rows i _ q1
      rcases hh with ⟨r0, g1, g2, g3⟩ | ⟨g1, -⟩
      · cases r0 with
        | box => cases g3
        | list => exact R.kp.pinL i _ _ _ g1
      · cases hp : A.pin i with
        | none => rfl
        | some B =>
          have := (R.kp.pin i B hp).2
          have := R.kp.base
          omega
    · rw [← R.bs]; exact h6'
  · rw [h5]; exact R.bs
theorem AW.loose {c : Code} {s t : St} {Q : Ex → St → Prop} (h : AW P A c t Q) (hle : s.le t) : AW P A c s Q := fun cx a w R => by
  obtain ⟨cx', R'⟩ := R.loose hle
  exact h cx' a w R'
theorem wp_loop_n {c : Code} {Q : Exit → Act → World → Prop} {a : Act} {w : World} (I : Nat → Act → World → Prop) (n0 : Nat) (h0 : I n0 a w)
    (round : ∀ n a w, I n a w → c.wp P (Exit.then (fun a' w' => ∃ m, m < n ∧ I m a' w') Q) a w) : (Code.loop c).wp P Q a w := by
  intro b k cs
  have key : ∀ n a w, I n a w → ∃ e a' w', Q e a' w' ∧ Arrives P (lone (b.at a (.code c :: .inLoop c :: k)) cs w) b k cs e a' w' := by
    intro n
    induction n using Nat.strongRecOn with
    | _ n ih =>
      intro a w hI
      obtain ⟨e, a₁, w₁, hq, harr⟩ := round n a w hI b (.inLoop c :: k) cs
      cases e with
      | normal =>
        obtain ⟨m, hlt, hI₁⟩ := hq
        obtain ⟨e₂, a₂, w₂, hq₂, harr₂⟩ := ih m hlt a₁ w₁ hI₁
        exact ⟨e₂, a₂, w₂, hq₂, .of_steps (Steps.trans harr (.one step_inLoop)) harr₂⟩
      | exit id => exact ⟨_, a₁, w₁, hq, .pass (x := .inLoop c) rfl (fun _ _ => .inl (by simp)) harr⟩
      | goto l => exact ⟨_, a₁, w₁, hq, .pass (x := .inLoop c) rfl (fun _ _ => .inl (by simp)) harr⟩
      | ret => exact ⟨_, a₁, w₁, hq, .pass (x := .inLoop c) rfl (fun _ _ => .inl (by simp)) harr⟩
      | panic ch => exact ⟨_, a₁, w₁, hq, .pass (x := .inLoop c) rfl (fun _ _ => .inl (by simp)) harr⟩
      | outgrown => exact ⟨_, a₁, w₁, hq, .pass (x := .inLoop c) rfl (fun _ _ => .inl (by simp)) harr⟩
  obtain ⟨e, a', w', hq, harr⟩ := key n0 a w h0
  exact ⟨e, a', w', hq, .of_steps (.one step_loop) harr⟩
/-- a loop: its heads are told by F -/
theorem AW_loop (hL : LayOk P L) {c : Code} {s : St} {Q : Ex → St → Prop} {Γ : Type} (F : Γ → St) (pre : Γ → Prop) (mu : Γ → Nat) (g0 : Γ) (h0 : pre g0) (hle : s.le (F g0))
    (hstep : ∀ g, pre g → ∀ Q' : Ex → St → Prop, (∀ s' g', pre g' → mu g' < mu g → s'.le (F g') → Q' .normal s') → (∀ s', Q .ret s' → Q' .ret s') → (∀ i s', Q (.exit i) s' → Q' (.exit i) s') → pwp (dom P A) L c (F g) Q') :
    AW P A (.loop c) s Q := fun cx a w R => by
  obtain ⟨cx0, R0⟩ := R.loose hle
  refine wp_loop_n (fun n a w => ∃ g cx, pre g ∧ mu g = n ∧ Rel A cx (F g) a w) (mu g0) ⟨g0, cx0, h0, rfl, R0⟩ ?_
  rintro n a w ⟨g, cx, hg, rfl, R⟩
  have := pwp_sound hL c (F g) (fun e s' => match e with
    | .normal => ∃ g', pre g' ∧ mu g' < mu g ∧ s'.le (F g')
    | e => Q e s') (hstep g hg _ (fun s' g' h1 h2 h3 => ⟨g', h1, h2, h3⟩) (fun s' h => h) (fun i s' h => h)) cx a w R
  refine wp_mono this fun e a w ⟨e', s', cx', h1, h2, h3⟩ => ?_
  cases e with
  | normal =>
    cases e' <;> first | exact h1.elim | skip
    obtain ⟨g', q1, q2, q3⟩ := h2
    obtain ⟨cx2, R2⟩ := h3.loose q3
    exact ⟨mu g', q2, g', cx2, q1, rfl, R2⟩
  | _ => cases e' <;> first | exact h1.elim | exact ⟨_, s', cx', h1, h2, h3⟩
end
end Ab
end Go.Proofs.Ytgcgilcalmefgaa
namespace Go.Proofs.Ytgcgilcalmefgaa
open Go Go.RowKit
set_option linter.unusedVariables false
set_option linter.unusedSimpArgs false
namespace Ab
def resT (s : St) : List ResultVar → Option (List V)
  | [] => some []
  | .tmp t :: r => match s.tmps[t]?, resT s r with
    | some v, some l => some (v :: l)
    | _, _ => none
  | .cell _ _ :: _ => none
/-- what a body hands back -/
def resV (rs : List ResultVar) (s : St) : Option V :=
  match resT s rs with
  | some [v] => some v
  | some l => some (.tup l)
  | none => none
mutual
/-- a value with the lists it names written out -/
def V.frz (hp : List (Option Row)) : V → Option V
  | .t x => some (.t x)
  | .lst id => match hp.getD id none with
    | some (.list _ _ rows) => some (.t (.slc rows))
    | _ => none
  | .agg cs => match frzL hp cs with
    | some l => if l.all V.cellB then some (.agg l) else none
    | none => none
  | .tup cs => match frzL hp cs with
    | some l => some (.tup l)
    | none => none
  | .ipt c o => some (.ipt c o)
  | .fn f cs => match frzL hp cs with
    | some l => some (.fn f l)
    | none => none
  | .ifc t v => match V.frz hp v with
    | some v => some (.ifc t v)
    | none => none
  | _ => none
def frzL (hp : List (Option Row)) : List V → Option (List V)
  | [] => some []
  | v :: r => match V.frz hp v, frzL hp r with
    | some x, some l => some (x :: l)
    | _, _ => none
/-- no memory hangs on it -/
def V.bare : V → Bool
  | .t (.flat _) => true
  | .agg cs => bareL cs
  | .tup cs => bareL cs
  | .ifc _ v => V.bare v
  | .fn _ cs => bareL cs
  | _ => false
def bareL : List V → Bool
  | [] => true
  | v :: r => V.bare v && bareL r
end
/-- a caller's value behind a call that may have moved lists -/
def V.calm (hp : List (Option Row)) : V → V
  | .lst _ => .junk
  | .elt _ _ _ => .junk
  | .ptr id off => match hp.getD id none with
    | some (.list _ _ _) => .junk
    | _ => .ptr id off
  | .t x => .t x
  | .ipt c o => .ipt c o
  | .fn f cs => .fn f (calmL cs)
  | .agg cs => if calmB cs then .agg cs else .junk
  | .tup cs => .tup (calmL cs)
  | _ => .junk
where
  calmL : List V → List V
    | [] => []
    | v :: r => V.calm hp v :: calmL r
  calmB : List V → Bool
    | [] => true
    | .t _ :: r => calmB r
    | _ :: _ => false
section
variable {P : Program} {A : Run} {L : TypeId → Option Lt}
theorem bareL_get : ∀ {l : List V}, bareL l = true → ∀ (i : Nat) (c : V), l[i]? = some c → c.bare = true
  | [], _, i, c, h => by simp at h
  | v :: r, hn, i, c, h => by
    simp only [bareL, Bool.and_eq_true] at hn
    cases i with
    | zero => simp at h; subst h; exact hn.1
    | succ i => exact bareL_get hn.2 i c (by simpa using h)
theorem VRep.of_bare {cx cx' : Cx} {w w' : World} {v : V} {u : Value} (h : VRep cx w v u) : v.bare = true → VRep cx' w' v u := by
  induction h with
  | t x v h =>
    intro hb
    cases h with
    | flat v h => exact .t _ _ (.flat v h)
    | slc => simp [V.bare] at hb
  | agg cs vs hn hcb hr ih => intro hb; exact .agg cs vs hn hcb fun i c u h1 h2 => ih i c u h1 h2 (bareL_get hb i c h1)
  | tup cs vs hn hr ih => intro hb; exact .tup cs vs hn fun i c u h1 h2 => ih i c u h1 h2 (bareL_get hb i c h1)
  | lstN => intro hb; simp [V.bare] at hb
  | lst => intro hb; simp [V.bare] at hb
  | ptr => intro hb; simp [V.bare] at hb
  | elt => intro hb; simp [V.bare] at hb
  | ipt => intro hb; simp [V.bare] at hb
  | fn f cs vs hn hr ih => intro hb; exact .fn f cs vs hn fun i c u h1 h2 => ih i c u h1 h2 (bareL_get hb i c h1)
  | ifc t v u h ih => intro hb; exact .ifc t v u (ih hb)
  | junk => intro hb; simp [V.bare] at hb
theorem frzL_get {hp : List (Option Row)} : ∀ {l m : List V}, frzL hp l = some m → m.length = l.length ∧ ∀ (i : Nat) (c : V), m[i]? = some c → ∃ c0, l[i]? = some c0 ∧ c0.frz hp = some c
  | [], m, h => by simp only [frzL, Option.some.injEq] at h; subst h; exact ⟨rfl, fun i c h => by simp at h⟩
  | v :: r, m, h => by
    simp only [frzL] at h
    split at h
    · rename_i x l hx hl
      cases h
      obtain ⟨h1, h2⟩ := frzL_get hl
      refine ⟨by simp [h1], fun i c hc => ?_⟩
      cases i with
      | zero => simp at hc; subst hc; exact ⟨v, rfl, hx⟩
      | succ i => exact h2 i c (by simpa using hc)
    · cases h
/-- the blocks behind the lists that there are -/
def listBlk (cx : Cx) (heap : List (Option Row)) (b : Nat) : Prop := ∃ (id : Nat) (ty es : Nat) (rows : Rows) (cap es' len : Nat), heap[id]? = some (some (.list ty es rows)) ∧ cx.at_ id = some (.at b cap es' len)
theorem frz_rep {cx : Cx} {heap : List (Option Row)} {w : World} (hH : HRep cx heap w) {v : V} {u : Value} (h : VRep cx w v u) : ∀ {v'}, v.frz heap = some v' → VRep (Cx.none fun b => cx.G b ∨ listBlk cx heap b) w v' u := by
  have hg : ∀ b, cx.G b → (cx.G b ∨ listBlk cx heap b) := fun b h => .inl h
  induction h with
  | t x v h => intro v' e; cases e; exact .t x v (h.mono (Same.refl _ _) hg)
  | agg cs vs hn hcb hr ih =>
    intro v' e
    simp only [V.frz] at e
    split at e
    · rename_i l hl
      split at e
      · rename_i hall
        cases e
        obtain ⟨h1, h2⟩ := frzL_get hl
        refine .agg l vs (by rw [hn, h1]) (fun c hc => List.all_eq_true.1 hall c hc) fun i c u q1 q2 => ?_
        obtain ⟨c0, q3, q4⟩ := h2 i c q1
        exact ih i c0 u q3 q2 q4
      · cases e
    · cases e
  | tup cs vs hn hr ih =>
    intro v' e
    simp only [V.frz] at e
    split at e
    · rename_i l hl
      cases e
      obtain ⟨h1, h2⟩ := frzL_get hl
      refine .tup l vs (by rw [hn, h1]) fun i c u q1 q2 => ?_
      obtain ⟨c0, q3, q4⟩ := h2 i c q1
      exact ih i c0 u q3 q2 q4
    · cases e
  | lstN id h =>
    intro v' e
    simp only [V.frz] at e
    split at e
    · rename_i ty es rows hrow
      cases e
      have hR := hH.row id _ (getD_row hrow)
      cases hR with
      | listN => exact .t _ _ (.slc [] none 0 0 0 0 (fun _ _ => undef) (Nat.zero_le _) (fun _ => rfl) (fun h => absurd rfl h) (fun row h => by cases h) (fun i j t h => by simp at h) (fun i j t h => by simp at h))
      | list ty es rows b cap vs hat => rw [hat] at h; cases h
    · cases e
  | lst id b cap es len h =>
    intro v' e
    simp only [V.frz] at e
    split at e
    · rename_i ty es' rows hrow
      cases e
      have hrow' := getD_row hrow
      have hR := hH.row id _ hrow'
      cases hR with
      | listN ty es hat => rw [hat] at h; cases h
      | list ty es rows b' cap' vs hat hbl hn hcap hmax hsz hes hr =>
        have hh := h
        rw [hat] at h
        cases h
        refine .t _ _ (.slc rows (some ⟨b, 0, none⟩) b 0 es cap (fun i j => vs.getD (i * es + j) undef) hcap (fun h => by cases h) (fun _ => ⟨rfl, .inr ⟨id, _, _, _, _, _, _, hrow', hh⟩⟩) hes (fun i j t ht => ?_) (fun i j t ht => ?_))
        · obtain ⟨u, h1, h2⟩ := hr i j t ht
          rw [cell_of_block hbl, Nat.zero_add, h1]
          congr 1
          rw [Array.getD_eq_getD_getElem?, h1]
          rfl
        · obtain ⟨u, h1, h2⟩ := hr i j t ht
          have : vs.getD (i * es + j) undef = u := by rw [Array.getD_eq_getD_getElem?, h1]; rfl
          rw [this]
          exact h2.mono (Same.refl _ _) hg
    · cases e
  | ptr => intro v' e; cases e
  | elt => intro v' e; cases e
  | ipt cells off b o u hb hc hr => intro v' e; cases e; exact .ipt cells off b o u (.inl hb) hc fun j t h => (hr j t h).mono (Same.refl _ _) hg
  | fn f cs vs hn hr ih =>
    intro v' e
    simp only [V.frz] at e
    split at e
    · rename_i l hl
      cases e
      obtain ⟨h1, h2⟩ := frzL_get hl
      refine .fn f l vs (by rw [hn, h1]) fun i c u q1 q2 => ?_
      obtain ⟨c0, q3, q4⟩ := h2 i c q1
      exact ih i c0 u q3 q2 q4
    · cases e
  | ifc t v u h ih =>
    intro v' e
    simp only [V.frz] at e
    split at e
    · rename_i x hx
      cases e
      exact .ifc t x u (ih hx)
    · cases e
  | junk => intro v' e; cases e
theorem frz_reps {cx : Cx} {heap : List (Option Row)} {w : World} (hH : HRep cx heap w) {cs cs' : List V} {vs : Array Value} (h : VReps cx w cs vs) (e : frzL heap cs = some cs') : VReps (Cx.none fun b => cx.G b ∨ listBlk cx heap b) w cs' vs := by
  obtain ⟨h1, h2⟩ := frzL_get e
  refine ⟨by rw [h.1, h1], fun i c u q1 q2 => ?_⟩
  obtain ⟨c0, q3, q4⟩ := h2 i c q1
  exact frz_rep hH (h.2 i c0 u q3 q2) q4
def resF (tmps : Array Value) : ResultVar → Sem Value
  | .tmp t => pure (tmps.getD t undef)
  | .cell a t => do loadVar t (← asAddr (tmps.getD a undef))
theorem results_eq (fn : Func) (tmps : Array Value) : results fn tmps = (do
  let vs ← fn.results.mapM (resF tmps)
  pure (if h : vs.size = 1 then vs[0] else .tuple vs)) := by
  unfold results
  congr 1
theorem run_results_list {cx : Cx} {w : World} {s : St} {a : Act} (R : VReps cx w s.tmps a.tmps) : ∀ (rs : List ResultVar) (l : List V), resT s rs = some l →
    ∃ us : List Value, (rs.mapM (resF a.tmps)).run P w = .ok us w ∧ us.length = l.length ∧ ∀ (i : Nat) (c : V) (u : Value), l[i]? = some c → us[i]? = some u → VRep cx w c u := by
  intro rs
  induction rs with
  | nil => intro l h; simp only [resT, Option.some.injEq] at h; subst h; exact ⟨[], by simp, rfl, fun i c u h => by simp at h⟩
  | cons x rs ih =>
    intro l h
    cases x with
    | cell b t => simp [resT] at h
    | tmp t =>
      simp only [resT] at h
      split at h
      · rename_i v r hv hr
        cases h
        obtain ⟨us, h1, h2, h3⟩ := ih r hr
        have hlt : t < a.tmps.size := by rw [R.1]; exact (List.getElem?_eq_some_iff.1 hv).1
        refine ⟨a.tmps[t] :: us, ?_, by simp [h2], fun i c u q1 q2 => ?_⟩
        · rw [List.mapM_cons]
          have h0 : (resF a.tmps (.tmp t)).run P w = .ok a.tmps[t] w := by
            simp only [resF, Sem.run_pure, Array.getD_eq_getD_getElem?, Array.getElem?_eq_getElem hlt, Option.getD_some]
          simp only [Sem.run_bind, h0, Sem.run_pure, Result.andThen_ok, h1]
        · cases i with
          | zero => simp at q1 q2; subst q1; subst q2; exact R.2 _ _ _ hv (Array.getElem?_eq_getElem hlt)
          | succ i => exact h3 i c u (by simpa using q1) (by simpa using q2)
      · cases h
theorem run_results {cx : Cx} {w : World} {s : St} {a : Act} {fn : Func} (R : VReps cx w s.tmps a.tmps) {r : V} (h : resV fn.results.toList s = some r) : ∃ u, (results fn a.tmps).run P w = .ok u w ∧ VRep cx w r u := by
  unfold resV at h
  have key : ∀ l, resT s fn.results.toList = some l → ∃ us : List Value, (fn.results.mapM (resF a.tmps)).run P w = .ok us.toArray w ∧ us.length = l.length ∧ ∀ (i : Nat) (c : V) (u : Value), l[i]? = some c → us[i]? = some u → VRep cx w c u := fun l hl => by
    obtain ⟨us, h1, h2, h3⟩ := run_results_list (P := P) R _ _ hl
    refine ⟨us, ?_, h2, h3⟩
    rw [Array.mapM_eq_mapM_toList]
    simp only [Sem.run_map, h1]
    rfl
  split at h
  · rename_i v hl
    cases h
    obtain ⟨us, h1, h2, h3⟩ := key _ hl
    obtain ⟨u, rfl⟩ : ∃ u, us = [u] := by
      cases us with
      | nil => simp at h2
      | cons u t => cases t with
        | nil => exact ⟨u, rfl⟩
        | cons => simp at h2
    refine ⟨u, ?_, h3 0 _ u rfl rfl⟩
    rw [results_eq]
    simp only [Sem.run_bind, h1, Result.andThen_ok, Sem.run_pure]
    rfl
  · rename_i l hne hl
    cases h
    obtain ⟨us, h1, h2, h3⟩ := key _ hl
    refine ⟨.tuple us.toArray, ?_, .tup _ _ (by simpa using h2) fun i c u q1 q2 => h3 i c u q1 (by simpa using q2)⟩
    have hs : us.toArray.size ≠ 1 := by
      intro e
      have : l.length = 1 := by rw [← h2]; simpa using e
      obtain ⟨v, rfl⟩ := List.length_eq_one_iff.1 this
      exact hne v rfl
    rw [results_eq]
    simp only [Sem.run_bind, h1, Result.andThen_ok, Sem.run_pure]
    rw [dif_neg hs]
  · cases h
theorem args_tmps {cx : Cx} {w : World} {args : List V} {cargs : Array Value} (h : VReps cx w args cargs) (n : Nat) : VReps cx w (args ++ List.replicate (n - args.length) .junk) (cargs ++ Array.replicate (n - cargs.size) undef) := by
  refine ⟨by simp [h.1], fun i c u q1 q2 => ?_⟩
  by_cases hi : i < args.length
  · rw [List.getElem?_append_left hi] at q1
    rw [Array.getElem?_append_left (by rw [h.1]; exact hi)] at q2
    exact h.2 i c u q1 q2
  · rw [List.getElem?_append_right (by omega), List.getElem?_replicate] at q1
    split at q1
    · cases q1; exact .junk u
    · cases q1
/-- what the one tells, the other tells too -/
def VLe (v v' : V) : Prop := ∀ (cx : Cx) (w : World) (u : Value), VRep cx w v u → VRep cx w v' u
/-- a function by its body -/
theorem Fun_of (hL : LayOk P L) {f : FuncId} {fn : Func} {c : Code} {args : List V} {v : V} (hcall : Callable P f) (hf : P.funcs[f]? = some fn) (hb : fn.body = some c)
    (h : ∀ (A : Run) (Q : Ex → St → Prop), (∀ s r v', resV fn.results.toList s = some r → r.frz s.heap = some v' → VLe v' v → Q .ret s ∧ Q .normal s) → pwp (dom P A) L c ⟨args ++ List.replicate (fn.ntmps - args.length) .junk, [], 0⟩ Q) : Fun P f args v := by
  refine ⟨hcall, fun G w cargs hG hargs => ?_⟩
  let A : Run := ⟨w, fun _ => False, G, fun _ => none, 0⟩
  have R0 : Rel A (Cx.none G) ⟨args ++ List.replicate (fn.ntmps - args.length) .junk, [], 0⟩ { tmps := cargs ++ Array.replicate (fn.ntmps - cargs.size) undef, defers := [] } w := by
    refine ⟨args_tmps hargs _, rfl, ⟨fun id r h => by simp at h, fun id id' r r' b cap es len cap' es' len' h => by simp at h, fun _ _ => rfl⟩, ?_, rfl⟩
    exact ⟨rfl, rfl, rfl, Nat.le_refl _, fun _ _ _ => rfl, fun id r b cap es len h => by simp at h, fun b h => h, hG, fun b h => .inl h, (fun id B h => by cases h), fun id ty es rows h => rfl, Nat.zero_le _⟩
  refine calls_of_wp hf hb ?_
  have fin : ∀ {s : St} {cx : Cx} {a : Act} {w' : World}, (∃ r v', resV fn.results.toList s = some r ∧ r.frz s.heap = some v' ∧ VLe v' v) → Rel A cx s a w' → ∃ u, (results fn a.tmps).run P w' = .ok u w' ∧ Below w.heap.size w w' ∧ VRep (Cx.none fun b => G b ∨ (w.heap.size ≤ b ∧ b < w'.heap.size)) w' v u := fun {s cx a w'} hr R => by
    obtain ⟨r, v', h1, h2, hle⟩ := hr
    obtain ⟨u, h3, h4⟩ := run_results (P := P) R.tm h1
    refine ⟨u, h3, ⟨R.kp.os, R.kp.tape, R.kp.output, R.kp.size, fun b hb => R.kp.block b hb (fun h => h)⟩, ?_⟩
    refine (hle _ _ _ (frz_rep R.hp h4 h2)).mono (Same.refl _ _) (none_le _ _ fun b hb => ?_)
    rcases hb with hb | ⟨id, ty, es, rows, cap, es', len, g1, g2⟩
    · rcases R.kp.G2 b hb with h | h | h
      · exact .inl h
      · exact h.elim
      · exact .inr ⟨h, R.kp.G1 b hb⟩
    · rcases R.kp.live _ _ _ _ _ _ g1 g2 with h | h
      · exact h.elim
      · exact .inr ⟨h, (R.hp.live_lt g1 g2).1⟩
  have key := pwp_sound hL c _ (fun e s => (e = .ret ∨ e = .normal) ∧ ∃ r v', resV fn.results.toList s = some r ∧ r.frz s.heap = some v' ∧ VLe v' v) (h A _ fun s r v' h1 h2 h3 => ⟨⟨.inl rfl, r, v', h1, h2, h3⟩, ⟨.inr rfl, r, v', h1, h2, h3⟩⟩) _ _ _ R0
  refine wp_mono key fun e a w' ⟨e', s', cx', h1, ⟨h2, h3⟩, h4⟩ => ?_
  obtain ⟨u, g1, g2, g3⟩ := fin h3 h4
  rcases h2 with rfl | rfl
  · cases e <;> first | exact h1.elim | exact ⟨h4.df, u, g1, u, rfl, g2, g3⟩
  · cases e <;> first | exact h1.elim | exact ⟨h4.df, u, g1, u, rfl, g2, g3⟩
end
end Ab
end Go.Proofs.Ytgcgilcalmefgaa
namespace Go.Proofs.Ytgcgilcalmefgaa
open Go Go.RowKit
set_option linter.unusedVariables false
set_option linter.unusedSimpArgs false
namespace Ab
section
variable {P : Program} {A : Run} {L : TypeId → Option Lt}
/-- a call that computes, of values whose lists are written out; what it hands back has no memory -/
theorem call_bare {f : FuncId} {args args' : List V} {s : St} {v : V} {K : V → St → Prop} (hF : Fun P f args' v) (he : frzL s.heap args = some args') (hb : v.bare = true) (hK : K v s) : CallA P A f args s K := by
  refine ⟨hF.1, fun cx a w cargs R hargs => ?_⟩
  have hG : ∀ b, (cx.G b ∨ listBlk cx s.heap b) → b < w.heap.size := fun b h => by
    rcases h with h | ⟨id, ty, es, rows, cap, es', len, g1, g2⟩
    · exact R.kp.G1 b h
    · exact (R.hp.live_lt g1 g2).1
  refine (hF.2 _ w cargs hG (frz_reps R.hp hargs he)).mono ?_
  rintro e w' ⟨u, rfl, hbl, hrep⟩
  refine ⟨u, v, s, cx, rfl, hK, hrep.of_bare hb, ?_⟩
  have h0 : cx.at_ s.heap.length = none := R.hp.dom _ (Nat.le_refl _)
  have X : Res cx w s.heap.length none cx w' v u := ⟨hbl, fun _ _ => rfl, fun _ => rfl, fun _ h => h, fun _ h => .inl h, hrep.of_bare hb, fun r e => by cases e⟩
  have := R.step X h0 none s.heap (fun id r hr => by
    have hlt : id < s.heap.length := (List.getElem?_eq_some_iff.1 hr).1
    exact .inl ⟨by omega, hr⟩) (Nat.le_refl _) (fun h => absurd rfl h)
  exact this
/-- a call that computes, of closed values -/
theorem call_fun {f : FuncId} {args : List V} {s : St} {v : V} {K : V → St → Prop} (hF : Fun P f args v) (hc : args.all V.closedB = true) (hK : K v s) : CallA P A f args s K := by
  refine ⟨hF.1, fun cx a w cargs R hargs => ?_⟩
  refine (hF.2 cx.G w cargs R.kp.G1 (closed_reps hargs hc)).mono ?_
  rintro e w' ⟨u, rfl, hbl, hrep⟩
  have h0 : cx.at_ s.heap.length = none := R.hp.dom _ (Nat.le_refl _)
  let cx' : Cx := ⟨cx.at_, fun b => cx.G b ∨ (w.heap.size ≤ b ∧ b < w'.heap.size)⟩
  have hv : VRep cx' w' v u := hrep.mono (Same.refl _ _) (none_le _ _ fun b h => h)
  have X : Res cx w s.heap.length none cx' w' v u := ⟨hbl, fun _ _ => rfl, fun _ => rfl, fun b h => .inl h, fun b h => h, hv, fun r e => by cases e⟩
  have := R.step X h0 none s.heap (fun id r hr => by
    have hlt : id < s.heap.length := (List.getElem?_eq_some_iff.1 hr).1
    exact .inl ⟨by omega, hr⟩) (Nat.le_refl _) (fun h => absurd rfl h)
  exact ⟨u, v, s, cx', rfl, hK, hv, this⟩
theorem calmL_map (hp : List (Option Row)) : ∀ l : List V, V.calm.calmL hp l = l.map (V.calm hp)
  | [] => rfl
  | v :: r => by rw [V.calm.calmL, calmL_map hp r]; rfl
theorem calmB_get : ∀ {l : List V}, V.calm.calmB l = true → ∀ (i : Nat) (c : V), l[i]? = some c → ∃ x, c = .t x
  | [], _, i, c, h => by simp at h
  | v :: r, hn, i, c, h => by
    cases v with
    | t x =>
      cases i with
      | zero => simp at h; subst h; exact ⟨x, rfl⟩
      | succ i => exact calmB_get (by simpa [V.calm.calmB] using hn) i c (by simpa using h)
    | _ => simp [V.calm.calmB] at hn
theorem VRep.calm {cx cx' : Cx} {w w' : World} {heap : List (Option Row)} {v : V} {u : Value} (h : VRep cx w v u) (hs : Same cx.G w w') (hG : ∀ b, cx.G b → cx'.G b)
    (hat : ∀ id B, (∀ ty es rows, heap[id]? ≠ some (some (.list ty es rows))) → cx.at_ id = some B → cx'.at_ id = some B) : VRep cx' w' (v.calm heap) u := by
  induction h with
  | t x v h => exact .t x v (h.mono hs hG)
  | agg cs vs hn hcb hr ih =>
    rw [V.calm]
    split
    · rename_i hb
      refine .agg cs vs hn hcb fun i c u h1 h2 => ?_
      obtain ⟨x, rfl⟩ := calmB_get hb i c h1
      exact ih i _ u h1 h2
    · exact .junk _
  | tup cs vs hn hr ih =>
    rw [V.calm, calmL_map]
    refine .tup _ vs (by simpa using hn) fun i c u h1 h2 => ?_
    rw [List.getElem?_map] at h1
    obtain ⟨c', hc', rfl⟩ := Option.map_eq_some_iff.1 h1
    exact ih i c' u hc' h2
  | lstN => exact .junk _
  | lst => exact .junk _
  | elt => exact .junk _
  | ptr id off b cap es len h =>
    rw [V.calm]
    split
    · exact .junk _
    · rename_i hno
      refine .ptr id off b cap es len (hat id _ (fun ty es rows e => ?_) h)
      exact hno ty es rows (by rw [List.getD_eq_getElem?_getD, e]; rfl)
  | ipt cells off b o u hb hc hr => exact .ipt cells off b o u (hG _ hb) (fun j t h => by rw [hs.cell hb]; exact hc j t h) (fun j t h => (hr j t h).mono hs hG)
  | fn f cs vs hn hr ih =>
    rw [V.calm, calmL_map]
    refine .fn f _ vs (by simpa using hn) fun i c u h1 h2 => ?_
    rw [List.getElem?_map] at h1
    obtain ⟨c', hc', rfl⟩ := Option.map_eq_some_iff.1 h1
    exact ih i c' u hc' h2
  | ifc t v u h ih => exact .junk _
  | junk v => exact .junk v
/-- a call met by its body, in the caller's memory -/
theorem call_body (hL : LayOk P L) {f : FuncId} {fn : Func} {c : Code} {args : List V} {s : St} {K : V → St → Prop} (hcall : Callable P f) (hf : P.funcs[f]? = some fn) (hb : fn.body = some c)
    (h : ∀ (A' : Run) (Q : Ex → St → Prop), (∀ s' r, resV fn.results.toList s' = some r → K r ⟨s.tmps.map (V.calm s.heap), s'.heap, s.base⟩ → Q .ret s' ∧ Q .normal s') →
      pwp (dom P A') L c ⟨args ++ List.replicate (fn.ntmps - args.length) .junk, s.heap, s.heap.length⟩ Q) : CallA P A f args s K := by
  refine ⟨hcall, fun cx a w cargs R hargs => ?_⟩
  let live : Nat → Prop := fun b => ∃ (id : Nat) (r : Row) (cap es len : Nat), s.heap[id]? = some (some r) ∧ cx.at_ id = some (.at b cap es len)
  let pin : Nat → Option Blk := fun id => match s.heap.getD id none with
    | some (.list _ _ _) => none
    | _ => if id < s.heap.length then cx.at_ id else none
  have pin1 : ∀ id B, pin id = some B → cx.at_ id = some B ∧ id < s.heap.length := fun id B hB => by
    have hB' : (match s.heap.getD id none with
      | some (.list _ _ _) => none
      | _ => if id < s.heap.length then cx.at_ id else none) = some B := hB
    split at hB'
    · cases hB'
    · split at hB'
      · rename_i hlt; exact ⟨hB', hlt⟩
      · cases hB'
  have pin2 : ∀ id B, (∀ ty es rows, s.heap[id]? ≠ some (some (.list ty es rows))) → cx.at_ id = some B → pin id = some B := fun id B hno hat => by
    have hlt : id < s.heap.length := by
      rcases Nat.lt_or_ge id s.heap.length with h | h
      · exact h
      · rw [R.hp.dom id h] at hat; cases hat
    show (match s.heap.getD id none with
      | some (.list _ _ _) => none
      | _ => if id < s.heap.length then cx.at_ id else none) = some B
    split
    · rename_i ty es rows hr
      exact absurd (getD_row hr) (hno ty es rows)
    · rw [if_pos hlt]; exact hat
  let A' : Run := ⟨w, live, cx.G, pin, s.heap.length⟩
  have R0 : Rel A' cx ⟨args ++ List.replicate (fn.ntmps - args.length) .junk, s.heap, s.heap.length⟩ { tmps := cargs ++ Array.replicate (fn.ntmps - cargs.size) undef, defers := [] } w := by
    refine ⟨args_tmps hargs _, rfl, R.hp, ?_, rfl⟩
    refine ⟨rfl, rfl, rfl, Nat.le_refl _, fun _ _ _ => rfl, fun id r b cap es len h1 h2 => .inl ⟨id, r, cap, es, len, h1, h2⟩, fun b h => h, R.kp.G1, fun b h => .inl h, pin1, fun id ty es rows hr => ?_, Nat.le_refl _⟩
    show (match s.heap.getD id none with
      | some (.list _ _ _) => none
      | _ => if id < s.heap.length then cx.at_ id else none) = none
    rw [List.getD_eq_getElem?_getD, hr]
    rfl
  refine calls_of_wp hf hb ?_
  have live1 : ∀ b, live b → A.M b ∨ A.w.heap.size ≤ b := fun b ⟨id, r, cap, es, len, h1, h2⟩ => R.kp.live id r b cap es len h1 h2
  have live2 : ∀ b, live b → ¬ cx.G b := fun b ⟨id, r, cap, es, len, h1, h2⟩ => (R.hp.live_lt h1 h2).2
  have fin : ∀ {s' : St} {cx' : Cx} {a' : Act} {w' : World}, (∃ r, resV fn.results.toList s' = some r ∧ K r ⟨s.tmps.map (V.calm s.heap), s'.heap, s.base⟩) → Rel A' cx' s' a' w' →
      ∃ u, (results fn a'.tmps).run P w' = .ok u w' ∧ ∃ u' v s2 cx2, Ending.returned u = .returned u' ∧ K v s2 ∧ VRep cx2 w' v u' ∧ Rel A cx2 s2 a w' := fun {s' cx' a' w'} hr R' => by
    obtain ⟨r, h1, h2⟩ := hr
    obtain ⟨u, h3, h4⟩ := run_results (P := P) R'.tm h1
    have hsame : Same cx.G w w' := fun b hb => R'.kp.block b (R.kp.G1 b hb) (fun hl => live2 b hl hb)
    refine ⟨u, h3, u, r, _, cx', rfl, h2, h4, ?_⟩
    constructor
    · refine ⟨by simpa using R.tm.1, fun i c u q1 q2 => ?_⟩
      simp only [List.getElem?_map] at q1
      obtain ⟨c', hc', rfl⟩ := Option.map_eq_some_iff.1 q1
      exact (R.tm.2 i c' u hc' q2).calm hsame R'.kp.G0 fun id B hno hat => (R'.kp.pin id B (pin2 id B hno hat)).1
    · exact R.df
    · exact R'.hp
    · constructor
      · rw [R'.kp.os]; exact R.kp.os
      · rw [R'.kp.tape]; exact R.kp.tape
      · rw [R'.kp.output]; exact R.kp.output
      · exact Nat.le_trans R.kp.size R'.kp.size
      · intro b hb hM
        have hnl : ¬ live b := fun hl => by
          rcases live1 b hl with h | h
          · exact hM h
          · omega
        rw [R'.kp.block b (Nat.lt_of_lt_of_le hb R.kp.size) hnl]
        exact R.kp.block b hb hM
      · intro id r b cap es len q1 q2
        rcases R'.kp.live id r b cap es len q1 q2 with h | h
        · exact live1 b h
        · exact .inr (Nat.le_trans R.kp.size h)
      · exact fun b h => R'.kp.G0 b (R.kp.G0 b h)
      · exact R'.kp.G1
      · intro b h
        rcases R'.kp.G2 b h with h | h | h
        · exact R.kp.G2 b h
        · exact .inr (live1 b h)
        · exact .inr (.inr (Nat.le_trans R.kp.size h))
      · intro id B hp
        obtain ⟨g1, g2⟩ := R.kp.pin id B hp
        refine ⟨(R'.kp.pin id B (pin2 id B (fun ty es rows e => ?_) g1)).1, g2⟩
        rw [R.kp.pinL id ty es rows e] at hp
        cases hp
      · intro id ty es rows q1
        cases hp : A.pin id with
        | none => rfl
        | some B =>
          obtain ⟨g1, g2⟩ := R.kp.pin id B hp
          have : pin id = some B := pin2 id B (fun ty es rows e => by rw [R.kp.pinL id ty es rows e] at hp; cases hp) g1
          have e2 : pin id = none := R'.kp.pinL id ty es rows q1
          rw [e2] at this
          cases this
      · exact Nat.le_trans R.kp.base R'.kp.base
    · exact R.bs
  have key := pwp_sound hL c _ (fun e s' => (e = .ret ∨ e = .normal) ∧ ∃ r, resV fn.results.toList s' = some r ∧ K r ⟨s.tmps.map (V.calm s.heap), s'.heap, s.base⟩) (h A' _ fun s' r h1 h2 => ⟨⟨.inl rfl, r, h1, h2⟩, ⟨.inr rfl, r, h1, h2⟩⟩) _ _ _ R0
  refine wp_mono key fun e a' w' ⟨e', s', cx', h1, ⟨h2, h3⟩, h4⟩ => ?_
  obtain ⟨u, g1, u', v, s2, cx2, g2, g3⟩ := fin h3 h4
  cases g2
  rcases h2 with rfl | rfl
  · cases e <;> first | exact h1.elim | exact ⟨h4.df, u, g1, u, v, s2, cx2, rfl, g3⟩
  · cases e <;> first | exact h1.elim | exact ⟨h4.df, u, g1, u, v, s2, cx2, rfl, g3⟩
end
end Ab
end Go.Proofs.Ytgcgilcalmefgaa
namespace Go.Proofs.Ytgcgilcalmefgaa
open Go Go.RowKit
set_option linter.unusedVariables false
set_option linter.unusedSimpArgs false
namespace Ab
section
variable {E : Env} {L : TypeId → Option Lt}
theorem evC_val {o : Oper} {ρ : Operand → V} {hp : List (Option Row)} {aid : Nat} {k : V → Option Row → Prop} (hE : ∃ P A, E = dom P A) (h : evC E L o ρ hp aid k) :
    ∃ v r, k v r ∧ ∀ k2 : V → Option Row → Prop, k2 v r → evC E L o ρ hp aid k2 := by
  obtain ⟨P, A, rfl⟩ := hE
  by_cases hpick : ∃ c a b, o.op = .pick c a b
  · obtain ⟨c, a, b, hop⟩ := hpick
    simp only [evC, hop] at h
    split at h
    · rename_i x hx
      cases x with
      | true => exact ⟨_, _, h.1 rfl, fun k2 h2 => by simp only [evC, hop, hx]; exact ⟨fun _ => h2, (fun e => by cases e)⟩⟩
      | false => exact ⟨_, _, h.2 rfl, fun k2 h2 => by simp only [evC, hop, hx]; exact ⟨(fun e => by cases e), fun _ => h2⟩⟩
    · exact h.elim
  unfold evC at h
  repeat' split at h
  all_goals first
    | exact h.elim
    | exact absurd ⟨_, _, _, ‹o.op = Op.pick _ _ _›⟩ hpick
    | (refine ⟨_, _, h, fun k2 h2 => ?_⟩; unfold evC; simp_all; done)
    | (obtain ⟨r, h0, h1, h⟩ := h; split at h <;> first | exact h.elim | (refine ⟨_, _, h, fun k2 h2 => ?_⟩; unfold evC; simp only [*]; refine ⟨r, h0, h1, ?_⟩; simp_all; done))
    | (obtain ⟨r, h0, h1, h⟩ := h; exact h.elim)
    | (obtain ⟨r, h0, h1, h⟩ := h; refine ⟨_, _, h, fun k2 h2 => ?_⟩; unfold evC; simp only [*]; exact ⟨r, h0, h1, by simp_all⟩)
    | (rename_i b hb
       cases b
       · refine ⟨_, _, h.2 rfl, fun k2 h2 => ?_⟩
         unfold evC
         simp only [*]
         exact ⟨(fun e => by cases e), fun _ => h2⟩
       · refine ⟨_, _, h.1 rfl, fun k2 h2 => ?_⟩
         unfold evC
         simp only [*]
         exact ⟨fun _ => h2, (fun e => by cases e)⟩)
    | (obtain ⟨h0, h⟩ := h; refine ⟨_, _, h, fun k2 h2 => ?_⟩; unfold evC; simp_all; done)
    | (obtain ⟨h0, h1, h⟩ := h; refine ⟨_, _, h, fun k2 h2 => ?_⟩; unfold evC; simp_all; done)
    | (obtain ⟨h0, v, h1, h⟩ := h; refine ⟨_, _, h, fun k2 h2 => ?_⟩; unfold evC; simp only [*]; exact ⟨h0, v, h1, h2⟩)
    | (obtain ⟨v, h, h1⟩ := h; refine ⟨_, _, h, fun k2 h2 => ?_⟩; unfold evC; simp only [*]; exact ⟨v, h2, h1⟩)
    | skip
theorem map_same {α β : Type} {f g : α → β} {l : List α} (h : ∀ x ∈ l, f x = g x) : l.map f = l.map g := List.map_congr_left h
theorem numV_congr {ρ ρ' : Operand → V} {z : Option Operand} {d : Int} (h : ∀ x ∈ z.toList, ρ x = ρ' x) : numV ρ z d = numV ρ' z d := by
  cases z with
  | none => rfl
  | some z => simp only [numV]; rw [h z (by simp)]
theorem evC_congr {o : Oper} {ρ ρ' : Operand → V} {hp : List (Option Row)} {aid : Nat} {k : V → Option Row → Prop} (h : ∀ x ∈ o.op.operands, ρ x = ρ' x) : evC E L o ρ hp aid k = evC E L o ρ' hp aid k := by
  have pairs : ∀ ps : Array (Nat × Operand), (∀ x ∈ (ps.toList.map (·.2)), ρ x = ρ' x) → ps.toList.map (fun p => (p.1, ρ p.2)) = ps.toList.map (fun p => (p.1, ρ' p.2)) := fun ps hp =>
    map_same fun p hm => by rw [hp p.2 (List.mem_map.2 ⟨p, hm, rfl⟩)]
  cases hop : o.op with
  | build t ps =>
    rw [hop] at h
    simp only [evC, hop]
    rw [pairs ps (fun x hx => h x (by simp only [Op.operands]; exact Array.mem_def.2 (by simpa using hx)))]
  | buildSlice t n ps =>
    rw [hop] at h
    simp only [evC, hop]
    rw [pairs ps (fun x hx => h x (by simp only [Op.operands]; exact Array.mem_def.2 (by simpa using hx)))]
  | makeFunc fn first caps =>
    rw [hop] at h
    simp only [evC, hop]
    rw [map_same (f := ρ) (g := ρ') (l := caps.toList) fun x hx => h x (by simp only [Op.operands]; exact Array.mem_append.2 (.inr (Array.mem_def.2 hx)))]
  | slice t x lo hi mx =>
    rw [hop] at h
    have h1 : ρ x = ρ' x := h x (by simp [Op.operands])
    have h2 : ∀ d, numV ρ lo d = numV ρ' lo d := fun d => numV_congr fun z hz => h z (by simp only [Op.operands]; simp at hz ⊢; subst hz; simp)
    have h3 : ∀ d, numV ρ hi d = numV ρ' hi d := fun d => numV_congr fun z hz => h z (by simp only [Op.operands]; simp at hz ⊢; subst hz; simp)
    simp only [evC, hop, h1, h2, h3]
  | call c =>
    rw [hop] at h
    have h1 : c.args.toList.map ρ = c.args.toList.map ρ' := map_same fun x hx => h x (by simp only [Op.operands, Call.operands]; exact Array.mem_append.2 (.inr (Array.mem_def.2 hx)))
    cases hc : c.callee with
    | value f =>
      have h2 : ρ f = ρ' f := h f (by simp [Op.operands, Call.operands, hc])
      simp only [evC, hop, hc, h1, h2]
    | invoke r m => simp only [evC, hop, hc]
    | builtin b =>
      cases b with
      | len =>
        simp only [evC, hop, hc]
        split
        · rename_i t x ht hx
          have h2 : ρ x = ρ' x := h x (by simp only [Op.operands, Call.operands]; exact Array.mem_append.2 (.inr (Array.mem_def.2 (by rw [hx]; simp))))
          rw [h2]
        · rfl
      | _ => simp only [evC, hop, hc]
  | move x => rw [hop] at h; simp only [evC, hop]; rw [h x (by simp [Op.operands])]
  | assign x => rw [hop] at h; simp only [evC, hop]; rw [h x (by simp [Op.operands])]
  | pick c x y => rw [hop] at h; simp only [evC, hop]; rw [h c (by simp [Op.operands]), h x (by simp [Op.operands]), h y (by simp [Op.operands])]
  | box t x => rw [hop] at h; simp only [evC, hop]; rw [h x (by simp [Op.operands])]
  | makeInterface t x => rw [hop] at h; simp only [evC, hop]; rw [h x (by simp [Op.operands])]
  | typeAssert x t u ok => rw [hop] at h; simp only [evC, hop]; rw [h x (by simp [Op.operands])]
  | load t x => rw [hop] at h; simp only [evC, hop]; rw [h x (by simp [Op.operands])]
  | nilCheck x => rw [hop] at h; simp only [evC, hop]; rw [h x (by simp [Op.operands])]
  | binOp op t x y u => rw [hop] at h; simp only [evC, hop]; rw [h x (by simp [Op.operands]), h y (by simp [Op.operands])]
  | unOp op t x => rw [hop] at h; simp only [evC, hop]; rw [h x (by simp [Op.operands])]
  | convert s d x => rw [hop] at h; simp only [evC, hop]; rw [h x (by simp [Op.operands])]
  | fieldAddr t x f => rw [hop] at h; simp only [evC, hop]; rw [h x (by simp [Op.operands])]
  | field t x f => rw [hop] at h; simp only [evC, hop]; rw [h x (by simp [Op.operands])]
  | indexAddr t x i => rw [hop] at h; simp only [evC, hop]; rw [h x (by simp [Op.operands]), h i (by simp [Op.operands])]
  | index t x i => rw [hop] at h; simp only [evC, hop]; rw [h x (by simp [Op.operands]), h i (by simp [Op.operands])]
  | extract x i => rw [hop] at h; simp only [evC, hop]; rw [h x (by simp [Op.operands])]
  | makeSlice t l c => rw [hop] at h; simp only [evC, hop]; rw [h l (by simp [Op.operands]), h c (by simp [Op.operands])]
  | _ => simp only [evC, hop]
end
section
variable {P : Program} {A : Run} {L : TypeId → Option Lt} {all : List Oper} {base n : Nat}
/-- operation number i of a region, told by its value and row -/
def opV (E : Env) (L : TypeId → Option Lt) (all : List Oper) (base i : Nat) (s : St) (k : V → Option Row → Prop) : Prop :=
  match all[i]? with
  | none => False
  | some o => guarded E all o s (fun _ => evC E L o s.ev (s.heap.take base) (base + i) k) (fun _ => k (.tup []) none)
def St.add (s : St) (d : Option Tmp) (v : V) (aid : Nat) (r : Option Row) : St := (s.put d v).lay aid r
theorem guarded_val {o : Oper} {s : St} {p q : Unit → Prop} (h : guarded (dom P A) all o s p q) : (p () ∧ ∀ p' q' : Unit → Prop, p' () → guarded (dom P A) all o s p' q') ∨ (q () ∧ ∀ p' q' : Unit → Prop, q' () → guarded (dom P A) all o s p' q') := by
  unfold guarded at h
  split at h
  · rename_i hg
    exact .inl ⟨h, fun p' q' hp => by unfold guarded; rw [hg]; exact hp⟩
  · rename_i j want hg
    split at h
    case h_2 => exact h.elim
    rename_i t ht
    split at h
    · rename_i b hb
      cases want <;> cases b
      · exact .inl ⟨h.2 rfl, fun p' q' hp => by unfold guarded; rw [hg]; simp only [ht, hb]; exact ⟨(fun e => by cases e), fun _ => hp⟩⟩
      · exact .inr ⟨h.1 rfl, fun p' q' hp => by unfold guarded; rw [hg]; simp only [ht, hb]; exact ⟨fun _ => hp, (fun e => by cases e)⟩⟩
      · exact .inr ⟨h.2 rfl, fun p' q' hp => by unfold guarded; rw [hg]; simp only [ht, hb]; exact ⟨(fun e => by cases e), fun _ => hp⟩⟩
      · exact .inl ⟨h.1 rfl, fun p' q' hp => by unfold guarded; rw [hg]; simp only [ht, hb]; exact ⟨fun _ => hp, (fun e => by cases e)⟩⟩
    · rename_i cs hb
      exact .inr ⟨h, fun p' q' hp => by unfold guarded; rw [hg]; simp only [ht, hb]; exact hp⟩
    · exact h.elim
theorem guarded_congr {E : Env} {o : Oper} {s s' : St} {p q : Unit → Prop} (h : ∀ t, t ∈ o.looksAt all.toArray → s'.tmps.getD t .junk = s.tmps.getD t .junk)   : guarded E all o s p q = guarded E all o s' p q := by
  unfold guarded
  cases hg : o.guard with
  | none => rfl
  | some g =>
    obtain ⟨j, want⟩ := g
    simp only
    cases hs : gslot all j with
    | none => rfl
    | some t =>
      simp only
      rw [h t (by
        unfold Oper.looksAt
        refine List.mem_append.2 (.inr ?_)
        simp only [hg]
        unfold gslot at hs
        rw [List.getElem?_toArray]
        split at hs
        · rename_i oj hj
          simp [hj, hs]
        · cases hs)]
theorem opV_val {i : Nat} {s : St} {k : V → Option Row → Prop} (h : opV (dom P A) L all base i s k) : ∃ v r, k v r ∧ ∀ k2 : V → Option Row → Prop, k2 v r → opV (dom P A) L all base i s k2 := by
  unfold opV at h
  split at h
  · exact h.elim
  · rename_i o ho
    rcases guarded_val h with ⟨h1, h2⟩ | ⟨h1, h2⟩
    · obtain ⟨v, r, h3, h4⟩ := evC_val ⟨P, A, rfl⟩ h1
      refine ⟨v, r, h3, fun k2 hk => ?_⟩
      unfold opV
      rw [ho]
      exact h2 _ _ (h4 k2 hk)
    · refine ⟨_, _, h1, fun k2 hk => ?_⟩
      unfold opV
      rw [ho]
      exact h2 _ _ hk
theorem opV_congr {i : Nat} {o : Oper} {s s' : St} {k : V → Option Row → Prop} (ho : all[i]? = some o) (h : ∀ t, t ∈ o.looksAt all.toArray → s'.tmps.getD t .junk = s.tmps.getD t .junk) (hh : s'.heap.take base = s.heap.take base) :
    opV (dom P A) L all base i s k = opV (dom P A) L all base i s' k := by
  unfold opV
  rw [ho]
  simp only
  rw [guarded_congr h, hh, evC_congr (ρ := s.ev) (ρ' := s'.ev) fun x hx => ?_]
  cases x with
  | tmp t =>
    exact (h t (by
      unfold Oper.looksAt
      exact List.mem_append.2 (.inl (List.mem_filterMap.2 ⟨.tmp t, by simpa using hx, rfl⟩)))).symm
  | const v => rfl
  | global g => rfl
  | func f => rfl
theorem add_look {s : St} {d : Option Tmp} {v : V} {aid : Nat} {r : Option Row} {t : Tmp} (h : d ≠ some t) : (s.add d v aid r).tmps.getD t .junk = s.tmps.getD t .junk := by
  unfold St.add
  cases d with
  | none => cases r <;> rfl
  | some d =>
    have hne : d ≠ t := fun e => h (by rw [e])
    cases r <;> simp only [St.lay, St.put, List.getD_eq_getElem?_getD, List.getElem?_set_ne hne]
theorem add_heap {s : St} {d : Option Tmp} {v : V} {i : Nat} {r : Option Row} : (s.add d v (base + i) r).heap.take base = s.heap.take base := by
  unfold St.add
  cases r with
  | none => simp only [St.lay, put_heap]
  | some r =>
    simp only [St.lay, put_heap]
    rw [List.take_set, List.set_eq_of_length_le (by rw [List.length_take]; omega)]
theorem add_len {s : St} {d : Option Tmp} {v : V} {aid : Nat} {r : Option Row} : (s.add d v aid r).heap.length = s.heap.length := by
  unfold St.add
  cases r <;> simp [St.lay, put_heap]
theorem add_comm' {s : St} {d d' : Option Tmp} {v v' : V} {i j : Nat} {r r' : Option Row} (hd : ∀ t, d = some t → d' ≠ some t) (hij : i ≠ j) :
    (s.add d v (base + i) r).add d' v' (base + j) r' = (s.add d' v' (base + j) r').add d v (base + i) r := by
  have hne : base + i ≠ base + j := by omega
  unfold St.add
  cases d <;> cases d' <;> cases r <;> cases r' <;> simp only [St.lay, St.put]
  all_goals first
    | rfl
    | (rw [List.set_comm _ _ hne]; done)
    | (rename_i a b; rw [List.set_comm _ _ (fun e => hd a rfl (by rw [e]))]; done)
    | (rename_i a b _; rw [List.set_comm _ _ (fun e => hd a rfl (by rw [e]))]; done)
    | (rename_i a b _ _; rw [List.set_comm _ _ (fun e => hd a rfl (by rw [e])), List.set_comm _ _ hne]; done)
    | skip
def dstOf (all : List Oper) (i : Nat) : Option Tmp := gslot all i
/-- the operations, in whichever order: each is one of the first n; then Lq -/
def AnyD (E : Env) (L : TypeId → Option Lt) (md : Region.Mode) (all : List Oper) (base n : Nat) (Lq : Array Bool → St → Prop) : Nat → Array Bool → St → Prop
  | 0, l, s => Lq l s
  | f + 1, l, s => Region.ready md all.toArray l ≠ [] ∧ ∀ i ∈ Region.ready md all.toArray l, i < n ∧ opV E L all base i s fun v r => AnyD E L md all base n Lq f (l.setIfInBounds i true) (s.add (dstOf all i) v (base + i) r)
theorem AnyD.first {md : Region.Mode} {Lq : Array Bool → St → Prop} {i : Nat} {oi : Oper} {v : V} {r : Option Row} (hi : all[i]? = some oi) (hns : Region.noSelect all.toArray = true) (hin : i < n)
    (hwait : ∀ l : Array Bool, HeadInv md all.toArray n l → l.getD i true = false → ∀ j ∈ Region.ready md all.toArray l, j < n) (hL : ∀ l s, Lq l s → ∀ j ∈ Region.ready md all.toArray l, n ≤ j) :
    ∀ (f : Nat) (l : Array Bool) (s : St), HeadInv md all.toArray n l →
      (∀ j oj, all[j]? = some oj → j ≠ i → l.getD j true = false → (∀ e ∈ oj.after, Region.binds md e = true → e.on ≠ i) → oi.apart all.toArray oj = true) → i ∈ Region.ready md all.toArray l →
      (∀ k2 : V → Option Row → Prop, k2 v r → opV (dom P A) L all base i s k2) →
      AnyD (dom P A) L md all base n Lq f (l.setIfInBounds i true) (s.add (dstOf all i) v (base + i) r) → AnyD (dom P A) L md all base n Lq (f + 1) l s := by
  have hdi : dstOf all i = oi.dst := by unfold dstOf gslot; rw [hi]
  intro f
  induction f with
  | zero =>
    intro l s inv free hr hy H
    have un := (mem_ready.1 hr).1
    refine ⟨fun e => by simp [e] at hr, fun j hj => ?_⟩
    have jn := hwait l inv un j hj
    refine ⟨jn, ?_⟩
    by_cases e : j = i
    · subst e; exact hy _ H
    · exact absurd (hL _ _ H j (ready_mono hj e)) (by omega)
  | succ f ih =>
    intro l s inv free hr hy H
    have un := (mem_ready.1 hr).1
    refine ⟨fun e => by simp [e] at hr, fun j hj => ?_⟩
    have jn := hwait l inv un j hj
    refine ⟨jn, ?_⟩
    by_cases e : j = i
    · subst e; exact hy _ H
    · obtain ⟨unj, oj, hoj, done⟩ := mem_ready.1 hj
      rw [List.getElem?_toArray] at hoj
      have no : ∀ e ∈ oj.after, Region.binds md e = true → e.on ≠ i := fun e he hb h => by
        have h1 := done e he hb
        rw [h, getD_both un] at h1
        cases h1
      have hap := free j oj hoj e unj no
      obtain ⟨a1, a2, a3⟩ := Oper.apart_spec hap
      have hdj : dstOf all j = oj.dst := by unfold dstOf gslot; rw [hoj]
      have h2 := (H.2 j (ready_mono hj e)).2
      rw [opV_congr (s := s.add (dstOf all i) v (base + i) r) (s' := s) hoj (fun t ht => by rw [add_look]; rw [hdi]; intro hd; exact a1 t hd ht) (add_heap).symm] at h2
      obtain ⟨v', r', h3, h4⟩ := opV_val h2
      refine h4 _ ?_
      refine ih _ _ (inv.set hj jn) (fun k ok hk hki hun hno => ?_) (ready_mono hr (Ne.symm e)) (fun k2 hk2 => ?_) ?_
      · refine free k ok hk hki ?_ hno
        by_cases ejk : j = k
        · subst ejk; exact unj
        · rw [getD_set_ne true ejk] at hun; exact hun
      · rw [opV_congr (s := s.add (dstOf all j) v' (base + j) r') (s' := s) hi (fun t ht => by rw [add_look]; rw [hdj]; intro hd; exact a3 t hd ht) (add_heap).symm]
        exact hy k2 hk2
      · rw [Array.setIfInBounds_comm _ _ (Ne.symm e)] at h3
        rw [add_comm' (fun t hd hd' => by rw [hdi] at hd; rw [hdj] at hd'; exact a2 t hd hd') (Ne.symm e)] at h3
        exact h3
end
end Ab
end Go.Proofs.Ytgcgilcalmefgaa
namespace Go.Proofs.Ytgcgilcalmefgaa
open Go Go.RowKit
set_option linter.unusedVariables false
set_option linter.unusedSimpArgs false
namespace Ab
section
variable {P : Program} {A : Run} {L : TypeId → Option Lt} {all : List Oper} {base n : Nat}
/-- within a region: the rows that are still to be laid have no place yet -/
def RelD (A : Run) (all : List Oper) (base : Nat) (l : Array Bool) (cx : Cx) (s : St) (a : Act) (w : World) : Prop :=
  Rel A cx s a w ∧ base + all.length ≤ s.heap.length ∧ ∀ i, i < all.length → l.getD i true = false → cx.at_ (base + i) = none
theorem lay_eq {s : St} {d : Option Tmp} {v : V} {aid : Nat} (row : Option Row) : s.add d v aid row = ⟨(s.put d v).tmps, match row with | some r => s.heap.set aid (some r) | none => s.heap, s.base⟩ := by
  unfold St.add
  cases row <;> cases d <;> rfl
theorem AnyD.any (hL : LayOk P L) {md : Region.Mode} {Lq : Array Bool → St → Prop} {Q : Exit → Act → World → Prop} {g : Nat}
    (hend : ∀ l s cx a w, Lq l s → RelD A all base l cx s a w → wpAny P md all.toArray Q g l a w) :
    ∀ (f : Nat) (l : Array Bool) (s : St) cx a w, l.size = all.length → RelD A all base l cx s a w → AnyD (dom P A) L md all base n Lq f l s → wpAny P md all.toArray Q (f + g) l a w := by
  intro f
  induction f with
  | zero => intro l s cx a w _ R h; rw [Nat.zero_add]; exact hend l s cx a w h R
  | succ f ih =>
    intro l s cx a w hsz R h
    rw [show f + 1 + g = (f + g) + 1 by omega]
    refine ⟨fun e => absurd e h.1, fun i hi => ?_⟩
    have hop := (h.2 i hi).2
    obtain ⟨hun, oi, hoi, -⟩ := mem_ready.1 hi
    rw [List.getElem?_toArray] at hoi
    have hil : i < all.length := (List.getElem?_eq_some_iff.1 hoi).1
    have hdi : dstOf all i = oi.dst := by unfold dstOf gslot; rw [hoi]
    unfold opV at hop
    rw [hoi] at hop
    simp only at hop
    have h0 := R.2.2 i hil hun
    unfold wpOp
    rw [List.getElem?_toArray, hoi]
    simp only
    have other : ∀ j, j < all.length → (l.setIfInBounds i true).getD j true = false → j ≠ i ∧ l.getD j true = false := fun j hj hl => by
      by_cases e : i = j
      · subst e
        have hlt : i < l.size := by omega
        have h1 : (l.setIfInBounds i true)[i]? = some true := Array.getElem?_setIfInBounds_self_of_lt hlt
        rw [Array.getD_eq_getD_getElem?, h1] at hl
        cases hl
      · rw [getD_set_ne true e] at hl; exact ⟨Ne.symm e, hl⟩
    rcases guarded_wp R.1.tm hop with ⟨hw, hc⟩ | ⟨hw, hc⟩
    · rw [if_pos hw]
      refine .inl ?_
      refine evC_wp hL (eyes_of R.1.tm) (fun id r hr => R.1.hp.row id r ?_) h0 R.1.kp.G1 hc _ _ fun v row u w' cx' hk X => ?_
      · have h1 := getD_row hr
        rw [List.getElem?_take] at h1
        split at h1
        · exact h1
        · cases h1
      · refine ih _ _ cx' _ _ (by simpa using hsz) ⟨?_, ?_, ?_⟩ hk
        · rw [hdi, lay_eq]
          refine R.1.step X h0 oi.dst _ (fun id r hr => ?_) ?_ ?_
          · cases row with
            | none =>
              simp only at hr
              have hne : id ≠ base + i := by
                rintro rfl
                have hR := R.1.hp.row _ r hr
                cases hR with
                | box ty cs b vs hat => rw [h0] at hat; cases hat
                | listN ty es hat => rw [h0] at hat; cases hat
                | list ty es rows b cap vs hat => rw [h0] at hat; cases hat
              exact .inl ⟨hne, hr⟩
            | some r' =>
              simp only at hr
              by_cases e : base + i = id
              · subst e
                have hlt : base + i < s.heap.length := by have := R.2.1; omega
                rw [List.getElem?_set_self hlt] at hr
                cases hr
                exact .inr ⟨rfl, rfl⟩
              · rw [List.getElem?_set_ne e] at hr
                exact .inl ⟨Ne.symm e, hr⟩
          · cases row <;> simp
          · have := R.2.1
            cases row with
            | none => simp
            | some r => intro _; simp only [List.length_set]; omega
        · rw [add_len]; exact R.2.1
        · intro j hj hl
          obtain ⟨hne, hl'⟩ := other j hj hl
          rw [X.at_ _ (by omega)]
          exact R.2.2 j hj hl'
    · rw [if_neg (by simp [hw])]
      refine ih _ _ cx _ _ (by simpa using hsz) ⟨?_, ?_, ?_⟩ hc
      · rw [hdi]
        exact R.1.put (rep_undef cx w) oi.dst
      · rw [add_len]; exact R.2.1
      · intro j hj hl
        exact R.2.2 j hj (other j hj hl).2
theorem popsD_opV {i : Nat} {o : Oper} {rest : List Oper} {s : St} {K : St → Prop} (ho : all[i]? = some o) (h : popsD (dom P A) L all base i (o :: rest) s K) :
    opV (dom P A) L all base i s fun v r => popsD (dom P A) L all base (i + 1) rest (s.add (dstOf all i) v (base + i) r) K := by
  have hdi : dstOf all i = o.dst := by unfold dstOf gslot; rw [ho]
  unfold opV
  rw [ho, hdi]
  exact h
theorem AnyD.whole {md : Region.Mode} {K : St → Prop} (hns : Region.noSelect all.toArray = true) :
    ∀ (rest : List Oper) (k : Nat) (l : Array Bool) (s : St), (∀ j, rest[j]? = all[k + j]?) → HeadInv md all.toArray all.length l → Region.lexFrom md all.toArray rest.length k l = true → popsD (dom P A) L all base k rest s K →
      AnyD (dom P A) L md all base all.length (fun l s => Region.ready md all.toArray l = [] ∧ K s) rest.length l s := by
  intro rest
  induction rest with
  | nil => intro k l s _ _ hB h; exact ⟨by simpa [Region.lexFrom] using hB, h⟩
  | cons o rest ih =>
    intro k l s hl inv hB h
    have h0 : all[k]? = some o := by simpa using (hl 0).symm
    simp only [List.length_cons, Region.lexFrom, Bool.and_eq_true] at hB
    obtain ⟨⟨hr, hf⟩, hB'⟩ := hB
    have hr' : k ∈ Region.ready md all.toArray l := by simpa using hr
    have hkl : k < all.length := (List.getElem?_eq_some_iff.1 h0).1
    obtain ⟨v, r, hK, hy⟩ := opV_val (popsD_opV h0 h)
    refine AnyD.first h0 hns hkl (fun l _ _ j hj => ?_) (fun l s hL j hj => by rw [hL.1] at hj; cases hj) rest.length l s inv (fun j oj hj => Region.free_spec (by rw [List.getElem?_toArray]; exact h0) hf j oj (by rw [List.getElem?_toArray]; exact hj)) hr' hy ?_
    · obtain ⟨-, o', ho', -⟩ := mem_ready.1 hj
      rw [List.getElem?_toArray] at ho'
      exact (List.getElem?_eq_some_iff.1 ho').1
    · refine ih (k + 1) _ _ (fun j => ?_) (inv.set hr' hkl) hB' hK
      have := hl (j + 1)
      simpa [Nat.add_assoc, Nat.add_comm 1 j] using this
theorem AnyD.head {md : Region.Mode} {K : St → Prop} {g : Nat} (hns : Region.noSelect all.toArray = true) (hs : Region.sinkB md all.toArray n = true) (hc : Region.chainB md all.toArray n = true) (hn : n < all.length) :
    ∀ (rest : List Oper) (k : Nat) (l : Array Bool) (s : St), (∀ j, j < rest.length → rest[j]? = all[k + j]?) → k + rest.length = n → HeadInv md all.toArray n l → Region.lexHead md all.toArray g rest.length k l = true →
      popsD (dom P A) L all base k rest s K → AnyD (dom P A) L md all base n (fun l s => Region.seqB md all.toArray g n l = true ∧ K s) rest.length l s := by
  have hn' : n < all.toArray.size := by simpa using hn
  intro rest
  induction rest with
  | nil =>
    intro k l s _ hk _ hB h
    obtain rfl : k = n := by simpa using hk
    exact ⟨by simpa [Region.lexHead] using hB, h⟩
  | cons o rest ih =>
    intro k l s hl hk inv hB h
    have h0 : all[k]? = some o := by simpa using (hl 0 (by simp)).symm
    have hk' : k + 1 + rest.length = n := by simpa [Nat.add_assoc, Nat.add_comm 1] using hk
    simp only [List.length_cons, Region.lexHead, Bool.and_eq_true] at hB
    obtain ⟨⟨hr, hf⟩, hB'⟩ := hB
    have hr' : k ∈ Region.ready md all.toArray l := by simpa using hr
    obtain ⟨v, r, hK, hy⟩ := opV_val (popsD_opV h0 h)
    refine AnyD.first h0 hns (by omega) (fun l inv un j hj => ?_) (fun l s hL => seqB_ready hL.1) rest.length l s inv (fun j oj hj => Region.free_spec (by rw [List.getElem?_toArray]; exact h0) hf j oj (by rw [List.getElem?_toArray]; exact hj)) hr' hy ?_
    · exact Nat.lt_of_not_le fun h => tail_waits hs hc hn' inv _ k rfl (by omega) un j h hj
    · refine ih (k + 1) _ _ (fun j hj => ?_) hk' (inv.set hr' (by omega)) hB' hK
      have := hl (j + 1) (by simp; omega)
      simpa [Nat.add_assoc, Nat.add_comm 1 j] using this
theorem Rel.drew {cx : Cx} {s : St} {a : Act} {w : World} (R : Rel A cx s a w) (k : Nat) : Rel A cx s a { w with drawn := k } := by
  have hs : Same cx.G w { w with drawn := k } := fun _ _ => rfl
  refine ⟨R.tm.mono hs (Cx.le.refl _), R.df, ⟨fun id r hr => (R.hp.row id r hr).mono (fun _ _ => rfl) hs (Cx.le.refl _) (fun b h => .inl h), R.hp.inj, R.hp.dom⟩, ?_, R.bs⟩
  exact ⟨R.kp.os, R.kp.tape, R.kp.output, R.kp.size, R.kp.block, R.kp.live, R.kp.G0, R.kp.G1, R.kp.G2, R.kp.pin, R.kp.pinL, R.kp.base⟩
theorem Rel.widen {cx : Cx} {s : St} {a : Act} {w : World} (R : Rel A cx s a w) (m : Nat) : Rel A cx ⟨s.tmps, s.heap ++ List.replicate m none, s.base⟩ a w := by
  have old : ∀ (id : Nat) r, (s.heap ++ List.replicate m none)[id]? = some (some r) → s.heap[id]? = some (some r) := fun id r h => by
    by_cases hl : id < s.heap.length
    · rwa [List.getElem?_append_left hl] at h
    · rw [List.getElem?_append_right (by omega), List.getElem?_replicate] at h
      split at h <;> cases h
  refine ⟨R.tm, R.df, ⟨fun id r h => R.hp.row id r (old id r h), fun id id' r r' b cap es len cap' es' len' h1 h2 => R.hp.inj _ _ _ _ _ _ _ _ _ _ _ (old _ _ h1) (old _ _ h2), fun id h => R.hp.dom id (by simp only [List.length_append] at h; omega)⟩, ?_, R.bs⟩
  exact ⟨R.kp.os, R.kp.tape, R.kp.output, R.kp.size, R.kp.block, fun id r b cap es len h => R.kp.live id r b cap es len (old _ _ h), R.kp.G0, R.kp.G1, R.kp.G2, R.kp.pin, fun id ty es rows h => R.kp.pinL id ty es rows (old _ _ h), by
    simp only [List.length_append]; have := R.kp.base; omega⟩
def St.wide (s : St) (m : Nat) : St := ⟨s.tmps, s.heap ++ List.replicate m none, s.base⟩
theorem relD_start {cx : Cx} {s : St} {a : Act} {w : World} (R : Rel A cx s a w) : RelD A all s.heap.length (Array.replicate all.length false) cx (s.wide all.length) a { w with drawn := w.drawn + 1 } :=
  ⟨(R.widen all.length).drew _, by simp [St.wide], fun i _ _ => R.hp.dom _ (by omega)⟩
theorem inv_start {md : Region.Mode} (n : Nat) : HeadInv md all.toArray n (Array.replicate all.length false) := by
  constructor
  · simp
  · intro j oj _ hl; rw [getD_replicate_false] at hl; cases hl
  · intro t _ ht; exact getD_in (by simpa using ht) (getD_replicate_false _ _)
/-- all of its operations in whichever order -/
theorem draw_whole (hL : LayOk P L) (hm : P.follows .mixedOrders = true) {s : St} {K : St → Prop} (hB : Region.lexB .any all.toArray = true) (h : popsD (dom P A) L all s.heap.length 0 all (s.wide all.length) K) :
    (dom P A).draw all s K := by
  intro id cx a w R
  simp only [Region.lexB, Bool.and_eq_true] at hB
  obtain ⟨hns, hlex⟩ := hB
  refine wp_region_any hm ?_
  have H := AnyD.whole (md := .any) hns all 0 _ _ (fun j => by rw [Nat.zero_add]) (inv_start all.length) (by simpa using hlex) h
  have := AnyD.any hL (Q := Post A fun e s' => e = .normal ∧ K s') (g := 0) (fun l s cx a w hq R => ⟨hq.1, .normal, s, cx, trivial, ⟨rfl, hq.2⟩, R.1⟩) _ _ _ cx a _ (by simp) (relD_start R) H
  simpa using this
/-- a head in whichever order, and a tail -/
theorem draw_tail (hL : LayOk P L) (hm : P.follows .mixedOrders = true) (n : Nat) {s : St} {K : St → Prop} (hB : Region.lexTailB .any all.toArray n = true)
    (h : popsD (dom P A) L all s.heap.length 0 (all.take n) (s.wide all.length) fun s' => pops (dom P A) L all [] (all.drop n) s' K) : (dom P A).draw all s K := by
  intro id cx a w R
  simp only [Region.lexTailB, Bool.and_eq_true, decide_eq_true_eq] at hB
  obtain ⟨⟨⟨⟨hns, hn⟩, hs⟩, hc⟩, hlex⟩ := hB
  have hn' : n < all.length := by simpa using hn
  have ht : (all.take n).length = n := by simp; omega
  have hd : (all.drop n).length = all.toArray.size - n := by simp
  refine wp_region_any hm ?_
  have H := AnyD.head (md := .any) (g := all.toArray.size - n) hns hs hc hn' (all.take n) 0 _ _ (fun j hj => by
    rw [ht] at hj
    simp [hj]) (by simpa using ht) (inv_start n) (by rw [ht]; simpa using hlex) h
  have := AnyD.any hL (Q := Post A fun e s' => e = .normal ∧ K s') (g := all.toArray.size - n) (fun l s cx a w hq R => by
    have h1 := pops_wp hL (Q := Post A fun e s' => e = .normal ∧ K s') (fun s cx a w hk hR => ⟨.normal, s, cx, trivial, ⟨rfl, hk⟩, hR⟩) _ [] s hq.2 cx a w R.1 (kinv_nil a)
    have h2 := wpAny_of_seq (md := .any) (all.drop n) n l a w (fun j => by simp [List.getElem?_drop]) (by rw [hd]; exact hq.1) h1
    rwa [hd] at h2) _ _ _ cx a _ (by simp) (relD_start R) H
  rw [ht, show n + (all.toArray.size - n) = all.toArray.size by simp; omega] at this
  simpa using this
end
end Ab
end Go.Proofs.Ytgcgilcalmefgaa
namespace Go.Proofs.Ytgcgilcalmefgaa
open Go Go.RowKit
set_option linter.unusedVariables false
set_option linter.unusedSimpArgs false
namespace Ab
/-- nil slices, as closed ones -/
def nrm : V → V
  | .t (.flat (.slice none 0 0)) => .t (.slc [])
  | .agg cs => .agg (nrmL cs)
  | .tup cs => .tup (nrmL cs)
  | v => v
where nrmL : List V → List V
  | [] => []
  | v :: r => nrm v :: nrmL r
theorem nrmL_map : ∀ l : List V, nrm.nrmL l = l.map nrm
  | [] => rfl
  | v :: r => by rw [nrm.nrmL, nrmL_map r]; rfl
theorem nrm_cellB (v : V) : (nrm v).cellB = v.cellB := by
  unfold nrm
  split <;> rfl
theorem nil_rep (G : Nat → Prop) (w : World) : TRep G w (.slc []) (.slice none 0 0) :=
  .slc [] none 0 0 0 0 (fun _ _ => undef) (Nat.le_refl _) (fun _ => rfl) (fun h => absurd rfl h) (fun r h => by simp at h) (fun i j t h => by simp at h) (fun i j t h => by simp at h)
theorem nrm_le (v : V) : VLe v (nrm v) := by
  intro cx w u h
  induction h with
  | t x u h =>
    unfold nrm
    split
    · rename_i e; cases e; cases h; exact .t _ _ (nil_rep _ _)
    · rename_i e; cases e
    · rename_i e; cases e
    · exact .t _ _ h
  | agg cs vs hn hc hr ih =>
    rw [nrm, nrmL_map]
    refine .agg _ _ (by simpa using hn) (fun c hc' => ?_) (fun i c u h1 h2 => ?_)
    · obtain ⟨d, hd, rfl⟩ := List.mem_map.1 hc'
      rw [nrm_cellB]; exact hc d hd
    · rw [List.getElem?_map] at h1
      obtain ⟨d, hd, rfl⟩ := Option.map_eq_some_iff.1 h1
      exact ih i d u hd h2
  | tup cs vs hn hr ih =>
    rw [nrm, nrmL_map]
    refine .tup _ _ (by simpa using hn) (fun i c u h1 h2 => ?_)
    rw [List.getElem?_map] at h1
    obtain ⟨d, hd, rfl⟩ := Option.map_eq_some_iff.1 h1
    exact ih i d u hd h2
  | lstN id h => exact .lstN id h
  | lst id b cap es len h => exact .lst id b cap es len h
  | ptr id off b cap es len h => exact .ptr id off b cap es len h
  | elt id row off b cap es len h => exact .elt id row off b cap es len h
  | ipt cells off b o u hG hcell hr => exact .ipt cells off b o u hG hcell hr
  | fn f cs vs hn hr ih => exact .fn f cs vs hn hr
  | ifc t v u h ih => exact .ifc t v u h
  | junk v => exact .junk v
theorem nrm_b {b b' : Bool} (h : b = b') : nrm (fB b) = fB b' := by rw [h]; rfl
theorem nrm_i {k : IntKind} {n n' : Int} (h : n = n') : nrm (fI k n) = fI k n' := by rw [h]; rfl
theorem Fun.args {P : Program} {f : FuncId} {args args' : List V} {v : V} (hF : Fun P f args' v) (he : nrm.nrmL args = args') : Fun P f args v :=
  ⟨hF.1, fun G w cargs hG ha => hF.2 G w cargs hG (by
    subst he
    rw [nrmL_map]
    refine ⟨by simpa using ha.1, fun i c u h1 h2 => ?_⟩
    rw [List.getElem?_map] at h1
    obtain ⟨d, hd, rfl⟩ := Option.map_eq_some_iff.1 h1
    exact nrm_le d _ _ _ (ha.2 i d u hd h2))⟩
section
variable {P : Program} {A : Run} {E : Env} {L : TypeId → Option Lt}
theorem use_fun (hE : dom P A = E) {f : FuncId} {args : List V} {s : St} {args' : List V} {v : V} {K : V → St → Prop} (hF : Fun P f args' v) (he : nrm.nrmL args = args') (hc : args.all V.closedB = true) (hK : K v s) : E.call f args s K := by
  subst hE; exact call_fun (hF.args he) hc hK
theorem use_bare (hE : dom P A = E) {f : FuncId} {args args' args'' : List V} {s : St} {v : V} {K : V → St → Prop} (hF : Fun P f args' v) (hz : frzL s.heap args = some args'') (he : nrm.nrmL args'' = args') (hb : v.bare = true) (hK : K v s) : E.call f args s K := by
  subst hE; exact call_bare (hF.args he) hz hb hK
theorem use_body (hE : dom P A = E) (hL : LayOk P L) {f : FuncId} {fn : Func} {c : Code} {args : List V} {s : St} {K : V → St → Prop} (hcall : Callable P f) (hf : P.funcs[f]? = some fn) (hb : fn.body = some c)
    (h : ∀ (A' : Run) (E' : Env) (Q : Ex → St → Prop), dom P A' = E' → (∀ s' r, resV fn.results.toList s' = some r → K r ⟨s.tmps.map (V.calm s.heap), s'.heap, s.base⟩ → Q .ret s' ∧ Q .normal s') →
      pwp E' L c ⟨args ++ List.replicate (fn.ntmps - args.length) .junk, s.heap, s.heap.length⟩ Q) : E.call f args s K := by
  subst hE; exact call_body hL hcall hf hb fun A' Q hQ => h A' _ Q rfl hQ
theorem fun_of (hL : LayOk P L) {f : FuncId} {fn : Func} {c : Code} {args : List V} {v : V} (hcall : Callable P f) (hf : P.funcs[f]? = some fn) (hb : fn.body = some c)
    (h : ∀ (A : Run) (E : Env) (Q : Ex → St → Prop), dom P A = E → (∀ s r v', resV fn.results.toList s = some r → r.frz s.heap = some v' → nrm v' = v → Q .ret s ∧ Q .normal s) → pwp E L c ⟨args ++ List.replicate (fn.ntmps - args.length) .junk, [], 0⟩ Q) : Fun P f args v :=
  Fun_of hL hcall hf hb fun A Q hQ => h A _ Q rfl fun s r v' h1 h2 h3 => hQ s r v' h1 h2 (h3 ▸ nrm_le v')
/-- the same: what the result tells suffices -/
theorem fun_of_le (hL : LayOk P L) {f : FuncId} {fn : Func} {c : Code} {args : List V} {v : V} (hcall : Callable P f) (hf : P.funcs[f]? = some fn) (hb : fn.body = some c)
    (h : ∀ (A : Run) (E : Env) (Q : Ex → St → Prop), dom P A = E → (∀ s r v', resV fn.results.toList s = some r → r.frz s.heap = some v' → VLe v' v → Q .ret s ∧ Q .normal s) → pwp E L c ⟨args ++ List.replicate (fn.ntmps - args.length) .junk, [], 0⟩ Q) : Fun P f args v :=
  Fun_of hL hcall hf hb fun A Q hQ => h A _ Q rfl hQ
theorem use_loop (hE : dom P A = E) (hL : LayOk P L) {c : Code} {s : St} {Q : Ex → St → Prop} {Γ : Type} (F : Γ → St) (pre : Γ → Prop) (mu : Γ → Nat) (g0 : Γ) (h0 : pre g0) (hle : s.le (F g0))
    (hstep : ∀ g, pre g → ∀ Q' : Ex → St → Prop, (∀ s' g', pre g' → mu g' < mu g → s'.le (F g') → Q' .normal s') → (∀ s', Q .ret s' → Q' .ret s') → (∀ i s', Q (.exit i) s' → Q' (.exit i) s') → pwp E L c (F g) Q') : E.other (.loop c) s Q := by
  subst hE; exact AW_loop hL F pre mu g0 h0 hle hstep
theorem use_whole (hE : dom P A = E) (hL : LayOk P L) (hm : P.follows .mixedOrders = true) {all : List Oper} {s : St} {K : St → Prop} (hB : Region.lexB .any all.toArray = true) (h : popsD E L all s.heap.length 0 all (s.wide all.length) K) : E.draw all s K := by
  subst hE; exact draw_whole hL hm hB h
theorem use_tail (hE : dom P A = E) (hL : LayOk P L) (hm : P.follows .mixedOrders = true) (n : Nat) {all : List Oper} {s : St} {K : St → Prop} (hB : Region.lexTailB .any all.toArray n = true)
    (h : popsD E L all s.heap.length 0 (all.take n) (s.wide all.length) fun s' => pops E L all [] (all.drop n) s' K) : E.draw all s K := by
  subst hE; exact draw_tail hL hm n hB h
theorem use_pcall (hE : dom P A = E) {f : FuncId} {args : List V} {args' : List V} {v : V} {k : V → Prop} (hF : Fun P f args' v) (he : nrm.nrmL args = args') (hc : args.all V.closedB = true) (hk : k v) : E.pcall f args k := by
  subst hE; exact ⟨hc, v, hF.args he, hk⟩
def ifaceD : TypeDesc → Bool
  | .interface _ => true
  | _ => false
/-- does the type have all methods of the interface? -/
def implB (P : Program) (i t : TypeId) : Option Bool :=
  match P.underlying i, P.info? t with
  | some (.interface want), some d => some (Instr.missingMethod want d.methods).isNone
  | _, _ => none
-- what the words are
variable (hE : dom P A = E)
include hE
theorem r_ifc {t : TypeId} {d : TypeDesc} {x : V} {k : V → Prop} (hd : P.underlying t = some d) (hn : ifaceD d = false) (hk : k (.ifc t x)) : E.mki t x k := by
  subst hE
  refine ⟨_, hk, fun cx w u hu => ⟨.iface t u, ?_, .ifc t x u hu⟩⟩
  unfold Instr.makeInterface
  rw [Sem.run_bind, run_underlying hd, Result.andThen_ok]
  cases d <;> first | rfl | cases hn
theorem r_as_yes {xt i t : TypeId} {x : V} {k : V → Prop} (h : implB P i t = some true) (hk : k (.tup [.ifc t x, fB true])) : E.asrt xt i true (.ifc t x) k := by
  subst hE
  unfold implB at h
  split at h
  · rename_i want d hd hi
    injection h with h
    refine ⟨_, hk, fun cx w u hu => ?_⟩
    cases hu with
    | ifc t v u hv =>
      refine ⟨.tuple #[.iface t u, .bool true], ?_, .tup _ #[_, _] rfl fun j c z h1 h2 => ?_⟩
      · unfold Instr.typeAssert
        simp only [Sem.run_bind, run_underlying hd, run_typeInfo hi, Result.andThen_ok]
        rw [Option.isNone_iff_eq_none.1 h]
        rfl
      · match j, h1, h2 with
        | 0, h1, h2 => cases h1; cases h2; exact .ifc _ _ _ hv
        | 1, h1, h2 => cases h1; cases h2; exact .t _ _ (.flat _ rfl)
  · cases h
theorem r_inv {m : String} {t : TypeId} {f : FuncId} {x : V} {args : List V} {s : St} {K : V → St → Prop} (hm : ∀ (w : World) (u : Value) (cargs : Array Value), (callMethod (.iface t u) m cargs).run P w = (callFunc f (#[u] ++ cargs)).run P w)
    (hc : E.call f (x :: args) s K) : E.inv m (.ifc t x) args s K := by
  subst hE
  refine ⟨f, x, fun cx w u hu => ?_, hc⟩
  cases hu with
  | ifc t v u hv => exact ⟨u, fun cargs => hm w u cargs, hv⟩
theorem e_add {x y : Int} (h1 : -9223372036854775808 ≤ x + y) (h2 : x + y ≤ 9223372036854775807) : E.ar .add .i64 x y = x + y := by
  subst hE; show IntKind.i64.wrap (x + y) = _; rw [IntKind.wrap_i64]; omega
theorem e_sub {x y : Int} (h1 : -9223372036854775808 ≤ x - y) (h2 : x - y ≤ 9223372036854775807) : E.ar .sub .i64 x y = x - y := by
  subst hE; show IntKind.i64.wrap (x - y) = _; rw [IntKind.wrap_i64]; omega
theorem e_mul {x y : Int} (h1 : -9223372036854775808 ≤ x * y) (h2 : x * y ≤ 9223372036854775807) : E.ar .mul .i64 x y = x * y := by
  subst hE; show IntKind.i64.wrap (x * y) = _; rw [IntKind.wrap_i64]; omega
theorem e_lss (x y : Int) : E.cmp .lss x y = decide (x < y) := by subst hE; rfl
theorem e_leq (x y : Int) : E.cmp .leq x y = decide (x ≤ y) := by subst hE; rfl
theorem e_gtr (x y : Int) : E.cmp .gtr x y = decide (x > y) := by subst hE; rfl
theorem e_geq (x y : Int) : E.cmp .geq x y = decide (x ≥ y) := by subst hE; rfl
theorem e_eql (x y : Int) : E.cmp .eql x y = decide (x = y) := by subst hE; exact Bool.beq_eq_decide_eq x y
theorem e_neq (x y : Int) : E.cmp .neq x y = !decide (x = y) := by
  subst hE
  show (!(x == y)) = _
  rw [Bool.beq_eq_decide_eq]
theorem y_eql {x y : Int} (h : x = y) : E.cmp .eql x y = true := (e_eql hE x y).trans (decide_eq_true h)
theorem n_eql {x y : Int} (h : ¬ (x = y)) : E.cmp .eql x y = false := (e_eql hE x y).trans (decide_eq_false h)
theorem y_lss {x y : Int} (h : x < y) : E.cmp .lss x y = true := (e_lss hE x y).trans (decide_eq_true h)
theorem n_lss {x y : Int} (h : ¬ (x < y)) : E.cmp .lss x y = false := (e_lss hE x y).trans (decide_eq_false h)
theorem y_leq {x y : Int} (h : x ≤ y) : E.cmp .leq x y = true := (e_leq hE x y).trans (decide_eq_true h)
theorem n_leq {x y : Int} (h : ¬ (x ≤ y)) : E.cmp .leq x y = false := (e_leq hE x y).trans (decide_eq_false h)
theorem y_gtr {x y : Int} (h : y < x) : E.cmp .gtr x y = true := (e_gtr hE x y).trans (decide_eq_true h)
theorem n_gtr {x y : Int} (h : ¬ (y < x)) : E.cmp .gtr x y = false := (e_gtr hE x y).trans (decide_eq_false h)
theorem y_geq {x y : Int} (h : y ≤ x) : E.cmp .geq x y = true := (e_geq hE x y).trans (decide_eq_true h)
theorem n_geq {x y : Int} (h : ¬ (y ≤ x)) : E.cmp .geq x y = false := (e_geq hE x y).trans (decide_eq_false h)
theorem y_neq {x y : Int} (h : ¬ x = y) : E.cmp .neq x y = true := by rw [e_neq hE, decide_eq_false h]; rfl
theorem n_neq {x y : Int} (h : x = y) : E.cmp .neq x y = false := by rw [e_neq hE, decide_eq_true h]; rfl
theorem y_seql {x y : ByteArray} (h : x = y) : E.scmp .eql x y = true := by subst hE; subst h; show (x.toList == x.toList) = true; exact beq_self_eq_true _
theorem n_seql {x y : ByteArray} (h : ¬ x = y) : E.scmp .eql x y = false := by
  subst hE
  show (x.toList == y.toList) = false
  exact beq_eq_false_iff_ne.2 fun e => h (by rw [ByteArray.toList_eq, ByteArray.toList_eq] at e; obtain ⟨⟨x⟩⟩ := x; obtain ⟨⟨y⟩⟩ := y; simpa using e)
theorem y_sneq {x y : ByteArray} (h : ¬ x = y) : E.scmp .neq x y = true := by
  have := n_seql hE h
  subst hE
  show (!(x.toList == y.toList)) = true
  rw [show (x.toList == y.toList) = false from this]; rfl
theorem n_sneq {x y : ByteArray} (h : x = y) : E.scmp .neq x y = false := by
  have := y_seql hE h
  subst hE
  show (!(x.toList == y.toList)) = false
  rw [show (x.toList == y.toList) = true from this]; rfl
theorem e_slen (s : ByteArray) : E.slen s = s.size := by subst hE; rfl
theorem e_llen (l : Rows) : E.llen l = l.length := by subst hE; rfl
theorem r_row {l : Rows} {i : Int} {r : List T} {k : List T → Prop} (h0 : 0 ≤ i) (h : l[i.toNat]? = some r) (hk : k r) : E.row l i k := by
  subst hE; exact ⟨r, h0, h, hk⟩
theorem r_true {b : Bool} {p q : Unit → Prop} (h : b = true) (hp : p ()) : E.ifb b p q := by
  subst hE; subst h; exact ⟨fun _ => hp, (fun e => by cases e)⟩
theorem r_false {b : Bool} {p q : Unit → Prop} (h : b = false) (hp : q ()) : E.ifb b p q := by
  subst hE; subst h; exact ⟨(fun e => by cases e), fun _ => hp⟩
theorem r_if {b : Bool} {p q : Unit → Prop} (hp : b = true → p ()) (hq : b = false → q ()) : E.ifb b p q := by
  subst hE; exact ⟨hp, hq⟩
theorem t_add (x y : Int) : E.ar .add .i64 x y = IntKind.i64.wrap (x + y) := by subst hE; rfl
theorem e_app (a b : Rows) : E.lapp a b = a ++ b := by subst hE; rfl
theorem e_room {a b : Rows} {es bytes : Nat} (h1 : ∀ row ∈ b, row.length = es) (h2 : a.length + b.length ≤ 1000000000) (h3 : bytes ≤ 1000) : E.room a b es bytes := by
  subst hE
  refine ⟨h1, by unfold maxLen; omega, ?_⟩
  have : (a.length + b.length) * bytes ≤ 1000000000 * 1000 := Nat.mul_le_mul h2 h3
  omega
end
/-- the slots that a piece of code writes -/
def writes : Code → List Tmp
  | .region _ ops _ => ops.toList.filterMap (·.dst)
  | .seq a b => writes a ++ writes b
  | .cond _ a b => writes a ++ writes b
  | .block _ c => writes c
  | .loop c => writes c
  | .scope c => writes c
  | .rangeFunc _ ps a b => ps.toList ++ (writes a ++ writes b)
  | _ => []
def forget : List Tmp → List V → List V
  | [], l => l
  | t :: r, l => forget r (l.set t .junk)
def setAll : List (Tmp × V) → List V → List V
  | [], l => l
  | (t, v) :: r, l => setAll r (l.set t v)
def rowsAll : List (Nat × Row) → List (Option Row) → List (Option Row)
  | [], l => l
  | (i, r) :: rest, l => if i < l.length then rowsAll rest (l.set i (some r)) else rowsAll rest (l ++ [some r])
/-- lists are forgotten -/
def noLst : List V → List V
  | [] => []
  | .lst _ :: r => .junk :: noLst r
  | .elt _ _ _ :: r => .junk :: noLst r
  | v :: r => v :: noLst r
/-- a loop's head: what the body writes is forgotten, and what names a list, but for the slots told; of the rows the first n, but for those told -/
def headOf (c : Code) (s : St) (n : Nat) (slots : List (Tmp × V)) (rows : List (Nat × Row)) : St :=
  ⟨setAll slots (noLst (forget (writes c) s.tmps)), rowsAll rows (s.heap.take n), s.base⟩
/-- a loop whose heads are told by slots and rows -/
theorem use_for {P : Program} {A : Run} {E : Env} {L : TypeId → Option Lt} (hE : dom P A = E) (hL : LayOk P L) {c : Code} {s : St} {Q : Ex → St → Prop} {Γ : Type} (n : Nat) (slots : Γ → List (Tmp × V)) (rows : Γ → List (Nat × Row))
    (pre : Γ → Prop) (mu : Γ → Nat) (g0 : Γ) (h0 : pre g0) (hle : s.le (headOf c s n (slots g0) (rows g0)))
    (hstep : ∀ g, pre g → ∀ Q' : Ex → St → Prop, (∀ s' g', pre g' → mu g' < mu g → s'.le (headOf c s n (slots g') (rows g')) → Q' .normal s') → (∀ s', Q .ret s' → Q' .ret s') → (∀ i s', Q (.exit i) s' → Q' (.exit i) s') →
      pwp E L c (headOf c s n (slots g) (rows g)) Q') : E.other (.loop c) s Q :=
  use_loop hE hL (fun g => headOf c s n (slots g) (rows g)) pre mu g0 h0 hle hstep
end Ab
end Go.Proofs.Ytgcgilcalmefgaa
