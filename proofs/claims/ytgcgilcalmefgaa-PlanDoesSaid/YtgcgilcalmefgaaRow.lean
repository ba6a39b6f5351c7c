/- Whole rows: stores and results of structs without going over the cells. -/
import Derived.Test.YtgcgilcalmefgaaBase
import Derived.Test.YtgcgilcalmefgaaProg
import Derived.Laws.Rows
import Derived.Laws.Tables
namespace Go.Proofs.Ytgcgilcalmefgaa
open Go Go.RowKit
section
variable {P : Program} {w : World}
theorem Blk.row {g t : Nat} {cs ds : Array Value} (h : Blk w g cs t) : Blk (w.setRow g ds) g ds t := setRow_heap w g cs ds t _ h
theorem setRow_other (w : World) (g : Nat) (ds : Array Value) {k : Nat} (hk : k ≠ g) : (w.setRow g ds).heap[k]? = w.heap[k]? := by
  simp only [World.setRow]
  rw [Array.getElem?_modify, if_neg (fun e => hk e.symm)]
theorem setRow_size (w : World) (g : Nat) (ds : Array Value) : (w.setRow g ds).heap.size = w.heap.size := by simp [World.setRow]
theorem below_row {B g : Nat} {a w : World} (h : Below B a w) (hg : B ≤ g) (ds : Array Value) : Below B a (w.setRow g ds) :=
  ⟨h.os, h.tape, h.output, by rw [setRow_size]; exact h.size, fun k hk => (setRow_other w g ds (by omega)).trans (h.block k hk)⟩
theorem Blk.rowFar {g g' t : Nat} {cs : Array Value} (h : Blk w g cs t) (hne : g ≠ g') (ds : Array Value) : Blk (w.setRow g' ds) g cs t := (setRow_other w g' ds hne).trans h
/-- a struct stored whole -/
theorem store_row {ops : Array Oper} {rest : List Oper} {o : Oper} {a : Act} {Q : Exit → Act → World → Prop} (T : TypeId) (hgd : o.guard = none) (x y : Operand) (ho : o.op = .store T x y)
    (g : Nat) (cells old : Array Value) (t : TypeId) (hb : Blk w g old t) (hx : a.eval x = .pointer (some ⟨g, 0, none⟩)) (hy : a.eval y = .agg cells)
    (hi : (P.info? T).map (·.size) = some cells.size) (hold : old.size = cells.size) (h1 : cells.toList.all (·.oneCell') = true)
    (h : wpList P ops Q rest (a.put o.dst undef) (w.setRow g cells)) : wpList P ops Q (o :: rest) a w :=
  wpList_store_row hgd T x y ho g cells hx hy t old hb hi hold (by rw [← Array.all_toList]; exact h1) h
/-- a struct loaded whole -/
theorem load_row {ops : Array Oper} {rest : List Oper} {o : Oper} {a : Act} {Q : Exit → Act → World → Prop} (T : TypeId) (hgd : o.guard = none) (x : Operand) (ho : o.op = .load T x)
    (g : Nat) (cs : Array Value) (t : TypeId) (hb : Blk w g cs t) (hx : a.eval x = .pointer (some ⟨g, 0, none⟩)) (d : TypeDesc)
    (hu : P.underlying T = some d) (hd : (match d with | .struct _ | .array _ _ => true | _ => false) = true) (hi : (P.info? T).map (·.size) = some cs.size)
    (h : wpList P ops Q rest (a.put o.dst (.agg cs)) w) : wpList P ops Q (o :: rest) a w :=
  wpList_load_row hgd T x ho g hx t cs (0, 0) d hb hu hd hi h
/-- a struct handed back whole -/
theorem ret_row {f : Func} {R : Ending → World → Prop} {a : Act} {p : Tmp} {T : TypeId} (hr : f.results = #[.cell p T]) (g : Nat) (cs : Array Value) (t : TypeId) (hb : Blk w g cs t) (hp : a.tmps.getD p undef = .pointer (some ⟨g, 0, none⟩)) (d : TypeDesc)
    (hu : P.underlying T = some d) (hd : (match d with | .struct _ | .array _ _ => true | _ => false) = true) (hi : (P.info? T).map (·.size) = some cs.size) (hdf : a.defers = []) (h : R (.returned (.agg cs)) w) : bodyPost P f R .ret a w :=
  bodyPost_ret (results_cell_row hr a.tmps w g t cs (0, 0) d hp hb hu hd hi) hdf h
theorem results_row_tmp {fn : Func} {p u : Tmp} {ty : TypeId} (h : fn.results = #[.cell p ty, .tmp u]) (tmps : Array Value) (w : World) (g : Nat) (t : TypeId) (cs : Array Value) (fr : Nat × Nat) (d : TypeDesc) (v : Value)
    (hp : tmps.getD p undef = .pointer (some ⟨g, 0, none⟩)) (hv : tmps.getD u undef = v) (hg : w.heap[g]? = some (.cells cs t fr))
    (hu : P.underlying ty = some d) (hd : (match d with | .struct _ | .array _ _ => true | _ => false) = true) (hi : (P.info? ty).map (·.size) = some cs.size) :
    (results fn tmps).run P w = .ok (.tuple #[.agg cs, v]) w := by
  have hp' : tmps[p]?.getD undef = .pointer (some ⟨g, 0, none⟩) := by simpa using hp
  have hv' : tmps[u]?.getD undef = v := by simpa using hv
  simp [results, h, hp', hv', asAddr, run_loadVar_row w g t ty cs fr d hg hu hd hi]
/-- a struct, and a value beside it, handed back -/
theorem ret_row_tmp {f : Func} {R : Ending → World → Prop} {a : Act} {p u : Tmp} {T : TypeId} (hr : f.results = #[.cell p T, .tmp u]) (g : Nat) (cs : Array Value) (t : TypeId) (v : Value) (hb : Blk w g cs t) (hp : a.tmps.getD p undef = .pointer (some ⟨g, 0, none⟩)) (hv : a.tmps.getD u undef = v) (d : TypeDesc)
    (hu : P.underlying T = some d) (hd : (match d with | .struct _ | .array _ _ => true | _ => false) = true) (hi : (P.info? T).map (·.size) = some cs.size) (hdf : a.defers = []) (h : R (.returned (.tuple #[.agg cs, v])) w) : bodyPost P f R .ret a w :=
  bodyPost_ret (results_row_tmp hr a.tmps w g t cs (0, 0) d v hp hv hb hu hd hi) hdf h
end
end Go.Proofs.Ytgcgilcalmefgaa
