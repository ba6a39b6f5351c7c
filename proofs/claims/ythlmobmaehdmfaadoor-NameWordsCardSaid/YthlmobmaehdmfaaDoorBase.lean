/- Posts behind names, and small lemmas that all walks of this seat use. -/
import Derived.Below
import Derived.Calls
import Derived.Deep.Draws
import Derived.WalkKit
import Derived.WalkSpells
namespace Go.Proofs.YthlmobmaehdmfaaDoor
open Go Go.RowKit
/-- the call returns v, and the world is as it was -/
def Ret (v : Value) (w : World) (e : Ending) (w' : World) : Prop := e = .returned v ∧ w = w'
/-- the call returns v; the world has drawn at most -/
def RetN (v : Value) (w : World) (e : Ending) (w' : World) : Prop := e = .returned v ∧ ∃ n, w' = w.drewN n
/-- the call returns v; it has made memory at most -/
def RetG (v : Value) (w : World) (e : Ending) (w' : World) : Prop := e = .returned v ∧ Below w.heap.size w w'
theorem ret_bool {a b : Bool} {w : World} (h : a = b) : Ret (.bool b) w (.returned (.bool a)) w := ⟨by rw [h], rfl⟩
theorem ret_int {k : IntKind} {a b : Int} {w : World} (h : a = b) : Ret (.int k b) w (.returned (.int k a)) w := ⟨by rw [h], rfl⟩
theorem hid_mk {p : Prop} (h : p) : Hid p := h
theorem bstep {A B C : World} (h : Below A.heap.size A B) (k : Below B.heap.size B C) : Below A.heap.size A C := h.trans (k.mono h.size)
theorem hide {p : Prop} (h : p) : Hid p := h
theorem unhide {p : Prop} (h : Hid p) : p := h
end Go.Proofs.YthlmobmaehdmfaaDoor
