/- Walks over the pattern reader: its state in memory; peek, fail, wrong, need. -/
import Derived.Test.YthgcefppeaopkaaDoorProg
import Derived.Test.YthgcefppeaopkaaDoorNodeR
import Derived.Deep.QuietTactic
import Derived.BigQuiet
import Derived.BigRegion
import Derived.RegionTactic
import Derived.WalkLawsBesides
namespace Go.Proofs.YthgcefppeaopkaaDoor
open Go Go.RowKit
set_option maxRecDepth 100000
set_option linter.unusedSimpArgs false
set_option linter.unusedVariables false
set_option maxHeartbeats 1000000
/-- block rb alone may have changed, and what is new -/
structure Only (rb : Nat) (w w' : World) : Prop where
  os : w'.os = w.os
  tape : w'.tape = w.tape
  output : w'.output = w.output
  size : w.heap.size ≤ w'.heap.size
  block : ∀ k, k < w.heap.size → k ≠ rb → w'.heap[k]? = w.heap[k]?
section
variable {rb : Nat} {a w w' : World}
theorem Only.refl (rb : Nat) (w : World) : Only rb w w := ⟨rfl, rfl, rfl, Nat.le_refl _, fun _ _ _ => rfl⟩
theorem Only.step (h : Only rb a w) (k : Only rb w w') : Only rb a w' :=
  ⟨k.os.trans h.os, k.tape.trans h.tape, k.output.trans h.output, Nat.le_trans h.size k.size, fun i hi hne => (k.block i (Nat.lt_of_lt_of_le hi h.size) hne).trans (h.block i hi hne)⟩
theorem Only.call (h : Only rb a w) (k : Below w.heap.size w w') : Only rb a w' := h.step ⟨k.os, k.tape, k.output, k.size, fun i hi _ => k.block i hi⟩
theorem Only.drewN (h : Only rb a w) (n : Nat) : Only rb a (w.drewN n) := ⟨h.os, h.tape, h.output, h.size, h.block⟩
theorem Only.drew (h : Only rb a w) : Only rb a w.drew := ⟨h.os, h.tape, h.output, h.size, h.block⟩
theorem Only.alloc (h : Only rb a w) (o : Obj) : Only rb a (w.alloc o) := h.call ((Below.refl _ _).alloc (Nat.le_refl _) o)
theorem Only.set (h : Only rb a w) {p : Addr} (hp : p.block = rb ∨ a.heap.size ≤ p.block) (u : Value) : Only rb a (w.setCell p u) :=
  ⟨h.os, h.tape, h.output, by simpa [World.setCell] using h.size, fun i hi hne => (Below.heap_setCell w p u i (by
    rintro rfl
    rcases hp with hp | hp
    · exact hne hp
    · omega)).trans (h.block i hi hne)⟩
theorem Only.grown (h : Only rb a w) {row : Option Nat} (hg : w.grownBy w' row) (hr : ∀ g, row = some g → a.heap.size ≤ g) : Only rb a w' :=
  ⟨hg.os.trans h.os, hg.tape.trans h.tape, hg.output.trans h.output, Nat.le_trans h.size hg.size, fun i hi hne => (hg.block i (Nat.lt_of_lt_of_le hi h.size) (fun e => by have := hr i e.symm; omega)).trans (h.block i hi hne)⟩
theorem Only.keeps (h : Only rb w w') : Keeps (fun b => b < w.heap.size ∧ b ≠ rb) w w' := fun b hb => h.block b hb.1 hb.2
theorem Only.blk {g : Nat} {t : TypeId} {cs : Array Value} (h : Only rb w w') (hg : g ≠ rb) (hb : Blk w g cs t) : Blk w' g cs t := (h.block g hb.lt hg).trans hb
end
/-- where trees may lie -/
def Good (rb : Nat) (w : World) (b : Nat) : Prop := b < w.heap.size ∧ b ≠ rb
theorem Good.mono {rb : Nat} {w w' : World} (h : w.heap.size ≤ w'.heap.size) : ∀ b, Good rb w b → Good rb w' b := fun b hb => ⟨Nat.lt_of_lt_of_le hb.1 h, hb.2⟩
/-- the reader's block: the text, the place, the open brackets -/
def RD (s : ByteArray) (rb i op : Nat) (w : World) : Prop := Blk w rb #[.string s, .int .i64 (i : Nat), .int .i64 (op : Nat)] 53
def faultV (e p : Int) : List PanicEntry := [{ v := .iface 50 (.agg #[.int .i64 e, .int .i64 p]), recovered := false }]
theorem pk_lt {s : ByteArray} {i : Nat} (h : i < s.size) : Rx.pk s.data.toList i = ((s[i]'h).toNat : Int) := by
  unfold Rx.pk
  rw [List.getElem?_eq_getElem (by simpa using h)]
  rfl
theorem pk_ge {s : ByteArray} {i : Nat} (h : s.size ≤ i) : Rx.pk s.data.toList i = -1 := by
  unfold Rx.pk
  rw [List.getElem?_eq_none (by simpa using h)]
theorem pk_bd (l : List UInt8) (i : Nat) : -1 ≤ Rx.pk l i ∧ Rx.pk l i ≤ 255 := by
  unfold Rx.pk
  split
  · rename_i b _
    have := b.toNat_lt
    omega
  · omega
theorem peek_any (s : ByteArray) (rb i op : Nat) (w : World) (h : RD s rb i op w) (hs : s.size ≤ 1000) (hi : i ≤ 2000) : Calls Tryd.prog 38 #[.pointer (some ⟨rb, 0, none⟩)] w (RetN (.int .i64 (Rx.pk s.data.toList i)) w) := by
  have h0 : w.cell? ⟨rb, 0, none⟩ = some (.string s) := h.cell 0
  have h1 : w.cell? ⟨rb, 1, none⟩ = some (.int .i64 (i : Nat)) := h.cell 1
  clear h
  by_cases hlt : i < s.size
  · rw [pk_lt hlt]
    have hb0 := (s[i]'hlt).toNat_lt
    have hw : wrap64 ((s[i]'hlt).toNat : Int) = ((s[i]'hlt).toNat : Int) := IntWalk.wrap64_in _ (by omega)
    go_enter Tryd.func38, Tryd.ntmps38
    go_wp2
    go_quiet (fail)
    go_wp2
    go_quiet (fail)
    go_wp2
    go_ret
    exact ⟨by first | rfl | (rw [← hw]; rfl), _, World.drewN_drewN _ _ _⟩
  · rw [pk_ge (by omega)]
    go_enter Tryd.func38, Tryd.ntmps38
    go_wp2
    go_quiet (fail)
    go_wp2
    go_ret
    exact ⟨rfl, _, rfl⟩
theorem fail_any (e p : Int) (w : World) : Calls Tryd.prog 40 #[.int .i64 e, .int .i64 p] w fun x w' => x = .panicked (faultV e p) ∧ w = w' := by
  go_enter Tryd.func40, Tryd.ntmps40
  go_wp2
  exact ⟨rfl, rfl, rfl⟩
/-- what a reader that gives up leaves -/
def RetBad (rb : Nat) (e p : Int) (w : World) (x : Ending) (w' : World) : Prop := x = .panicked (faultV e p) ∧ Only rb w w'
theorem wrong_any (s : ByteArray) (rb i op : Nat) (w : World) (h : RD s rb i op w) (hs : s.size ≤ 1000) (hi : i ≤ 2000) : Calls Tryd.prog 28 #[.pointer (some ⟨rb, 0, none⟩)] w
    (RetBad rb (if Rx.pk s.data.toList i < 0 then 1 else 2) (if Rx.pk s.data.toList i < 0 then (s.size : Int) else (i : Int)) w) := by
  have HP := hide (peek_any s rb i op w h hs hi)
  have h0 : w.cell? ⟨rb, 0, none⟩ = some (.string s) := h.cell 0
  have h1 : w.cell? ⟨rb, 1, none⟩ = some (.int .i64 (i : Nat)) := h.cell 1
  have hb := pk_bd s.data.toList i
  generalize Rx.pk s.data.toList i = c at *
  clear h
  by_cases hc : c < 0
  · rw [if_pos hc, if_pos hc]
    go_enter Tryd.func28, Tryd.ntmps28
    go_wp2_with fail
    refine (unhide HP).mono ?_
    rintro e w1 ⟨rfl, n, rfl⟩
    go_wp2_with fail
    refine (fail_any _ _ _).mono ?_
    rintro e w1 ⟨rfl, rfl⟩
    exact ⟨rfl, rfl, (Only.refl _ _).drewN _⟩
  · rw [if_neg hc, if_neg hc]
    go_enter Tryd.func28, Tryd.ntmps28
    go_wp2_with fail
    refine (unhide HP).mono ?_
    rintro e w1 ⟨rfl, n, rfl⟩
    go_wp2_with fail
    refine (fail_any _ _ _).mono ?_
    rintro e w1 ⟨rfl, rfl⟩
    exact ⟨rfl, rfl, (Only.refl _ _).drewN _⟩
end Go.Proofs.YthgcefppeaopkaaDoor
