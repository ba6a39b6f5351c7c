/- Walks over the reference's pattern reader: repetitions. -/
import Derived.Test.YthgcefppeaopkaaDoorRefW7
namespace Go.Proofs.YthgcefppeaopkaaDoor
open Go Go.RowKit Go.Sort
set_option maxRecDepth 100000
set_option linter.unusedSimpArgs false
set_option linter.unusedVariables false
set_option maxHeartbeats 1000000
/-- a repetition is handed back -/
def RetRep (G : Nat → Prop) (n : Node) (low high p : Int) (w : World) (x : Ending) (w' : World) : Prop := Below w.heap.size w w' ∧
  ∃ g, x = .returned (.agg #[.int .i64 (4), .int .u64 ((CSet.empty).a.toNat : Int), .int .u64 ((CSet.empty).b.toNat : Int), .int .u64 ((CSet.empty).c.toNat : Int), .int .u64 ((CSet.empty).d.toNat : Int), .slice (some ⟨g, 0, none⟩) (1) (1), .int .i64 (low), .int .i64 (high), .int .u64 0, .int .u64 0, .int .u64 0, .int .u64 0, .bool false, .int .i64 (p), .int .i64 0, .int .i64 0]) ∧ KidsAt (fun b => G b ∨ (w.heap.size ≤ b ∧ b < w'.heap.size)) w' (some ⟨g, 0, none⟩) [n]
theorem rrep_any (n : Node) (A : Option Addr) (cap : Nat) (low high p : Int) (G : Nat → Prop) (w : World) (hG : ∀ b, G b → b < w.heap.size) (hs : SlOk A n.kids.length cap) (hk : KidsAt G w A n.kids) :
    Calls Tryd.prog 59 #[.agg #[.int .i64 (n.kind), .int .u64 ((n.set).a.toNat : Int), .int .u64 ((n.set).b.toNat : Int), .int .u64 ((n.set).c.toNat : Int), .int .u64 ((n.set).d.toNat : Int), .slice (A) (n.kids.length) (cap), .int .i64 (n.min), .int .i64 (n.max)], .int .i64 low, .int .i64 high, .int .i64 p] w (RetRep G n low high p w) := by
  go_enter Tryd.func59, Tryd.ntmps59
  have hres : Blk (((w.alloc (.cells #[.int .i64 (n.kind), .int .u64 ((n.set).a.toNat : Int), .int .u64 ((n.set).b.toNat : Int), .int .u64 ((n.set).c.toNat : Int), .int .u64 ((n.set).d.toNat : Int), .slice (A) (n.kids.length) (cap), .int .i64 (n.min), .int .i64 (n.max)] 28)).alloc (.cells #[.int .i64 0, .int .u64 0, .int .u64 0, .int .u64 0, .int .u64 0, .slice none 0 0, .int .i64 0, .int .i64 0, .int .u64 0, .int .u64 0, .int .u64 0, .int .u64 0, .bool false, .int .i64 (0), .int .i64 (0), .int .i64 (0)] 56)).alloc (.cells #[.int .i64 (n.kind), .int .u64 ((n.set).a.toNat : Int), .int .u64 ((n.set).b.toNat : Int), .int .u64 ((n.set).c.toNat : Int), .int .u64 ((n.set).d.toNat : Int), .slice (A) (n.kids.length) (cap), .int .i64 (n.min), .int .i64 (n.max)] 28)) (w.heap.size + 1) #[.int .i64 0, .int .u64 0, .int .u64 0, .int .u64 0, .int .u64 0, .slice none 0 0, .int .i64 0, .int .i64 0, .int .u64 0, .int .u64 0, .int .u64 0, .int .u64 0, .bool false, .int .i64 (0), .int .i64 (0), .int .i64 (0)] 56 := Blk.alloc (Blk.newAt (by simp)) _
  have hkid : Blk (((w.alloc (.cells #[.int .i64 (n.kind), .int .u64 ((n.set).a.toNat : Int), .int .u64 ((n.set).b.toNat : Int), .int .u64 ((n.set).c.toNat : Int), .int .u64 ((n.set).d.toNat : Int), .slice (A) (n.kids.length) (cap), .int .i64 (n.min), .int .i64 (n.max)] 28)).alloc (.cells #[.int .i64 0, .int .u64 0, .int .u64 0, .int .u64 0, .int .u64 0, .slice none 0 0, .int .i64 0, .int .i64 0, .int .u64 0, .int .u64 0, .int .u64 0, .int .u64 0, .bool false, .int .i64 (0), .int .i64 (0), .int .i64 (0)] 56)).alloc (.cells #[.int .i64 (n.kind), .int .u64 ((n.set).a.toNat : Int), .int .u64 ((n.set).b.toNat : Int), .int .u64 ((n.set).c.toNat : Int), .int .u64 ((n.set).d.toNat : Int), .slice (A) (n.kids.length) (cap), .int .i64 (n.min), .int .i64 (n.max)] 28)) (w.heap.size + 2) #[.int .i64 (n.kind), .int .u64 ((n.set).a.toNat : Int), .int .u64 ((n.set).b.toNat : Int), .int .u64 ((n.set).c.toNat : Int), .int .u64 ((n.set).d.toNat : Int), .slice (A) (n.kids.length) (cap), .int .i64 (n.min), .int .i64 (n.max)] 28 := Blk.newAt (by simp)
  have hbw : Below w.heap.size w (((w.alloc (.cells #[.int .i64 (n.kind), .int .u64 ((n.set).a.toNat : Int), .int .u64 ((n.set).b.toNat : Int), .int .u64 ((n.set).c.toNat : Int), .int .u64 ((n.set).d.toNat : Int), .slice (A) (n.kids.length) (cap), .int .i64 (n.min), .int .i64 (n.max)] 28)).alloc (.cells #[.int .i64 0, .int .u64 0, .int .u64 0, .int .u64 0, .int .u64 0, .slice none 0 0, .int .i64 0, .int .i64 0, .int .u64 0, .int .u64 0, .int .u64 0, .int .u64 0, .bool false, .int .i64 (0), .int .i64 (0), .int .i64 (0)] 56)).alloc (.cells #[.int .i64 (n.kind), .int .u64 ((n.set).a.toNat : Int), .int .u64 ((n.set).b.toNat : Int), .int .u64 ((n.set).c.toNat : Int), .int .u64 ((n.set).d.toNat : Int), .slice (A) (n.kids.length) (cap), .int .i64 (n.min), .int .i64 (n.max)] 28)) := (by repeat (first | with_reducible exact Below.refl _ _ | with_reducible assumption | with_reducible refine Below.setCell ?_ (by first | omega | (dsimp only; omega) | (simp <;> omega)) _ | with_reducible refine Below.alloc ?_ (by first | omega | (simp <;> omega)) _ | with_reducible refine below_drewN ?_ _ | with_reducible refine Below.drew ?_))
  go_wp2_with (refine store_row 56 rfl _ _ rfl (w.heap.size + 1) _ _ 56 hres rfl rfl (by kernel_rfl) rfl rfl ?_)
  refine ret_row rfl (w.heap.size + 1) _ _ hres.row rfl _ Tryd.underlying56 rfl ?_ rfl ?_
  · kernel_rfl
  · refine ⟨below_row hbw (by omega) _, w.heap.size + 2, rfl, ?_⟩
    have hlt := hkid.lt
    generalize ((w.alloc (.cells #[.int .i64 (n.kind), .int .u64 ((n.set).a.toNat : Int), .int .u64 ((n.set).b.toNat : Int), .int .u64 ((n.set).c.toNat : Int), .int .u64 ((n.set).d.toNat : Int), .slice (A) (n.kids.length) (cap), .int .i64 (n.min), .int .i64 (n.max)] 28)).alloc (.cells #[.int .i64 0, .int .u64 0, .int .u64 0, .int .u64 0, .int .u64 0, .slice none 0 0, .int .i64 0, .int .i64 0, .int .u64 0, .int .u64 0, .int .u64 0, .int .u64 0, .bool false, .int .i64 (0), .int .i64 (0), .int .i64 (0)] 56)).alloc (.cells #[.int .i64 (n.kind), .int .u64 ((n.set).a.toNat : Int), .int .u64 ((n.set).b.toNat : Int), .int .u64 ((n.set).c.toNat : Int), .int .u64 ((n.set).d.toNat : Int), .slice (A) (n.kids.length) (cap), .int .i64 (n.min), .int .i64 (n.max)] 28) = V at *
    refine kids_one (Or.inr ⟨by omega, by rw [setRow_size]; exact hlt⟩) (hkid.rowFar (by omega) _) hs ?_
    exact kidsAt_keep (below_keeps (below_row hbw (by omega) _) hG) (fun b h => Or.inl h) hk
/-- braces, and what stands behind them -/
def brcOf (l : List UInt8) (n : Node) : Res (Int × Int) → Res Node
  | .ok (lo, hi) q => if Rx.pk l q = 125 then .ok (Rx.rep n lo hi) (q + 1) else Rx.other l q
  | .bad e q => .bad e q
  | .out => .out
/-- a repetition as a reader's result -/
theorem retPN_rep {G : Nat → Prop} {n : Node} {lo hi : Int} {q : Nat} {w w1 w2 w3 : World} {g : Nat} (hb : Below w.heap.size w w3) (hG : ∀ b, G b → w.heap.size ≤ b) (hlt : w.heap.size ≤ w1.heap.size) (hsz : w2.heap.size ≤ w3.heap.size)
    (hk : KidsAt (fun b => G b ∨ (w1.heap.size ≤ b ∧ b < w2.heap.size)) w3 (some ⟨g, 0, none⟩) [n]) (hGb : ∀ b, G b → b < w2.heap.size) :
    RetPN (.ok (Rx.rep n lo hi) q) w (.returned (.agg #[.int .i64 (4), .int .u64 ((CSet.empty).a.toNat : Int), .int .u64 ((CSet.empty).b.toNat : Int), .int .u64 ((CSet.empty).c.toNat : Int), .int .u64 ((CSet.empty).d.toNat : Int), .slice (some ⟨g, 0, none⟩) (1) (1), .int .i64 (lo), .int .i64 (hi), .int .u64 0, .int .u64 0, .int .u64 0, .int .u64 0, .bool false, .int .i64 ((q : Nat)), .int .i64 0, .int .i64 0])) w3 :=
  ⟨hb, some ⟨g, 0, none⟩, 1, rfl, ⟨Nat.le_refl _, fun h => by cases h⟩, kidsAt_keep (fun b _ => rfl) (fun b h => by
    rcases h with h | h
    · exact ⟨hG b h, Nat.lt_of_lt_of_le (hGb b h) hsz⟩
    · exact ⟨Nat.le_trans hlt h.1, Nat.lt_of_lt_of_le h.2 hsz⟩) hk⟩
end Go.Proofs.YthgcefppeaopkaaDoor
