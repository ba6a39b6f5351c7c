/- Walks over the reference's match: how many steps a tree costs: some number. -/
import Derived.Test.YthgcefppeaopkaaDoorTellsS
namespace Go.Proofs.YthgcefppeaopkaaDoor
open Go Go.RowKit Go.Sort
set_option maxRecDepth 100000
set_option linter.unusedSimpArgs false
set_option linter.unusedVariables false
set_option maxHeartbeats 4000000
/-- some number; memory is made at most -/
def RetSome (w : World) (e : Ending) (w' : World) : Prop := ∃ v : Int, e = .returned (.int .i64 v) ∧ Below w.heap.size w w'
/-- some Bool; memory is made at most -/
def RetBit (w : World) (e : Ending) (w' : World) : Prop := ∃ b : Bool, e = .returned (.bool b) ∧ Below w.heap.size w w'
def RCostOk (L : Nat) (x : Node) : Prop := ∀ (A : Option Addr) (ca : Nat) (G : Nat → Prop) (w : World), (∀ y, G y → y < w.heap.size) → SlOk A x.kids.length ca → KidsAt G w A x.kids → Calls Tryd.prog 33 #[.agg #[.int .i64 (x.kind), .int .u64 ((x.set).a.toNat : Int), .int .u64 ((x.set).b.toNat : Int), .int .u64 ((x.set).c.toNat : Int), .int .u64 ((x.set).d.toNat : Int), .slice (A) (x.kids.length) (ca), .int .i64 (x.min), .int .i64 (x.max)], .int .i64 L] w (RetSome w)
def RCostAt (n : Node) (w : World) (NB : Array Value) (u v : Value) (wr : World) : Prop := ∃ (k : Nat) (a : Int), v = .int .i64 (k : Nat) ∧ u = .int .i64 a ∧ k ≤ n.kids.length ∧ Below w.heap.size w wr ∧ Blk wr w.heap.size NB 28
theorem rcost_any (L : Nat) (hL : L ≤ 100) : ∀ (m : Nat) (n : Node), n.size ≤ m → n.lens → RCostOk L n := by
  intro m
  induction m with
  | zero => intro a h; exact absurd h (by have := a.size_pos; omega)
  | succ m ih =>
    intro n ha ha2 A ca G w hG hsa hka
    have hal := Node.lens_len ha2
    unfold maxLen at hal
    have HIH := hid_mk (fun x (hx : x ∈ n.kids) => ih x (by have := Node.size_mem_kids hx; omega) (Node.lens_mem ha2 hx))
    have HG := hid_mk hG
    have HKA := hid_mk hka
    clear ih ha ha2 hG hka hsa
    go_enter Tryd.func33, Tryd.ntmps33
    go_wp2
    go_loopw [5, 6] (fun u v wr => RCostAt n w #[.int .i64 (n.kind), .int .u64 ((n.set).a.toNat : Int), .int .u64 ((n.set).b.toNat : Int), .int .u64 ((n.set).c.toNat : Int), .int .u64 ((n.set).d.toNat : Int), .slice (A) (n.kids.length) (ca), .int .i64 (n.min), .int .i64 (n.max)] u v wr) (fun _ v _ => n.kids.length - (intOf v).toNat)
    case atStart => exact ⟨0, 1, rfl, rfl, Nat.zero_le _, (by repeat (first | with_reducible exact Below.refl _ _ | with_reducible assumption | with_reducible refine Below.setCell ?_ (by first | omega | (dsimp only; omega) | (simp <;> omega)) _ | with_reducible refine Below.alloc ?_ (by first | omega | (simp <;> omega)) _ | with_reducible refine below_drewN ?_ _ | with_reducible refine Below.drew ?_)), Blk.new w _ _⟩
    case round =>
      obtain ⟨k, a, rfl, rfl, hk, hb, hnb⟩ := hrel
      (have n0 : wr.cell? ⟨w.heap.size, 0, none⟩ = some (.int .i64 (n.kind)) := hnb.cell 0; have n1 : wr.cell? ⟨w.heap.size, 1, none⟩ = some (.int .u64 ((n.set).a.toNat : Int)) := hnb.cell 1; have n2 : wr.cell? ⟨w.heap.size, 2, none⟩ = some (.int .u64 ((n.set).b.toNat : Int)) := hnb.cell 2; have n3 : wr.cell? ⟨w.heap.size, 3, none⟩ = some (.int .u64 ((n.set).c.toNat : Int)) := hnb.cell 3; have n4 : wr.cell? ⟨w.heap.size, 4, none⟩ = some (.int .u64 ((n.set).d.toNat : Int)) := hnb.cell 4; have n5 : wr.cell? ⟨w.heap.size, 5, none⟩ = some (.slice (A) (n.kids.length) (ca)) := hnb.cell 5; have n6 : wr.cell? ⟨w.heap.size, 6, none⟩ = some (.int .i64 (n.min)) := hnb.cell 6; have n7 : wr.cell? ⟨w.heap.size, 7, none⟩ = some (.int .i64 (n.max)) := hnb.cell 7; have nf : ∀ i, wr.frozen? ⟨w.heap.size, i, none⟩ = false := hnb.frozen)
      by_cases hlt : k < n.kids.length
      · have hka := kids_two HKA.out hb HG.out
        obtain ⟨ba, oa, A', ca', hAE, hga, hsa', hka', hca⟩ := kidsAt_at hka hlt
        subst hAE
        have HIX := hid_mk (HIH.out n.kids[k] (List.getElem_mem hlt))
        generalize n.kids[k] = x at *
        (have z0 : wr.cell? ⟨ba, oa + k * 8, none⟩ = some (.int .i64 (x.kind)) := hca 0 _ rfl; have z1 : wr.cell? ⟨ba, oa + k * 8 + 1, none⟩ = some (.int .u64 ((x.set).a.toNat : Int)) := hca 1 _ rfl; have z2 : wr.cell? ⟨ba, oa + k * 8 + 2, none⟩ = some (.int .u64 ((x.set).b.toNat : Int)) := hca 2 _ rfl; have z3 : wr.cell? ⟨ba, oa + k * 8 + 3, none⟩ = some (.int .u64 ((x.set).c.toNat : Int)) := hca 3 _ rfl; have z4 : wr.cell? ⟨ba, oa + k * 8 + 4, none⟩ = some (.int .u64 ((x.set).d.toNat : Int)) := hca 4 _ rfl; have z5 : wr.cell? ⟨ba, oa + k * 8 + 5, none⟩ = some (.slice (A') (x.kids.length) (ca')) := hca 5 _ rfl; have z6 : wr.cell? ⟨ba, oa + k * 8 + 6, none⟩ = some (.int .i64 (x.min)) := hca 6 _ rfl; have z7 : wr.cell? ⟨ba, oa + k * 8 + 7, none⟩ = some (.int .i64 (x.max)) := hca 7 _ rfl)
        have hsz := hb.size
        have HCX := hide (HIX.out A' ca' G wr (fun b hb => by have := HG.out b hb; omega) hsa' hka')
        have HBW := hid_mk hb
        have HNB := hid_mk hnb
        clear hb hnb hka hka' hca HIX
        go_wp2_with fail
        refine (unhide HCX).mono ?_
        rintro e w3 ⟨v, rfl, hb3⟩
        have HB3 := hid_mk (HBW.out.trans (hb3.mono HBW.out.size))
        have HN3 := hid_mk (HNB.out.call hb3)
        clear hb3
        by_cases hv : 3000 < wrap64 (a + v)
        · have f1 : decide (3000 < wrap64 (a + v)) = true := by simpa using hv
          clear hv
          go_wp2
          exact bodyPost_ret (v := .int .i64 3001) (by simp [results, Tryd.results33, go_sem]) rfl ⟨_, rfl, HB3.out⟩
        · have f1 : decide (3000 < wrap64 (a + v)) = false := by simpa using hv
          clear hv
          go_wp2
          go_roundw
          case rel => exact ⟨k + 1, _, by go_num, rfl, by omega, HB3.out, HN3.out⟩
          case measure => simp [intOf]; omega
      · have hkl : k = n.kids.length := by omega
        subst hkl
        have HB := hid_mk hb
        clear hb hnb
        go_wp2
        all_goals exact bodyPost_ret (v := .int .i64 _) (by simp [results, Tryd.results33, go_sem]; rfl) rfl ⟨_, rfl, HB.out⟩
end Go.Proofs.YthgcefppeaopkaaDoor
