/- Walks over sets of bytes: the reference's Between, Or, Not, First. -/
import Derived.Test.YthgcefppeaopkaaDoorSetW2
namespace Go.Proofs.YthgcefppeaopkaaDoor
open Go Go.RowKit
set_option maxRecDepth 100000
set_option linter.unusedSimpArgs false
set_option linter.unusedVariables false
set_option maxHeartbeats 1000000
theorem rbetween_any (lo hi : Nat) (hlo : lo < 256) (hhi : hi < 256) (w : World) : Calls Tryd.prog 66 #[.int .i64 lo, .int .i64 hi] w (RetG (.agg #[.int .u64 ((CSet.between lo hi).a.toNat : Int), .int .u64 ((CSet.between lo hi).b.toNat : Int), .int .u64 ((CSet.between lo hi).c.toNat : Int), .int .u64 ((CSet.between lo hi).d.toNat : Int)]) w) := by
  go_enter Tryd.func66, Tryd.ntmps66
  go_wp2
  go_loopw [6] (fun v wr => ∃ k : Nat, (k = 0 ∨ lo + k ≤ hi + 1) ∧ v = .int .i64 (lo + k : Nat) ∧ Blk wr w.heap.size #[.int .u64 0, .int .u64 0, .int .u64 0, .int .u64 0] 25 ∧ Blk wr (w.heap.size + 1) #[.int .u64 ((CSet.span lo k).a.toNat : Int), .int .u64 ((CSet.span lo k).b.toNat : Int), .int .u64 ((CSet.span lo k).c.toNat : Int), .int .u64 ((CSet.span lo k).d.toNat : Int)] 25 ∧ Below w.heap.size w wr) (fun v _ => hi + 1 - (intOf v).toNat)
  case atStart => exact ⟨0, .inl rfl, rfl, (Blk.new _ _ _).alloc _, by have := Blk.new (w.alloc (.cells #[.int .u64 0, .int .u64 0, .int .u64 0, .int .u64 0] 25)) #[.int .u64 0, .int .u64 0, .int .u64 0, .int .u64 0] 25; simp only [World.size_alloc] at this; exact this, (by repeat (first | exact Below.refl _ _ | assumption | refine Below.setCell ?_ (by first | omega | (simp <;> omega)) _ | refine Below.alloc ?_ (by first | omega | (simp <;> omega)) _ | refine below_drewN ?_ _ | refine Below.drew ?_))⟩
  case round =>
    obtain ⟨k, hk, rfl, hA, hB, hb⟩ := hrel
    by_cases hlt : lo + k ≤ hi
    · (have g0 : wr.cell? ⟨w.heap.size + 1, 0, none⟩ = some (.int .u64 ((CSet.span lo k).a.toNat : Int)) := hB.cell 0; have g1 : wr.cell? ⟨w.heap.size + 1, 1, none⟩ = some (.int .u64 ((CSet.span lo k).b.toNat : Int)) := hB.cell 1; have g2 : wr.cell? ⟨w.heap.size + 1, 2, none⟩ = some (.int .u64 ((CSet.span lo k).c.toNat : Int)) := hB.cell 2; have g3 : wr.cell? ⟨w.heap.size + 1, 3, none⟩ = some (.int .u64 ((CSet.span lo k).d.toNat : Int)) := hB.cell 3; have gf : ∀ i, wr.frozen? ⟨w.heap.size + 1, i, none⟩ = false := hB.frozen)
      have HA := hid_mk hA
      have HB := hid_mk hB
      have Hb := hid_mk hb
      have hsz : w.heap.size + 1 < wr.heap.size := hB.lt
      clear hA hB hb hk
      go_wp2_with fail
      refine (rwith_any (CSet.span lo k) (lo + k) (by omega) _).mono ?_
      rintro e w1 ⟨rfl, hb1⟩
      have HA1 := hid_mk (HA.out.call hb1)
      have HB1 := hid_mk (HB.out.call hb1)
      have Hb1 := hid_mk (Hb.out.trans (hb1.mono (by omega)))
      (have g0 : w1.cell? ⟨w.heap.size + 1, 0, none⟩ = some (.int .u64 ((CSet.span lo k).a.toNat : Int)) := HB1.out.cell 0; have g1 : w1.cell? ⟨w.heap.size + 1, 1, none⟩ = some (.int .u64 ((CSet.span lo k).b.toNat : Int)) := HB1.out.cell 1; have g2 : w1.cell? ⟨w.heap.size + 1, 2, none⟩ = some (.int .u64 ((CSet.span lo k).c.toNat : Int)) := HB1.out.cell 2; have g3 : w1.cell? ⟨w.heap.size + 1, 3, none⟩ = some (.int .u64 ((CSet.span lo k).d.toNat : Int)) := HB1.out.cell 3; have gf : ∀ i, w1.frozen? ⟨w.heap.size + 1, i, none⟩ = false := HB1.out.frozen)
      clear hb1
      go_wp2
      go_roundw
      case rel => exact ⟨k + 1, .inr (by omega), by go_num, ((((HA1.out.far (by simp) _).far (by simp) _).far (by simp) _).far (by simp) _), ((((HB1.out.put 0 _).put 1 _).put 2 _).put 3 _), by have hb2 := Hb1.out; exact (by repeat (first | exact Below.refl _ _ | assumption | refine Below.setCell ?_ (by first | omega | (simp <;> omega)) _ | refine Below.alloc ?_ (by first | omega | (simp <;> omega)) _ | refine below_drewN ?_ _ | refine Below.drew ?_))⟩
      case measure => simp [intOf]; omega
    · have hn : CSet.span lo k = CSet.between lo hi := by
        unfold CSet.between
        rcases hk with rfl | hk
        · rw [show hi + 1 - lo = 0 by omega]
        · rw [show hi + 1 - lo = k by omega]
      rw [hn] at hB
      (have g0 : wr.cell? ⟨w.heap.size + 1, 0, none⟩ = some (.int .u64 ((CSet.between lo hi).a.toNat : Int)) := hB.cell 0; have g1 : wr.cell? ⟨w.heap.size + 1, 1, none⟩ = some (.int .u64 ((CSet.between lo hi).b.toNat : Int)) := hB.cell 1; have g2 : wr.cell? ⟨w.heap.size + 1, 2, none⟩ = some (.int .u64 ((CSet.between lo hi).c.toNat : Int)) := hB.cell 2; have g3 : wr.cell? ⟨w.heap.size + 1, 3, none⟩ = some (.int .u64 ((CSet.between lo hi).d.toNat : Int)) := hB.cell 3; have gf : ∀ i, wr.frozen? ⟨w.heap.size + 1, i, none⟩ = false := hB.frozen)
      (have z0 : wr.cell? ⟨w.heap.size, 0, none⟩ = some (.int .u64 0) := hA.cell 0; have z1 : wr.cell? ⟨w.heap.size, 1, none⟩ = some (.int .u64 0) := hA.cell 1; have z2 : wr.cell? ⟨w.heap.size, 2, none⟩ = some (.int .u64 0) := hA.cell 2; have z3 : wr.cell? ⟨w.heap.size, 3, none⟩ = some (.int .u64 0) := hA.cell 3; have zf : ∀ i, wr.frozen? ⟨w.heap.size, i, none⟩ = false := hA.frozen)
      have HA := hid_mk hA
      have HB := hid_mk hB
      have Hb := hid_mk hb
      clear hn hk hA hB hb
      go_wp2
      refine bodyPost_ret (v := .agg #[.int .u64 ((CSet.between lo hi).a.toNat : Int), .int .u64 ((CSet.between lo hi).b.toNat : Int), .int .u64 ((CSet.between lo hi).c.toNat : Int), .int .u64 ((CSet.between lo hi).d.toNat : Int)]) (by simp [results, Tryd.results66, go_sem, z0, z1, z2, z3]) rfl ⟨rfl, ?_⟩
      have hb2 := Hb.out
      exact (by repeat (first | exact Below.refl _ _ | assumption | refine Below.setCell ?_ (by first | omega | (simp <;> omega)) _ | refine Below.alloc ?_ (by first | omega | (simp <;> omega)) _ | refine below_drewN ?_ _ | refine Below.drew ?_))
end Go.Proofs.YthgcefppeaopkaaDoor
