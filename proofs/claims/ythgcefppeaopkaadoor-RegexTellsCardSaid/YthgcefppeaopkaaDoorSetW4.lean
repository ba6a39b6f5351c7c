/- Walks over sets of bytes: the reference's Or and Not. -/
import Derived.Test.YthgcefppeaopkaaDoorSetW3
namespace Go.Proofs.YthgcefppeaopkaaDoor
open Go Go.RowKit
set_option maxRecDepth 100000
set_option linter.unusedSimpArgs false
set_option linter.unusedVariables false
set_option maxHeartbeats 1000000
theorem ror_any (S T : CSet) (w : World) : Calls Tryd.prog 78 #[.agg #[.int .u64 ((S).a.toNat : Int), .int .u64 ((S).b.toNat : Int), .int .u64 ((S).c.toNat : Int), .int .u64 ((S).d.toNat : Int)], .agg #[.int .u64 ((T).a.toNat : Int), .int .u64 ((T).b.toNat : Int), .int .u64 ((T).c.toNat : Int), .int .u64 ((T).d.toNat : Int)]] w (RetG (.agg #[.int .u64 ((S.or T).a.toNat : Int), .int .u64 ((S.or T).b.toNat : Int), .int .u64 ((S.or T).c.toNat : Int), .int .u64 ((S.or T).d.toNat : Int)]) w) := by
  go_enter Tryd.func78, Tryd.ntmps78
  go_wp2
  go_loopw [5] (fun v wr => ∃ k : Nat, k ≤ 256 ∧ v = .int .i64 (k : Nat) ∧ Blk wr w.heap.size #[.int .u64 ((S.orTo T k).a.toNat : Int), .int .u64 ((S.orTo T k).b.toNat : Int), .int .u64 ((S.orTo T k).c.toNat : Int), .int .u64 ((S.orTo T k).d.toNat : Int)] 25 ∧ Blk wr (w.heap.size + 1) #[.int .u64 ((T).a.toNat : Int), .int .u64 ((T).b.toNat : Int), .int .u64 ((T).c.toNat : Int), .int .u64 ((T).d.toNat : Int)] 25 ∧ Blk wr (w.heap.size + 2) #[.int .u64 0, .int .u64 0, .int .u64 0, .int .u64 0] 25 ∧ Below w.heap.size w wr) (fun v _ => 256 - (intOf v).toNat)
  case atStart =>
    refine ⟨0, by omega, rfl, ?_, ?_, ?_, (by repeat (first | exact Below.refl _ _ | assumption | refine Below.setCell ?_ (by first | omega | (simp <;> omega)) _ | refine Below.alloc ?_ (by first | omega | (simp <;> omega)) _ | refine below_drewN ?_ _ | refine Below.drew ?_))⟩
    · exact ((Blk.new _ _ _).alloc _).alloc _
    · have := Blk.new (w.alloc (.cells #[.int .u64 ((S).a.toNat : Int), .int .u64 ((S).b.toNat : Int), .int .u64 ((S).c.toNat : Int), .int .u64 ((S).d.toNat : Int)] 25)) #[.int .u64 ((T).a.toNat : Int), .int .u64 ((T).b.toNat : Int), .int .u64 ((T).c.toNat : Int), .int .u64 ((T).d.toNat : Int)] 25
      simp only [World.size_alloc] at this
      exact this.alloc _
    · have := Blk.new ((w.alloc (.cells #[.int .u64 ((S).a.toNat : Int), .int .u64 ((S).b.toNat : Int), .int .u64 ((S).c.toNat : Int), .int .u64 ((S).d.toNat : Int)] 25)).alloc (.cells #[.int .u64 ((T).a.toNat : Int), .int .u64 ((T).b.toNat : Int), .int .u64 ((T).c.toNat : Int), .int .u64 ((T).d.toNat : Int)] 25)) #[.int .u64 0, .int .u64 0, .int .u64 0, .int .u64 0] 25
      simp only [World.size_alloc] at this
      exact this
  case round =>
    obtain ⟨k, hk, rfl, hA, hB, hC, hb⟩ := hrel
    by_cases hlt : k < 256
    · (have g0 : wr.cell? ⟨w.heap.size, 0, none⟩ = some (.int .u64 ((S.orTo T k).a.toNat : Int)) := hA.cell 0; have g1 : wr.cell? ⟨w.heap.size, 1, none⟩ = some (.int .u64 ((S.orTo T k).b.toNat : Int)) := hA.cell 1; have g2 : wr.cell? ⟨w.heap.size, 2, none⟩ = some (.int .u64 ((S.orTo T k).c.toNat : Int)) := hA.cell 2; have g3 : wr.cell? ⟨w.heap.size, 3, none⟩ = some (.int .u64 ((S.orTo T k).d.toNat : Int)) := hA.cell 3; have gf : ∀ i, wr.frozen? ⟨w.heap.size, i, none⟩ = false := hA.frozen)
      (have t0 : wr.cell? ⟨w.heap.size + 1, 0, none⟩ = some (.int .u64 ((T).a.toNat : Int)) := hB.cell 0; have t1 : wr.cell? ⟨w.heap.size + 1, 1, none⟩ = some (.int .u64 ((T).b.toNat : Int)) := hB.cell 1; have t2 : wr.cell? ⟨w.heap.size + 1, 2, none⟩ = some (.int .u64 ((T).c.toNat : Int)) := hB.cell 2; have t3 : wr.cell? ⟨w.heap.size + 1, 3, none⟩ = some (.int .u64 ((T).d.toNat : Int)) := hB.cell 3; have tf : ∀ i, wr.frozen? ⟨w.heap.size + 1, i, none⟩ = false := hB.frozen)
      have HA := hid_mk hA
      have HB := hid_mk hB
      have HC := hid_mk hC
      have Hb := hid_mk hb
      have hsz : w.heap.size + 2 < wr.heap.size := hC.lt
      clear hA hB hC hb hk
      have HH := hide (fun w => rhas_any T k hlt w)
      cases hh : T.has k with
      | true =>
        rw [hh] at HH
        go_wp2_with fail
        refine (unhide HH _).mono ?_
        rintro e w1 ⟨rfl, hb1⟩
        have HA1 := hid_mk (HA.out.call hb1)
        have HB1 := hid_mk (HB.out.call hb1)
        have HC1 := hid_mk (HC.out.call hb1)
        have Hb1 := hid_mk (Hb.out.trans (hb1.mono (by omega)))
        have hsz1 : w.heap.size + 2 < w1.heap.size := Nat.lt_of_lt_of_le hsz hb1.size
        (have g0 : w1.cell? ⟨w.heap.size, 0, none⟩ = some (.int .u64 ((S.orTo T k).a.toNat : Int)) := HA1.out.cell 0; have g1 : w1.cell? ⟨w.heap.size, 1, none⟩ = some (.int .u64 ((S.orTo T k).b.toNat : Int)) := HA1.out.cell 1; have g2 : w1.cell? ⟨w.heap.size, 2, none⟩ = some (.int .u64 ((S.orTo T k).c.toNat : Int)) := HA1.out.cell 2; have g3 : w1.cell? ⟨w.heap.size, 3, none⟩ = some (.int .u64 ((S.orTo T k).d.toNat : Int)) := HA1.out.cell 3; have gf : ∀ i, w1.frozen? ⟨w.heap.size, i, none⟩ = false := HA1.out.frozen)
        clear hb1 HH
        go_wp2_with fail
        refine (rwith_any (S.orTo T k) k hlt _).mono ?_
        rintro e w2 ⟨rfl, hb2⟩
        have HA2 := hid_mk (HA1.out.call hb2)
        have HB2 := hid_mk (HB1.out.call hb2)
        have HC2 := hid_mk (HC1.out.call hb2)
        have Hb2 := hid_mk (Hb1.out.trans (hb2.mono (by omega)))
        (have g0 : w2.cell? ⟨w.heap.size, 0, none⟩ = some (.int .u64 ((S.orTo T k).a.toNat : Int)) := HA2.out.cell 0; have g1 : w2.cell? ⟨w.heap.size, 1, none⟩ = some (.int .u64 ((S.orTo T k).b.toNat : Int)) := HA2.out.cell 1; have g2 : w2.cell? ⟨w.heap.size, 2, none⟩ = some (.int .u64 ((S.orTo T k).c.toNat : Int)) := HA2.out.cell 2; have g3 : w2.cell? ⟨w.heap.size, 3, none⟩ = some (.int .u64 ((S.orTo T k).d.toNat : Int)) := HA2.out.cell 3; have gf : ∀ i, w2.frozen? ⟨w.heap.size, i, none⟩ = false := HA2.out.frozen)
        clear hb2
        have hnext : S.orTo T (k + 1) = (S.orTo T k).put k := by rw [CSet.orTo, if_pos hh]
        have HN := hid_mk hnext
        clear hnext hh
        go_wp2
        go_roundw
        case rel => exact ⟨k + 1, by omega, by go_num, by rw [HN.out]; exact ((((HA2.out.put 0 _).put 1 _).put 2 _).put 3 _), ((((HB2.out.far (by simp) _).far (by simp) _).far (by simp) _).far (by simp) _), ((((HC2.out.far (by simp) _).far (by simp) _).far (by simp) _).far (by simp) _), by have hb2 := Hb2.out; exact (by repeat (first | exact Below.refl _ _ | assumption | refine Below.setCell ?_ (by first | omega | (simp <;> omega)) _ | refine Below.alloc ?_ (by first | omega | (simp <;> omega)) _ | refine below_drewN ?_ _ | refine Below.drew ?_))⟩
        case measure => simp [intOf]; omega
      | false =>
        rw [hh] at HH
        go_wp2_with fail
        refine (unhide HH _).mono ?_
        rintro e w1 ⟨rfl, hb1⟩
        have HA1 := hid_mk (HA.out.call hb1)
        have HB1 := hid_mk (HB.out.call hb1)
        have HC1 := hid_mk (HC.out.call hb1)
        have Hb1 := hid_mk (Hb.out.trans (hb1.mono (by omega)))
        have hnext : S.orTo T (k + 1) = S.orTo T k := by rw [CSet.orTo, if_neg (by simp [hh])]
        have HN := hid_mk hnext
        clear hb1 HH hnext hh
        go_wp2
        go_roundw
        case rel => exact ⟨k + 1, by omega, by go_num, by rw [HN.out]; exact HA1.out, HB1.out, HC1.out, Hb1.out⟩
        case measure => simp [intOf]; omega
    · have hk2 : k = 256 := by omega
      subst hk2
      rw [CSet.orTo_all] at hA
      (have g0 : wr.cell? ⟨w.heap.size, 0, none⟩ = some (.int .u64 ((S.or T).a.toNat : Int)) := hA.cell 0; have g1 : wr.cell? ⟨w.heap.size, 1, none⟩ = some (.int .u64 ((S.or T).b.toNat : Int)) := hA.cell 1; have g2 : wr.cell? ⟨w.heap.size, 2, none⟩ = some (.int .u64 ((S.or T).c.toNat : Int)) := hA.cell 2; have g3 : wr.cell? ⟨w.heap.size, 3, none⟩ = some (.int .u64 ((S.or T).d.toNat : Int)) := hA.cell 3; have gf : ∀ i, wr.frozen? ⟨w.heap.size, i, none⟩ = false := hA.frozen)
      (have z0 : wr.cell? ⟨w.heap.size + 2, 0, none⟩ = some (.int .u64 0) := hC.cell 0; have z1 : wr.cell? ⟨w.heap.size + 2, 1, none⟩ = some (.int .u64 0) := hC.cell 1; have z2 : wr.cell? ⟨w.heap.size + 2, 2, none⟩ = some (.int .u64 0) := hC.cell 2; have z3 : wr.cell? ⟨w.heap.size + 2, 3, none⟩ = some (.int .u64 0) := hC.cell 3; have zf : ∀ i, wr.frozen? ⟨w.heap.size + 2, i, none⟩ = false := hC.frozen)
      have Hb := hid_mk hb
      clear hA hB hC hb hk
      go_wp2
      refine bodyPost_ret (v := .agg #[.int .u64 ((S.or T).a.toNat : Int), .int .u64 ((S.or T).b.toNat : Int), .int .u64 ((S.or T).c.toNat : Int), .int .u64 ((S.or T).d.toNat : Int)]) (by simp [results, Tryd.results78, go_sem, z0, z1, z2, z3]) rfl ⟨rfl, ?_⟩
      have hb2 := Hb.out
      exact (by repeat (first | exact Below.refl _ _ | assumption | refine Below.setCell ?_ (by first | omega | (simp <;> omega)) _ | refine Below.alloc ?_ (by first | omega | (simp <;> omega)) _ | refine below_drewN ?_ _ | refine Below.drew ?_))
end Go.Proofs.YthgcefppeaopkaaDoor
