/- Walks over sets of bytes: the reference's Between, Or, Not, First. -/
import Derived.Shelf.Spec.TrailingZeros
import Derived.Test.YtampjnpnekekiaaGreatDoorK112
import Derived.Test.YtampjnpnekekiaaGreatDoorK111
import Derived.Test.YtampjnpnekekiaaGreatDoorK110
namespace Go.Proofs.YtampjnpnekekiaaGreatDoor
open Go Go.RowKit
set_option maxRecDepth 100000
set_option linter.unusedSimpArgs false
set_option linter.unusedVariables false
set_option maxHeartbeats 1000000
theorem rbetween_any (lo hi : Nat) (hlo : lo < 256) (hhi : hi < 256) (w : World) : Calls Tryz.prog 103 #[.int .i64 lo, .int .i64 hi] w (RetG (.agg #[.int .u64 ((CSet.between lo hi).a.toNat : Int), .int .u64 ((CSet.between lo hi).b.toNat : Int), .int .u64 ((CSet.between lo hi).c.toNat : Int), .int .u64 ((CSet.between lo hi).d.toNat : Int)]) w) := by
  go_enter Tryz.func103, Tryz.ntmps103
  go_wp2
  go_loopw [6] (fun v wr => ∃ k : Nat, (k = 0 ∨ lo + k ≤ hi + 1) ∧ v = .int .i64 (lo + k : Nat) ∧ Blk wr w.heap.size #[.int .u64 0, .int .u64 0, .int .u64 0, .int .u64 0] 44 ∧ Blk wr (w.heap.size + 1) #[.int .u64 ((CSet.span lo k).a.toNat : Int), .int .u64 ((CSet.span lo k).b.toNat : Int), .int .u64 ((CSet.span lo k).c.toNat : Int), .int .u64 ((CSet.span lo k).d.toNat : Int)] 44 ∧ Below w.heap.size w wr) (fun v _ => hi + 1 - (intOf v).toNat)
  case atStart => exact ⟨0, .inl rfl, rfl, (Blk.new _ _ _).alloc _, by have := Blk.new (w.alloc (.cells #[.int .u64 0, .int .u64 0, .int .u64 0, .int .u64 0] 44)) #[.int .u64 0, .int .u64 0, .int .u64 0, .int .u64 0] 44; simp only [World.size_alloc] at this; exact this, (by repeat (first | exact Below.refl _ _ | assumption | refine Below.setCell ?_ (by first | omega | (simp <;> omega)) _ | refine Below.alloc ?_ (by first | omega | (simp <;> omega)) _ | refine below_drewN ?_ _ | refine Below.drew ?_))⟩
  case round =>
    obtain ⟨k, hk, rfl, hA, hB, hb⟩ := hrel
    by_cases hlt : lo + k ≤ hi
    · (have g0 : wr.cell? ⟨w.heap.size + 1, 0, none⟩ = some (.int .u64 ((CSet.span lo k).a.toNat : Int)) := hB.cell 0; have g1 : wr.cell? ⟨w.heap.size + 1, 1, none⟩ = some (.int .u64 ((CSet.span lo k).b.toNat : Int)) := hB.cell 1; have g2 : wr.cell? ⟨w.heap.size + 1, 2, none⟩ = some (.int .u64 ((CSet.span lo k).c.toNat : Int)) := hB.cell 2; have g3 : wr.cell? ⟨w.heap.size + 1, 3, none⟩ = some (.int .u64 ((CSet.span lo k).d.toNat : Int)) := hB.cell 3; have gf : ∀ i, wr.frozen? ⟨w.heap.size + 1, i, none⟩ = false := hB.frozen)
      have HA := hid_mk hA
      have HB := hid_mk hB
      have Hb := hid_mk hb
      have hsz : w.heap.size + 1 < wr.heap.size := hB.lt
      clear hA hB hb hk
      go_wp2_with fail
      refine (rwith_any (CSet.span lo k) (lo + k) (by omega) _).mono ?_
      rintro e w1 ⟨rfl, hb1⟩
      have HA1 := hid_mk (HA.out.call hb1)
      have HB1 := hid_mk (HB.out.call hb1)
      have Hb1 := hid_mk (Hb.out.trans (hb1.mono (by omega)))
      (have g0 : w1.cell? ⟨w.heap.size + 1, 0, none⟩ = some (.int .u64 ((CSet.span lo k).a.toNat : Int)) := HB1.out.cell 0; have g1 : w1.cell? ⟨w.heap.size + 1, 1, none⟩ = some (.int .u64 ((CSet.span lo k).b.toNat : Int)) := HB1.out.cell 1; have g2 : w1.cell? ⟨w.heap.size + 1, 2, none⟩ = some (.int .u64 ((CSet.span lo k).c.toNat : Int)) := HB1.out.cell 2; have g3 : w1.cell? ⟨w.heap.size + 1, 3, none⟩ = some (.int .u64 ((CSet.span lo k).d.toNat : Int)) := HB1.out.cell 3; have gf : ∀ i, w1.frozen? ⟨w.heap.size + 1, i, none⟩ = false := HB1.out.frozen)
      clear hb1
      go_wp2
      go_roundw
      case rel => exact ⟨k + 1, .inr (by omega), by go_num, ((((HA1.out.far (by simp) _).far (by simp) _).far (by simp) _).far (by simp) _), ((((HB1.out.put 0 _).put 1 _).put 2 _).put 3 _), by have hb2 := Hb1.out; exact (by repeat (first | exact Below.refl _ _ | assumption | refine Below.setCell ?_ (by first | omega | (simp <;> omega)) _ | refine Below.alloc ?_ (by first | omega | (simp <;> omega)) _ | refine below_drewN ?_ _ | refine Below.drew ?_))⟩
      case measure => simp [intOf]; omega
    · have hn : CSet.span lo k = CSet.between lo hi := by
        unfold CSet.between
        rcases hk with rfl | hk
        · rw [show hi + 1 - lo = 0 by omega]
        · rw [show hi + 1 - lo = k by omega]
      rw [hn] at hB
      (have g0 : wr.cell? ⟨w.heap.size + 1, 0, none⟩ = some (.int .u64 ((CSet.between lo hi).a.toNat : Int)) := hB.cell 0; have g1 : wr.cell? ⟨w.heap.size + 1, 1, none⟩ = some (.int .u64 ((CSet.between lo hi).b.toNat : Int)) := hB.cell 1; have g2 : wr.cell? ⟨w.heap.size + 1, 2, none⟩ = some (.int .u64 ((CSet.between lo hi).c.toNat : Int)) := hB.cell 2; have g3 : wr.cell? ⟨w.heap.size + 1, 3, none⟩ = some (.int .u64 ((CSet.between lo hi).d.toNat : Int)) := hB.cell 3; have gf : ∀ i, wr.frozen? ⟨w.heap.size + 1, i, none⟩ = false := hB.frozen)
      (have z0 : wr.cell? ⟨w.heap.size, 0, none⟩ = some (.int .u64 0) := hA.cell 0; have z1 : wr.cell? ⟨w.heap.size, 1, none⟩ = some (.int .u64 0) := hA.cell 1; have z2 : wr.cell? ⟨w.heap.size, 2, none⟩ = some (.int .u64 0) := hA.cell 2; have z3 : wr.cell? ⟨w.heap.size, 3, none⟩ = some (.int .u64 0) := hA.cell 3; have zf : ∀ i, wr.frozen? ⟨w.heap.size, i, none⟩ = false := hA.frozen)
      have HA := hid_mk hA
      have HB := hid_mk hB
      have Hb := hid_mk hb
      clear hn hk hA hB hb
      go_wp2
      refine bodyPost_ret (v := .agg #[.int .u64 ((CSet.between lo hi).a.toNat : Int), .int .u64 ((CSet.between lo hi).b.toNat : Int), .int .u64 ((CSet.between lo hi).c.toNat : Int), .int .u64 ((CSet.between lo hi).d.toNat : Int)]) (by simp [results, Tryz.results103, go_sem, z0, z1, z2, z3]) rfl ⟨rfl, ?_⟩
      have hb2 := Hb.out
      exact (by repeat (first | exact Below.refl _ _ | assumption | refine Below.setCell ?_ (by first | omega | (simp <;> omega)) _ | refine Below.alloc ?_ (by first | omega | (simp <;> omega)) _ | refine below_drewN ?_ _ | refine Below.drew ?_))
theorem ror_any (S T : CSet) (w : World) : Calls Tryz.prog 112 #[.agg #[.int .u64 ((S).a.toNat : Int), .int .u64 ((S).b.toNat : Int), .int .u64 ((S).c.toNat : Int), .int .u64 ((S).d.toNat : Int)], .agg #[.int .u64 ((T).a.toNat : Int), .int .u64 ((T).b.toNat : Int), .int .u64 ((T).c.toNat : Int), .int .u64 ((T).d.toNat : Int)]] w (RetG (.agg #[.int .u64 ((S.or T).a.toNat : Int), .int .u64 ((S.or T).b.toNat : Int), .int .u64 ((S.or T).c.toNat : Int), .int .u64 ((S.or T).d.toNat : Int)]) w) := by
  go_enter Tryz.func112, Tryz.ntmps112
  go_wp2
  go_loopw [5] (fun v wr => ∃ k : Nat, k ≤ 256 ∧ v = .int .i64 (k : Nat) ∧ Blk wr w.heap.size #[.int .u64 ((S.orTo T k).a.toNat : Int), .int .u64 ((S.orTo T k).b.toNat : Int), .int .u64 ((S.orTo T k).c.toNat : Int), .int .u64 ((S.orTo T k).d.toNat : Int)] 44 ∧ Blk wr (w.heap.size + 1) #[.int .u64 ((T).a.toNat : Int), .int .u64 ((T).b.toNat : Int), .int .u64 ((T).c.toNat : Int), .int .u64 ((T).d.toNat : Int)] 44 ∧ Blk wr (w.heap.size + 2) #[.int .u64 0, .int .u64 0, .int .u64 0, .int .u64 0] 44 ∧ Below w.heap.size w wr) (fun v _ => 256 - (intOf v).toNat)
  case atStart =>
    refine ⟨0, by omega, rfl, ?_, ?_, ?_, (by repeat (first | exact Below.refl _ _ | assumption | refine Below.setCell ?_ (by first | omega | (simp <;> omega)) _ | refine Below.alloc ?_ (by first | omega | (simp <;> omega)) _ | refine below_drewN ?_ _ | refine Below.drew ?_))⟩
    · exact ((Blk.new _ _ _).alloc _).alloc _
    · have := Blk.new (w.alloc (.cells #[.int .u64 ((S).a.toNat : Int), .int .u64 ((S).b.toNat : Int), .int .u64 ((S).c.toNat : Int), .int .u64 ((S).d.toNat : Int)] 44)) #[.int .u64 ((T).a.toNat : Int), .int .u64 ((T).b.toNat : Int), .int .u64 ((T).c.toNat : Int), .int .u64 ((T).d.toNat : Int)] 44
      simp only [World.size_alloc] at this
      exact this.alloc _
    · have := Blk.new ((w.alloc (.cells #[.int .u64 ((S).a.toNat : Int), .int .u64 ((S).b.toNat : Int), .int .u64 ((S).c.toNat : Int), .int .u64 ((S).d.toNat : Int)] 44)).alloc (.cells #[.int .u64 ((T).a.toNat : Int), .int .u64 ((T).b.toNat : Int), .int .u64 ((T).c.toNat : Int), .int .u64 ((T).d.toNat : Int)] 44)) #[.int .u64 0, .int .u64 0, .int .u64 0, .int .u64 0] 44
      simp only [World.size_alloc] at this
      exact this
  case round =>
    obtain ⟨k, hk, rfl, hA, hB, hC, hb⟩ := hrel
    by_cases hlt : k < 256
    · (have g0 : wr.cell? ⟨w.heap.size, 0, none⟩ = some (.int .u64 ((S.orTo T k).a.toNat : Int)) := hA.cell 0; have g1 : wr.cell? ⟨w.heap.size, 1, none⟩ = some (.int .u64 ((S.orTo T k).b.toNat : Int)) := hA.cell 1; have g2 : wr.cell? ⟨w.heap.size, 2, none⟩ = some (.int .u64 ((S.orTo T k).c.toNat : Int)) := hA.cell 2; have g3 : wr.cell? ⟨w.heap.size, 3, none⟩ = some (.int .u64 ((S.orTo T k).d.toNat : Int)) := hA.cell 3; have gf : ∀ i, wr.frozen? ⟨w.heap.size, i, none⟩ = false := hA.frozen)
      (have t0 : wr.cell? ⟨w.heap.size + 1, 0, none⟩ = some (.int .u64 ((T).a.toNat : Int)) := hB.cell 0; have t1 : wr.cell? ⟨w.heap.size + 1, 1, none⟩ = some (.int .u64 ((T).b.toNat : Int)) := hB.cell 1; have t2 : wr.cell? ⟨w.heap.size + 1, 2, none⟩ = some (.int .u64 ((T).c.toNat : Int)) := hB.cell 2; have t3 : wr.cell? ⟨w.heap.size + 1, 3, none⟩ = some (.int .u64 ((T).d.toNat : Int)) := hB.cell 3; have tf : ∀ i, wr.frozen? ⟨w.heap.size + 1, i, none⟩ = false := hB.frozen)
      have HA := hid_mk hA
      have HB := hid_mk hB
      have HC := hid_mk hC
      have Hb := hid_mk hb
      have hsz : w.heap.size + 2 < wr.heap.size := hC.lt
      clear hA hB hC hb hk
      have HH := hide (fun w => rhas_any T k hlt w)
      cases hh : T.has k with
      | true =>
        rw [hh] at HH
        go_wp2_with fail
        refine (unhide HH _).mono ?_
        rintro e w1 ⟨rfl, hb1⟩
        have HA1 := hid_mk (HA.out.call hb1)
        have HB1 := hid_mk (HB.out.call hb1)
        have HC1 := hid_mk (HC.out.call hb1)
        have Hb1 := hid_mk (Hb.out.trans (hb1.mono (by omega)))
        have hsz1 : w.heap.size + 2 < w1.heap.size := Nat.lt_of_lt_of_le hsz hb1.size
        (have g0 : w1.cell? ⟨w.heap.size, 0, none⟩ = some (.int .u64 ((S.orTo T k).a.toNat : Int)) := HA1.out.cell 0; have g1 : w1.cell? ⟨w.heap.size, 1, none⟩ = some (.int .u64 ((S.orTo T k).b.toNat : Int)) := HA1.out.cell 1; have g2 : w1.cell? ⟨w.heap.size, 2, none⟩ = some (.int .u64 ((S.orTo T k).c.toNat : Int)) := HA1.out.cell 2; have g3 : w1.cell? ⟨w.heap.size, 3, none⟩ = some (.int .u64 ((S.orTo T k).d.toNat : Int)) := HA1.out.cell 3; have gf : ∀ i, w1.frozen? ⟨w.heap.size, i, none⟩ = false := HA1.out.frozen)
        clear hb1 HH
        go_wp2_with fail
        refine (rwith_any (S.orTo T k) k hlt _).mono ?_
        rintro e w2 ⟨rfl, hb2⟩
        have HA2 := hid_mk (HA1.out.call hb2)
        have HB2 := hid_mk (HB1.out.call hb2)
        have HC2 := hid_mk (HC1.out.call hb2)
        have Hb2 := hid_mk (Hb1.out.trans (hb2.mono (by omega)))
        (have g0 : w2.cell? ⟨w.heap.size, 0, none⟩ = some (.int .u64 ((S.orTo T k).a.toNat : Int)) := HA2.out.cell 0; have g1 : w2.cell? ⟨w.heap.size, 1, none⟩ = some (.int .u64 ((S.orTo T k).b.toNat : Int)) := HA2.out.cell 1; have g2 : w2.cell? ⟨w.heap.size, 2, none⟩ = some (.int .u64 ((S.orTo T k).c.toNat : Int)) := HA2.out.cell 2; have g3 : w2.cell? ⟨w.heap.size, 3, none⟩ = some (.int .u64 ((S.orTo T k).d.toNat : Int)) := HA2.out.cell 3; have gf : ∀ i, w2.frozen? ⟨w.heap.size, i, none⟩ = false := HA2.out.frozen)
        clear hb2
        have hnext : S.orTo T (k + 1) = (S.orTo T k).put k := by rw [CSet.orTo, if_pos hh]
        have HN := hid_mk hnext
        clear hnext hh
        go_wp2
        go_roundw
        case rel => exact ⟨k + 1, by omega, by go_num, by rw [HN.out]; exact ((((HA2.out.put 0 _).put 1 _).put 2 _).put 3 _), ((((HB2.out.far (by simp) _).far (by simp) _).far (by simp) _).far (by simp) _), ((((HC2.out.far (by simp) _).far (by simp) _).far (by simp) _).far (by simp) _), by have hb2 := Hb2.out; exact (by repeat (first | exact Below.refl _ _ | assumption | refine Below.setCell ?_ (by first | omega | (simp <;> omega)) _ | refine Below.alloc ?_ (by first | omega | (simp <;> omega)) _ | refine below_drewN ?_ _ | refine Below.drew ?_))⟩
        case measure => simp [intOf]; omega
      | false =>
        rw [hh] at HH
        go_wp2_with fail
        refine (unhide HH _).mono ?_
        rintro e w1 ⟨rfl, hb1⟩
        have HA1 := hid_mk (HA.out.call hb1)
        have HB1 := hid_mk (HB.out.call hb1)
        have HC1 := hid_mk (HC.out.call hb1)
        have Hb1 := hid_mk (Hb.out.trans (hb1.mono (by omega)))
        have hnext : S.orTo T (k + 1) = S.orTo T k := by rw [CSet.orTo, if_neg (by simp [hh])]
        have HN := hid_mk hnext
        clear hb1 HH hnext hh
        go_wp2
        go_roundw
        case rel => exact ⟨k + 1, by omega, by go_num, by rw [HN.out]; exact HA1.out, HB1.out, HC1.out, Hb1.out⟩
        case measure => simp [intOf]; omega
    · have hk2 : k = 256 := by omega
      subst hk2
      rw [CSet.orTo_all] at hA
      (have g0 : wr.cell? ⟨w.heap.size, 0, none⟩ = some (.int .u64 ((S.or T).a.toNat : Int)) := hA.cell 0; have g1 : wr.cell? ⟨w.heap.size, 1, none⟩ = some (.int .u64 ((S.or T).b.toNat : Int)) := hA.cell 1; have g2 : wr.cell? ⟨w.heap.size, 2, none⟩ = some (.int .u64 ((S.or T).c.toNat : Int)) := hA.cell 2; have g3 : wr.cell? ⟨w.heap.size, 3, none⟩ = some (.int .u64 ((S.or T).d.toNat : Int)) := hA.cell 3; have gf : ∀ i, wr.frozen? ⟨w.heap.size, i, none⟩ = false := hA.frozen)
      (have z0 : wr.cell? ⟨w.heap.size + 2, 0, none⟩ = some (.int .u64 0) := hC.cell 0; have z1 : wr.cell? ⟨w.heap.size + 2, 1, none⟩ = some (.int .u64 0) := hC.cell 1; have z2 : wr.cell? ⟨w.heap.size + 2, 2, none⟩ = some (.int .u64 0) := hC.cell 2; have z3 : wr.cell? ⟨w.heap.size + 2, 3, none⟩ = some (.int .u64 0) := hC.cell 3; have zf : ∀ i, wr.frozen? ⟨w.heap.size + 2, i, none⟩ = false := hC.frozen)
      have Hb := hid_mk hb
      clear hA hB hC hb hk
      go_wp2
      refine bodyPost_ret (v := .agg #[.int .u64 ((S.or T).a.toNat : Int), .int .u64 ((S.or T).b.toNat : Int), .int .u64 ((S.or T).c.toNat : Int), .int .u64 ((S.or T).d.toNat : Int)]) (by simp [results, Tryz.results112, go_sem, z0, z1, z2, z3]) rfl ⟨rfl, ?_⟩
      have hb2 := Hb.out
      exact (by repeat (first | exact Below.refl _ _ | assumption | refine Below.setCell ?_ (by first | omega | (simp <;> omega)) _ | refine Below.alloc ?_ (by first | omega | (simp <;> omega)) _ | refine below_drewN ?_ _ | refine Below.drew ?_))
theorem rnot_any (S : CSet) (w : World) : Calls Tryz.prog 113 #[.agg #[.int .u64 ((S).a.toNat : Int), .int .u64 ((S).b.toNat : Int), .int .u64 ((S).c.toNat : Int), .int .u64 ((S).d.toNat : Int)]] w (RetG (.agg #[.int .u64 ((S.not).a.toNat : Int), .int .u64 ((S.not).b.toNat : Int), .int .u64 ((S.not).c.toNat : Int), .int .u64 ((S.not).d.toNat : Int)]) w) := by
  go_enter Tryz.func113, Tryz.ntmps113
  go_wp2
  go_loopw [4] (fun v wr => ∃ k : Nat, k ≤ 256 ∧ v = .int .i64 (k : Nat) ∧ Blk wr w.heap.size #[.int .u64 ((S).a.toNat : Int), .int .u64 ((S).b.toNat : Int), .int .u64 ((S).c.toNat : Int), .int .u64 ((S).d.toNat : Int)] 44 ∧ Blk wr (w.heap.size + 1) #[.int .u64 0, .int .u64 0, .int .u64 0, .int .u64 0] 44 ∧ Blk wr (w.heap.size + 2) #[.int .u64 ((S.notTo k).a.toNat : Int), .int .u64 ((S.notTo k).b.toNat : Int), .int .u64 ((S.notTo k).c.toNat : Int), .int .u64 ((S.notTo k).d.toNat : Int)] 44 ∧ Below w.heap.size w wr) (fun v _ => 256 - (intOf v).toNat)
  case atStart =>
    refine ⟨0, by omega, rfl, ?_, ?_, ?_, (by repeat (first | exact Below.refl _ _ | assumption | refine Below.setCell ?_ (by first | omega | (simp <;> omega)) _ | refine Below.alloc ?_ (by first | omega | (simp <;> omega)) _ | refine below_drewN ?_ _ | refine Below.drew ?_))⟩
    · exact ((Blk.new _ _ _).alloc _).alloc _
    · have := Blk.new (w.alloc (.cells #[.int .u64 ((S).a.toNat : Int), .int .u64 ((S).b.toNat : Int), .int .u64 ((S).c.toNat : Int), .int .u64 ((S).d.toNat : Int)] 44)) #[.int .u64 0, .int .u64 0, .int .u64 0, .int .u64 0] 44
      simp only [World.size_alloc] at this
      exact this.alloc _
    · have := Blk.new ((w.alloc (.cells #[.int .u64 ((S).a.toNat : Int), .int .u64 ((S).b.toNat : Int), .int .u64 ((S).c.toNat : Int), .int .u64 ((S).d.toNat : Int)] 44)).alloc (.cells #[.int .u64 0, .int .u64 0, .int .u64 0, .int .u64 0] 44)) #[.int .u64 0, .int .u64 0, .int .u64 0, .int .u64 0] 44
      simp only [World.size_alloc] at this
      exact this
  case round =>
    obtain ⟨k, hk, rfl, hA, hB, hC, hb⟩ := hrel
    by_cases hlt : k < 256
    · (have g0 : wr.cell? ⟨w.heap.size, 0, none⟩ = some (.int .u64 ((S).a.toNat : Int)) := hA.cell 0; have g1 : wr.cell? ⟨w.heap.size, 1, none⟩ = some (.int .u64 ((S).b.toNat : Int)) := hA.cell 1; have g2 : wr.cell? ⟨w.heap.size, 2, none⟩ = some (.int .u64 ((S).c.toNat : Int)) := hA.cell 2; have g3 : wr.cell? ⟨w.heap.size, 3, none⟩ = some (.int .u64 ((S).d.toNat : Int)) := hA.cell 3; have gf : ∀ i, wr.frozen? ⟨w.heap.size, i, none⟩ = false := hA.frozen)
      have HA := hid_mk hA
      have HB := hid_mk hB
      have HC := hid_mk hC
      have Hb := hid_mk hb
      have hsz : w.heap.size + 2 < wr.heap.size := hC.lt
      clear hA hB hC hb hk
      have HH := hide (fun w => rhas_any S k hlt w)
      cases hh : S.has k with
      | false =>
        rw [hh] at HH
        go_wp2_with fail
        refine (unhide HH _).mono ?_
        rintro e w1 ⟨rfl, hb1⟩
        have HA1 := hid_mk (HA.out.call hb1)
        have HB1 := hid_mk (HB.out.call hb1)
        have HC1 := hid_mk (HC.out.call hb1)
        have Hb1 := hid_mk (Hb.out.trans (hb1.mono (by omega)))
        have hsz1 : w.heap.size + 2 < w1.heap.size := Nat.lt_of_lt_of_le hsz hb1.size
        (have g0 : w1.cell? ⟨w.heap.size + 2, 0, none⟩ = some (.int .u64 ((S.notTo k).a.toNat : Int)) := HC1.out.cell 0; have g1 : w1.cell? ⟨w.heap.size + 2, 1, none⟩ = some (.int .u64 ((S.notTo k).b.toNat : Int)) := HC1.out.cell 1; have g2 : w1.cell? ⟨w.heap.size + 2, 2, none⟩ = some (.int .u64 ((S.notTo k).c.toNat : Int)) := HC1.out.cell 2; have g3 : w1.cell? ⟨w.heap.size + 2, 3, none⟩ = some (.int .u64 ((S.notTo k).d.toNat : Int)) := HC1.out.cell 3; have gf : ∀ i, w1.frozen? ⟨w.heap.size + 2, i, none⟩ = false := HC1.out.frozen)
        clear hb1 HH
        go_wp2_with fail
        refine (rwith_any (S.notTo k) k hlt _).mono ?_
        rintro e w2 ⟨rfl, hb2⟩
        have HA2 := hid_mk (HA1.out.call hb2)
        have HB2 := hid_mk (HB1.out.call hb2)
        have HC2 := hid_mk (HC1.out.call hb2)
        have Hb2 := hid_mk (Hb1.out.trans (hb2.mono (by omega)))
        (have g0 : w2.cell? ⟨w.heap.size + 2, 0, none⟩ = some (.int .u64 ((S.notTo k).a.toNat : Int)) := HC2.out.cell 0; have g1 : w2.cell? ⟨w.heap.size + 2, 1, none⟩ = some (.int .u64 ((S.notTo k).b.toNat : Int)) := HC2.out.cell 1; have g2 : w2.cell? ⟨w.heap.size + 2, 2, none⟩ = some (.int .u64 ((S.notTo k).c.toNat : Int)) := HC2.out.cell 2; have g3 : w2.cell? ⟨w.heap.size + 2, 3, none⟩ = some (.int .u64 ((S.notTo k).d.toNat : Int)) := HC2.out.cell 3; have gf : ∀ i, w2.frozen? ⟨w.heap.size + 2, i, none⟩ = false := HC2.out.frozen)
        clear hb2
        have hnext : S.notTo (k + 1) = (S.notTo k).put k := by simp [CSet.notTo, hh]
        have HN := hid_mk hnext
        clear hnext hh
        go_wp2
        go_roundw
        case rel => exact ⟨k + 1, by omega, by go_num, ((((HA2.out.far (by dsimp only; omega) _).far (by dsimp only; omega) _).far (by dsimp only; omega) _).far (by dsimp only; omega) _), ((((HB2.out.far (by dsimp only; omega) _).far (by dsimp only; omega) _).far (by dsimp only; omega) _).far (by dsimp only; omega) _), by rw [HN.out]; exact ((((HC2.out.put 0 _).put 1 _).put 2 _).put 3 _), by have hb2 := Hb2.out; exact (by repeat (first | exact Below.refl _ _ | assumption | refine Below.setCell ?_ (by first | omega | (simp <;> omega)) _ | refine Below.alloc ?_ (by first | omega | (simp <;> omega)) _ | refine below_drewN ?_ _ | refine Below.drew ?_))⟩
        case measure => simp [intOf]; omega
      | true =>
        rw [hh] at HH
        go_wp2_with fail
        refine (unhide HH _).mono ?_
        rintro e w1 ⟨rfl, hb1⟩
        have HA1 := hid_mk (HA.out.call hb1)
        have HB1 := hid_mk (HB.out.call hb1)
        have HC1 := hid_mk (HC.out.call hb1)
        have Hb1 := hid_mk (Hb.out.trans (hb1.mono (by omega)))
        have hnext : S.notTo (k + 1) = S.notTo k := by simp [CSet.notTo, hh]
        have HN := hid_mk hnext
        clear hb1 HH hnext hh
        go_wp2
        go_roundw
        case rel => exact ⟨k + 1, by omega, by go_num, HA1.out, HB1.out, by rw [HN.out]; exact HC1.out, Hb1.out⟩
        case measure => simp [intOf]; omega
    · have hk2 : k = 256 := by omega
      subst hk2
      rw [CSet.notTo_all] at hC
      (have g0 : wr.cell? ⟨w.heap.size + 2, 0, none⟩ = some (.int .u64 ((S.not).a.toNat : Int)) := hC.cell 0; have g1 : wr.cell? ⟨w.heap.size + 2, 1, none⟩ = some (.int .u64 ((S.not).b.toNat : Int)) := hC.cell 1; have g2 : wr.cell? ⟨w.heap.size + 2, 2, none⟩ = some (.int .u64 ((S.not).c.toNat : Int)) := hC.cell 2; have g3 : wr.cell? ⟨w.heap.size + 2, 3, none⟩ = some (.int .u64 ((S.not).d.toNat : Int)) := hC.cell 3; have gf : ∀ i, wr.frozen? ⟨w.heap.size + 2, i, none⟩ = false := hC.frozen)
      (have z0 : wr.cell? ⟨w.heap.size + 1, 0, none⟩ = some (.int .u64 0) := hB.cell 0; have z1 : wr.cell? ⟨w.heap.size + 1, 1, none⟩ = some (.int .u64 0) := hB.cell 1; have z2 : wr.cell? ⟨w.heap.size + 1, 2, none⟩ = some (.int .u64 0) := hB.cell 2; have z3 : wr.cell? ⟨w.heap.size + 1, 3, none⟩ = some (.int .u64 0) := hB.cell 3; have zf : ∀ i, wr.frozen? ⟨w.heap.size + 1, i, none⟩ = false := hB.frozen)
      have Hb := hid_mk hb
      clear hA hB hC hb hk
      go_wp2
      refine bodyPost_ret (v := .agg #[.int .u64 ((S.not).a.toNat : Int), .int .u64 ((S.not).b.toNat : Int), .int .u64 ((S.not).c.toNat : Int), .int .u64 ((S.not).d.toNat : Int)]) (by simp [results, Tryz.results113, go_sem, z0, z1, z2, z3]) rfl ⟨rfl, ?_⟩
      have hb2 := Hb.out
      exact (by repeat (first | exact Below.refl _ _ | assumption | refine Below.setCell ?_ (by first | omega | (simp <;> omega)) _ | refine Below.alloc ?_ (by first | omega | (simp <;> omega)) _ | refine below_drewN ?_ _ | refine Below.drew ?_))
theorem rfirst_any (S : CSet) (w : World) : Calls Tryz.prog 122 #[.agg #[.int .u64 ((S).a.toNat : Int), .int .u64 ((S).b.toNat : Int), .int .u64 ((S).c.toNat : Int), .int .u64 ((S).d.toNat : Int)]] w (RetG (.int .i64 S.first) w) := by
  go_enter Tryz.func122, Tryz.ntmps122
  go_wp2
  go_loopw [3] (fun v wr => ∃ k : Nat, k ≤ 256 ∧ v = .int .i64 (k : Nat) ∧ Blk wr w.heap.size #[.int .u64 ((S).a.toNat : Int), .int .u64 ((S).b.toNat : Int), .int .u64 ((S).c.toNat : Int), .int .u64 ((S).d.toNat : Int)] 44 ∧ (∀ j, j < k → S.has j = false) ∧ Below w.heap.size w wr) (fun v _ => 256 - (intOf v).toNat)
  case atStart => exact ⟨0, by omega, rfl, Blk.new _ _ _, fun j h => absurd h (by omega), (by repeat (first | exact Below.refl _ _ | assumption | refine Below.setCell ?_ (by first | omega | (simp <;> omega)) _ | refine Below.alloc ?_ (by first | omega | (simp <;> omega)) _ | refine below_drewN ?_ _ | refine Below.drew ?_))⟩
  case round =>
    obtain ⟨k, hk, rfl, hA, hp, hb⟩ := hrel
    have HP := hid_mk hp
    by_cases hlt : k < 256
    · (have g0 : wr.cell? ⟨w.heap.size, 0, none⟩ = some (.int .u64 ((S).a.toNat : Int)) := hA.cell 0; have g1 : wr.cell? ⟨w.heap.size, 1, none⟩ = some (.int .u64 ((S).b.toNat : Int)) := hA.cell 1; have g2 : wr.cell? ⟨w.heap.size, 2, none⟩ = some (.int .u64 ((S).c.toNat : Int)) := hA.cell 2; have g3 : wr.cell? ⟨w.heap.size, 3, none⟩ = some (.int .u64 ((S).d.toNat : Int)) := hA.cell 3; have gf : ∀ i, wr.frozen? ⟨w.heap.size, i, none⟩ = false := hA.frozen)
      have HA := hid_mk hA
      have Hb := hid_mk hb
      have hsz : w.heap.size < wr.heap.size := hA.lt
      clear hA hb hk hp
      have HH := hide (fun w => rhas_any S k hlt w)
      cases hh : S.has k with
      | false =>
        rw [hh] at HH
        have HN := hid_mk hh
        clear hh
        go_wp2_with fail
        refine (unhide HH _).mono ?_
        rintro e w1 ⟨rfl, hb1⟩
        have HA1 := hid_mk (HA.out.call hb1)
        have Hb1 := hid_mk (Hb.out.trans (hb1.mono (by omega)))
        clear hb1 HH
        go_wp2
        go_roundw
        case rel => exact ⟨k + 1, by omega, by go_num, HA1.out, fun j hj => by
          by_cases e : j = k
          · subst e; exact HN.out
          · exact HP.out j (by omega), Hb1.out⟩
        case measure => simp [intOf]; omega
      | true =>
        rw [hh] at HH
        have hf : S.first = k := CSet.first_at S 256 0 k (by omega) (by omega) hh (fun j _ hj => HP.out j hj)
        have HF := hid_mk hf
        clear hh hf
        go_wp2_with fail
        refine (unhide HH _).mono ?_
        rintro e w1 ⟨rfl, hb1⟩
        have Hb1 := hid_mk (Hb.out.trans (hb1.mono (by omega)))
        clear hb1 HH
        go_wp2
        go_ret
        exact ⟨by rw [HF.out]; rfl, Hb1.out⟩
    · have hf : S.first = -1 := CSet.first_none S 256 0 (fun j _ hj => HP.out j (by omega))
      have HF := hid_mk hf
      have Hb := hid_mk hb
      clear hf hA hb hk hp
      go_wp2
      go_ret
      exact ⟨by rw [HF.out]; rfl, Hb.out⟩
def TabW (w : World) : Prop := TabAt 3 Lib.deBruijn64tab w ∧ 3 < w.heap.size
theorem TabW.below {w w' : World} (h : TabW w) (hb : Below w.heap.size w w') : TabW w' := ⟨fun j hj => (hb.cell (p := ⟨3, j, none⟩) h.2).trans (h.1 j hj), Nat.lt_of_lt_of_le h.2 hb.size⟩
theorem TabW.drewN {w : World} (h : TabW w) (n : Nat) : TabW (w.drewN n) := h
theorem tz_core (x k idx : Nat) (w : World) (hx0 : ((x : Int) == 0) = false)
    (key : IntKind.u64.wrap (bits BinOp.and IntKind.u64 (x : Int) (IntKind.u64.wrap (-(x : Int))) * 285870213051353865) / 288230376151711744 = (idx : Int))
    (hi : idx < 64) (hk : k < 64) (hcell : w.cell? ⟨3, idx, none⟩ = some (.int .u8 k)) : Calls Tryz.prog 131 #[.int .u64 x] w (Ret (.int .i64 k) w) := by
  go_enter Tryz.func131, Tryz.ntmps131
  go_wp2_with (simp only [key])
  go_ret
  exact ⟨rfl, rfl⟩
theorem tz_any (x : BitVec 64) (w : World) (hT : TabW w) (hx0 : x.toNat ≠ 0) : Calls Tryz.prog 131 #[.int .u64 (x.toNat : Int)] w (Ret (.int .i64 (Lib.ctz 64 x.toNat)) w) := by
  obtain ⟨hlow, hk⟩ := Lib.lowest_bit 64 x.toNat hx0 x.isLt
  obtain ⟨hi, htab⟩ := Lib.deBruijn64_at _ hk
  have hcell := hT.1 _ hi
  rw [htab] at hcell
  exact tz_core x.toNat _ _ w (by simp; omega) (tz64_key x.toNat _ x.isLt hx0 hlow) hi hk hcell
theorem retg_int {k : IntKind} {a b : Int} {w w' : World} (h : a = b) (hb : Below w.heap.size w w') : RetG (.int k b) w (.returned (.int k a)) w' := ⟨by rw [h], hb⟩
theorem ctz_bits (x : BitVec 64) (h : x.toNat ≠ 0) : Lib.ctz 64 x.toNat < 64 ∧ x.getLsbD (Lib.ctz 64 x.toNat) = true ∧ ∀ j, j < Lib.ctz 64 x.toNat → x.getLsbD j = false := by
  obtain ⟨m, hm, hk⟩ := Lib.ctzFrom_spec 64 x.toNat (by omega) x.isLt
  have e : Lib.ctz 64 x.toNat = Lib.ctzFrom 64 x.toNat := by unfold Lib.ctz; rw [if_neg h]
  rw [e]
  generalize Lib.ctzFrom 64 x.toNat = c at *
  refine ⟨hk, ?_, fun j hj => ?_⟩
  · rw [BitVec.getLsbD, hm, Nat.mul_comm, Nat.testBit_mul_two_pow]
    simp [Nat.testBit_zero]
  · rw [BitVec.getLsbD, hm, Nat.mul_comm, Nat.testBit_mul_two_pow]
    simp; omega
theorem first_word (S : CSet) (k : Nat) (hk : k < 4) (hp : ∀ i, i < k → (S.word i).toNat = 0) (h : (S.word k).toNat ≠ 0) : S.first = 64 * (k : Int) + (Lib.ctz 64 (S.word k).toNat : Nat) := by
  obtain ⟨h1, h2, h3⟩ := ctz_bits (S.word k) h
  have := CSet.first_at S 256 0 (64 * k + Lib.ctz 64 (S.word k).toNat) (by omega) (by omega) (by
    unfold CSet.has
    rw [show (64 * k + Lib.ctz 64 (S.word k).toNat) / 64 = k by omega, show (64 * k + Lib.ctz 64 (S.word k).toNat) % 64 = Lib.ctz 64 (S.word k).toNat by omega]
    exact h2) (fun j _ hj => by
    unfold CSet.has
    by_cases e : j / 64 = k
    · rw [e]
      exact h3 _ (by omega)
    · have h0 := hp (j / 64) (by omega)
      rw [BitVec.getLsbD, h0]
      simp)
  unfold CSet.first
  rw [this]
  omega
theorem first_zero (S : CSet) (hp : ∀ i, i < 4 → (S.word i).toNat = 0) : S.first = -1 := CSet.first_none S 256 0 (fun j _ hj => by
  unfold CSet.has
  rw [BitVec.getLsbD, hp (j / 64) (by omega)]
  simp)
theorem first_any (S : CSet) (w : World) (hT : TabW w) : Calls Tryz.prog 130 #[.agg #[.int .u64 ((S).a.toNat : Int), .int .u64 ((S).b.toNat : Int), .int .u64 ((S).c.toNat : Int), .int .u64 ((S).d.toNat : Int)]] w (RetG (.int .i64 S.first) w) := by
  have i0 : ∀ w, (Instr.index 44 (.agg #[.int .u64 ((S).a.toNat : Int), .int .u64 ((S).b.toNat : Int), .int .u64 ((S).c.toNat : Int), .int .u64 ((S).d.toNat : Int)]) (.int .i64 0)).run Tryz.prog w = .ok (.int .u64 (S.a.toNat : Int)) w := fun _ => by kernel_rfl
  have i1 : ∀ w, (Instr.index 44 (.agg #[.int .u64 ((S).a.toNat : Int), .int .u64 ((S).b.toNat : Int), .int .u64 ((S).c.toNat : Int), .int .u64 ((S).d.toNat : Int)]) (.int .i64 1)).run Tryz.prog w = .ok (.int .u64 (S.b.toNat : Int)) w := fun _ => by kernel_rfl
  have i2 : ∀ w, (Instr.index 44 (.agg #[.int .u64 ((S).a.toNat : Int), .int .u64 ((S).b.toNat : Int), .int .u64 ((S).c.toNat : Int), .int .u64 ((S).d.toNat : Int)]) (.int .i64 2)).run Tryz.prog w = .ok (.int .u64 (S.c.toNat : Int)) w := fun _ => by kernel_rfl
  have i3 : ∀ w, (Instr.index 44 (.agg #[.int .u64 ((S).a.toNat : Int), .int .u64 ((S).b.toNat : Int), .int .u64 ((S).c.toNat : Int), .int .u64 ((S).d.toNat : Int)]) (.int .i64 3)).run Tryz.prog w = .ok (.int .u64 (S.d.toNat : Int)) w := fun _ => by kernel_rfl
  have HT := hid_mk hT
  clear hT
  go_enter Tryz.func130, Tryz.ntmps130
  go_wp2
  go_loop [3, 4, 6] (fun _ _ v => ∃ k : Nat, k ≤ 4 ∧ v = .int .i64 (k : Nat) ∧ (∀ i, i < k → (S.word i).toNat = 0)) (fun _ _ v => 4 - (intOf v).toNat)
  case atStart => exact ⟨0, by omega, rfl, fun i hi => absurd hi (by omega)⟩
  case round =>
    obtain ⟨k, hk, rfl, hp⟩ := hrel
    have h5 : k = 0 ∨ k = 1 ∨ k = 2 ∨ k = 3 ∨ k = 4 := by omega
    have HP := hid_mk hp
    clear hp
    rcases h5 with rfl | rfl | rfl | rfl | rfl
    · by_cases hz : S.a.toNat = 0
      · have hz1 : ((S.a.toNat : Int) != 0) = false := by simp [hz]
        have HZ := hid_mk hz
        clear hz
        go_wp2
        go_round
        case rel => exact ⟨1, by omega, rfl, fun i hi => by
          by_cases e : i = 0
          · subst e; exact HZ.out
          · exact HP.out i (by omega)⟩
        case measure => simp [intOf]
      · have hz1 : ((S.a.toNat : Int) != 0) = true := by simp [hz]
        have hf := first_word S 0 (by omega) HP.out hz
        have hl := (ctz_bits S.a hz).1
        have HC := hide (tz_any S.a (w.alloc (.cells #[.int .u64 ((S).a.toNat : Int), .int .u64 ((S).b.toNat : Int), .int .u64 ((S).c.toNat : Int), .int .u64 ((S).d.toNat : Int)] 44)) (HT.out.below (by repeat (first | exact Below.refl _ _ | assumption | refine Below.setCell ?_ (by first | omega | (simp <;> omega)) _ | refine Below.alloc ?_ (by first | omega | (simp <;> omega)) _ | refine below_drewN ?_ _ | refine Below.drew ?_))) hz)
        have HF := hid_mk hf
        simp only [CSet.word] at HF
        generalize Lib.ctz 64 S.a.toNat = c at *
        clear hz hf
        go_wp2_with (go_at_call 131; refine (unhide HC).mono ?_; rintro e w' ⟨rfl, rfl⟩)
        go_ret
        exact retg_int (by have := HF.out; omega) (by repeat (first | exact Below.refl _ _ | assumption | refine Below.setCell ?_ (by first | omega | (simp <;> omega)) _ | refine Below.alloc ?_ (by first | omega | (simp <;> omega)) _ | refine below_drewN ?_ _ | refine Below.drew ?_))
    · by_cases hz : S.b.toNat = 0
      · have hz1 : ((S.b.toNat : Int) != 0) = false := by simp [hz]
        have HZ := hid_mk hz
        clear hz
        go_wp2
        go_round
        case rel => exact ⟨2, by omega, rfl, fun i hi => by
          by_cases e : i = 1
          · subst e; exact HZ.out
          · exact HP.out i (by omega)⟩
        case measure => simp [intOf]
      · have hz1 : ((S.b.toNat : Int) != 0) = true := by simp [hz]
        have hf := first_word S 1 (by omega) HP.out hz
        have hl := (ctz_bits S.b hz).1
        have HC := hide (tz_any S.b (w.alloc (.cells #[.int .u64 ((S).a.toNat : Int), .int .u64 ((S).b.toNat : Int), .int .u64 ((S).c.toNat : Int), .int .u64 ((S).d.toNat : Int)] 44)) (HT.out.below (by repeat (first | exact Below.refl _ _ | assumption | refine Below.setCell ?_ (by first | omega | (simp <;> omega)) _ | refine Below.alloc ?_ (by first | omega | (simp <;> omega)) _ | refine below_drewN ?_ _ | refine Below.drew ?_))) hz)
        have HF := hid_mk hf
        simp only [CSet.word] at HF
        generalize Lib.ctz 64 S.b.toNat = c at *
        clear hz hf
        go_wp2_with (go_at_call 131; refine (unhide HC).mono ?_; rintro e w' ⟨rfl, rfl⟩)
        go_ret
        exact retg_int (by have := HF.out; omega) (by repeat (first | exact Below.refl _ _ | assumption | refine Below.setCell ?_ (by first | omega | (simp <;> omega)) _ | refine Below.alloc ?_ (by first | omega | (simp <;> omega)) _ | refine below_drewN ?_ _ | refine Below.drew ?_))
    · by_cases hz : S.c.toNat = 0
      · have hz1 : ((S.c.toNat : Int) != 0) = false := by simp [hz]
        have HZ := hid_mk hz
        clear hz
        go_wp2
        go_round
        case rel => exact ⟨3, by omega, rfl, fun i hi => by
          by_cases e : i = 2
          · subst e; exact HZ.out
          · exact HP.out i (by omega)⟩
        case measure => simp [intOf]
      · have hz1 : ((S.c.toNat : Int) != 0) = true := by simp [hz]
        have hf := first_word S 2 (by omega) HP.out hz
        have hl := (ctz_bits S.c hz).1
        have HC := hide (tz_any S.c (w.alloc (.cells #[.int .u64 ((S).a.toNat : Int), .int .u64 ((S).b.toNat : Int), .int .u64 ((S).c.toNat : Int), .int .u64 ((S).d.toNat : Int)] 44)) (HT.out.below (by repeat (first | exact Below.refl _ _ | assumption | refine Below.setCell ?_ (by first | omega | (simp <;> omega)) _ | refine Below.alloc ?_ (by first | omega | (simp <;> omega)) _ | refine below_drewN ?_ _ | refine Below.drew ?_))) hz)
        have HF := hid_mk hf
        simp only [CSet.word] at HF
        generalize Lib.ctz 64 S.c.toNat = c at *
        clear hz hf
        go_wp2_with (go_at_call 131; refine (unhide HC).mono ?_; rintro e w' ⟨rfl, rfl⟩)
        go_ret
        exact retg_int (by have := HF.out; omega) (by repeat (first | exact Below.refl _ _ | assumption | refine Below.setCell ?_ (by first | omega | (simp <;> omega)) _ | refine Below.alloc ?_ (by first | omega | (simp <;> omega)) _ | refine below_drewN ?_ _ | refine Below.drew ?_))
    · by_cases hz : S.d.toNat = 0
      · have hz1 : ((S.d.toNat : Int) != 0) = false := by simp [hz]
        have HZ := hid_mk hz
        clear hz
        go_wp2
        go_round
        case rel => exact ⟨4, by omega, rfl, fun i hi => by
          by_cases e : i = 3
          · subst e; exact HZ.out
          · exact HP.out i (by omega)⟩
        case measure => simp [intOf]
      · have hz1 : ((S.d.toNat : Int) != 0) = true := by simp [hz]
        have hf := first_word S 3 (by omega) HP.out hz
        have hl := (ctz_bits S.d hz).1
        have HC := hide (tz_any S.d (w.alloc (.cells #[.int .u64 ((S).a.toNat : Int), .int .u64 ((S).b.toNat : Int), .int .u64 ((S).c.toNat : Int), .int .u64 ((S).d.toNat : Int)] 44)) (HT.out.below (by repeat (first | exact Below.refl _ _ | assumption | refine Below.setCell ?_ (by first | omega | (simp <;> omega)) _ | refine Below.alloc ?_ (by first | omega | (simp <;> omega)) _ | refine below_drewN ?_ _ | refine Below.drew ?_))) hz)
        have HF := hid_mk hf
        simp only [CSet.word] at HF
        generalize Lib.ctz 64 S.d.toNat = c at *
        clear hz hf
        go_wp2_with (go_at_call 131; refine (unhide HC).mono ?_; rintro e w' ⟨rfl, rfl⟩)
        go_ret
        exact retg_int (by have := HF.out; omega) (by repeat (first | exact Below.refl _ _ | assumption | refine Below.setCell ?_ (by first | omega | (simp <;> omega)) _ | refine Below.alloc ?_ (by first | omega | (simp <;> omega)) _ | refine below_drewN ?_ _ | refine Below.drew ?_))
    · have hf := first_zero S HP.out
      have HF := hid_mk hf
      clear hf
      go_wp2
      go_ret
      exact ⟨by rw [HF.out]; rfl, (by repeat (first | exact Below.refl _ _ | assumption | refine Below.setCell ?_ (by first | omega | (simp <;> omega)) _ | refine Below.alloc ?_ (by first | omega | (simp <;> omega)) _ | refine below_drewN ?_ _ | refine Below.drew ?_))⟩
end Go.Proofs.YtampjnpnekekiaaGreatDoor
namespace Go.Proofs.YtampjnpnekekiaaGreatDoor
open Go Go.RowKit Ab
set_option linter.unusedVariables false
set_option maxRecDepth 100000
def setV (S : CSet) : V := .agg [fI .u64 S.a.toNat, fI .u64 S.b.toNat, fI .u64 S.c.toNat, fI .u64 S.d.toNat]
theorem tab_bits {G : Nat → Prop} {w : World} (h : Tab G w) (hG : ∀ b, G b → b < w.heap.size) : TabW w := by
  obtain ⟨h1, h2⟩ := h (3, Lib.deBruijn64tab.map fun n => .int .u8 (Int.ofNat n)) (by simp [tabs])
  refine ⟨fun j hj => ?_, hG _ h1⟩
  rw [h2 j (.int .u8 (Int.ofNat (Lib.deBruijn64tab.getD j 0))) (by
    simp only [List.getElem?_map, List.getD_eq_getElem?_getD]
    have : j < Lib.deBruijn64tab.length := by simpa using hj
    rw [List.getElem?_eq_getElem this]
    rfl)]
  rfl
section
variable (S T : CSet) {x y : Int} {lo hi b : Nat}
theorem f_of (hx : x = lo) (hy : y = hi) (h1 : lo < 256) (h2 : hi < 256) : FunS Tryz.prog 117 [fI .u8 x, fI .u8 y] setV (CSet.between lo hi) := by
  subst hx hy
  exact fun_elder (Tryz.call117) rfl rfl fun G w _ _ => of_any lo hi h1 h2 w
theorem f_or : FunS Tryz.prog 123 [setV S, setV T] setV (S.or T) := fun_elder (Tryz.call123) rfl rfl fun G w _ _ => or_any S T w
theorem f_not : FunS Tryz.prog 125 [setV S] setV S.not := fun_elder (Tryz.call125) rfl rfl fun G w _ _ => not_any S w
theorem f_has (hx : x = b) (h : b < 256) : FunS Tryz.prog 156 [setV S, fI .u8 x] shB (S.has b) := by
  subst hx
  exact fun_elder (Tryz.call156) rfl rfl fun G w _ _ => has_any S b h w
theorem f_first : FunS Tryz.prog 130 [setV S] shI S.first := fun_elder (Tryz.call130) rfl rfl fun G w hT hG => first_any S w (tab_bits hT hG)
theorem f_rof (hx : x = lo) (hy : y = hi) (h1 : lo < 256) (h2 : hi < 256) : FunS Tryz.prog 103 [fI .i64 x, fI .i64 y] setV (CSet.between lo hi) := by
  subst hx hy
  exact fun_elder (Tryz.call103) rfl rfl fun G w _ _ => rbetween_any lo hi h1 h2 w
theorem f_ror : FunS Tryz.prog 112 [setV S, setV T] setV (S.or T) := fun_elder (Tryz.call112) rfl rfl fun G w _ _ => ror_any S T w
theorem f_rnot : FunS Tryz.prog 113 [setV S] setV S.not := fun_elder (Tryz.call113) rfl rfl fun G w _ _ => rnot_any S w
theorem f_rwith (hx : x = b) (h : b < 256) : FunS Tryz.prog 110 [setV S, fI .i64 x] setV (S.put b) := by
  subst hx
  exact fun_elder (Tryz.call110) rfl rfl fun G w _ _ => rwith_any S b h w
theorem f_rfirst : FunS Tryz.prog 122 [setV S] shI S.first := fun_elder (Tryz.call122) rfl rfl fun G w _ _ => rfirst_any S w
end
end Go.Proofs.YtampjnpnekekiaaGreatDoor
namespace Go.Proofs.YtampjnpnekekiaaGreatDoor
open Go Go.RowKit
set_option linter.unusedVariables false
set_option linter.unusedSimpArgs false
set_option maxRecDepth 100000
open Ab
namespace Rd
def rdOut {α : Type} (s : ByteArray) (op : Int) (sh : α → V) : Res α → Out
  | .ok a p => .ret (sh a) (rd s p op)
  | .bad e p => .pan (faultV e p)
  | .out => .ret .junk []
theorem ret_eq {α : Type} {s : ByteArray} {op : Int} {sh : α → V} {a : α} {p : Nat} {v : V} {J : Int} (hv : nrm v = sh a) (hJ : J = (p : Int)) : rdOut s op sh (.ok a p) = .ret (nrm v) [fS s, fI .i64 J, fI .i64 op] := by subst hJ; rw [hv]; rfl
theorem pan_eq {α : Type} {s : ByteArray} {op : Int} {sh : α → V} {e : Int} {p : Nat} {X : Int} (hX : X = (p : Int)) : rdOut s op sh (.bad e p : Res α) = .pan (nrm (faultV e X)) := by subst hX; rfl
theorem hex_f {b : Int} (h0 : -1 ≤ b) (h1 : b ≤ 255) : FunS Tryz.prog 128 [fI .i64 b] shI (Rx.hexv b) := by
  refine fun_of lay_ok (Tryz.call128) (Tryz.func128) rfl ?_
  intro A E Q hE hf hQ
  cbv
  repeat' (first | (refine r_true hE rfl ?_; cbv) | (refine r_false hE rfl ?_; cbv) | (refine c_eql hE (fun h => ?_) (fun h => ?_) <;> first | (exfalso; omega) | cbv) | (refine c_neq hE (fun h => ?_) (fun h => ?_) <;> first | (exfalso; omega) | cbv) | (refine c_lss hE (fun h => ?_) (fun h => ?_) <;> first | (exfalso; omega) | cbv) | (refine c_leq hE (fun h => ?_) (fun h => ?_) <;> first | (exfalso; omega) | cbv) | (refine c_gtr hE (fun h => ?_) (fun h => ?_) <;> first | (exfalso; omega) | cbv) | (refine c_geq hE (fun h => ?_) (fun h => ?_) <;> first | (exfalso; omega) | cbv) | (refine c_seql hE (fun h => ?_) (fun h => ?_) <;> first | (exfalso; omega) | cbv) | (refine c_sneq hE (fun h => ?_) (fun h => ?_) <;> first | (exfalso; omega) | cbv) | (refine r_sin hE ?_ ?_ ?_; rotate_left 2; cbv) | (refine r_ssin hE ?_ ?_ ?_ ?_; rotate_left 3; cbv) | (refine use_draw hE lay_ok (by kernel_rfl) (by kernel_rfl) ?_; cbv) | (refine c_b hE (fun h => ?_) (fun h => ?_) <;> cbv))
  all_goals (refine (hQ _ _ _ rfl rfl (nrm_i ?_)).1; subst hE; dsimp only [dom, arF] at *; unfold Rx.hexv; (try simp only [IntKind.wrap_i64]); (repeat' split) <;> omega)
theorem digits_f : FunS Tryz.prog 126 [] setV Rx.digits := by
  refine fun_of lay_ok (Tryz.call126) (Tryz.func126) rfl ?_
  intro A E Q hE hf hQ
  have h := f_of (x := 48) (y := 57) (lo := 48) (hi := 57) rfl rfl (by decide) (by decide)
  cbv
  refine use_s hE h rfl rfl fun x hx => ?_
  cbv
  exact And.left (hQ _ _ _ rfl rfl (by rw [hx]; rfl))
theorem words_f : FunS Tryz.prog 127 [] setV Rx.words := by
  refine fun_of lay_ok (Tryz.call127) (Tryz.func127) rfl ?_
  intro A E Q hE hf hQ
  have h1 := f_of (x := 65) (y := 90) (lo := 65) (hi := 90) rfl rfl (by decide) (by decide)
  have h2 := f_of (x := 97) (y := 122) (lo := 97) (hi := 122) rfl rfl (by decide) (by decide)
  have h3 := f_of (x := 95) (y := 95) (lo := 95) (hi := 95) rfl rfl (by decide) (by decide)
  cbv
  refine use_s hE digits_f rfl rfl fun x hx => ?_
  cbv
  refine use_s hE h1 rfl rfl fun x1 hx1 => ?_
  cbv
  refine use_s hE (f_or x x1) rfl rfl fun x2 hx2 => ?_
  cbv
  refine use_s hE h2 rfl rfl fun x3 hx3 => ?_
  cbv
  refine use_s hE h3 rfl rfl fun x4 hx4 => ?_
  cbv
  refine use_s hE (f_or x3 x4) rfl rfl fun x5 hx5 => ?_
  cbv
  refine use_s hE (f_or x2 x5) rfl rfl fun x6 hx6 => ?_
  cbv
  exact (hQ _ _ _ rfl rfl (by subst hx6 hx5 hx4 hx3 hx2 hx1 hx; rfl)).1
theorem need_yes (s : ByteArray) {i : Int} (op : Int) {b : Int} (h0 : 0 ≤ i) (hb : b = pkI s i) (hp : 0 ≤ b) (h1 : i ≤ 1000) : Meth Tryz.prog 109 115 (rd s i op) [fI .u8 b] (.ret (.tup []) (rd s (i + 1) op)) := by
  refine meth_of lay_ok (Tryz.call109) (Tryz.func109) rfl ?_
  intro A E Q hE hf hQ
  have hp := peek_c s op h0
  have ha : E.ar .add .i64 i 1 = i + 1 := e_add hE (by omega) (by omega)
  have hc : E.conv .i64 b = b := by rw [e_conv hE, IntKind.wrap_i64]; have := (pkb s.data.toList i.toNat).2; have : pkI s i ≤ 255 := this; omega
  rw [← hb] at hp
  clear hb
  cbv
  repeat' (first | (refine r_true hE rfl ?_; cbv) | (refine r_false hE rfl ?_; cbv) | (refine use_meth hE hp rfl rfl rfl rfl rfl ?_; cbv) | (refine c_eql hE (fun h => ?_) (fun h => ?_) <;> first | (exfalso; omega) | cbv) | (refine c_neq hE (fun h => ?_) (fun h => ?_) <;> first | (exfalso; omega) | cbv) | (refine c_lss hE (fun h => ?_) (fun h => ?_) <;> first | (exfalso; omega) | cbv) | (refine c_leq hE (fun h => ?_) (fun h => ?_) <;> first | (exfalso; omega) | cbv) | (refine c_gtr hE (fun h => ?_) (fun h => ?_) <;> first | (exfalso; omega) | cbv) | (refine c_geq hE (fun h => ?_) (fun h => ?_) <;> first | (exfalso; omega) | cbv) | (refine c_seql hE (fun h => ?_) (fun h => ?_) <;> first | (exfalso; omega) | cbv) | (refine c_sneq hE (fun h => ?_) (fun h => ?_) <;> first | (exfalso; omega) | cbv) | (refine r_sin hE ?_ ?_ ?_; rotate_left 2; cbv) | (refine r_ssin hE ?_ ?_ ?_ ?_; rotate_left 3; cbv) | (refine use_draw hE lay_ok (by kernel_rfl) (by kernel_rfl) ?_; cbv) | (refine c_b hE (fun h => ?_) (fun h => ?_) <;> cbv))
  · exact absurd hc.symm h
  · refine And.right (hQ _ _ _ _ _ rfl rfl rfl rfl rfl ?_)
    rw [rd, ← ha]; rfl
theorem need_end (s : ByteArray) {i : Int} (op : Int) {b : Int} (h0 : 0 ≤ i) (h : (s.size : Int) ≤ i) (hb : 0 ≤ b ∧ b ≤ 255) : Meth Tryz.prog 109 115 (rd s i op) [fI .u8 b] (.pan (faultV 1 s.size)) := by
  refine methP_of lay_ok (Tryz.call109) (Tryz.func109) rfl ?_
  intro A E Q hE hf hP
  have hp := peek_c s op h0
  have hw := wrong_end s op h0 h
  have hc : E.conv .i64 b = b := by rw [e_conv hE, IntKind.wrap_i64]; omega
  rw [pkI_ge h0 h] at hp
  generalize ((s.size : Nat) : Int) = sz at *
  cbv
  repeat' (first | (refine r_true hE rfl ?_; cbv) | (refine r_false hE rfl ?_; cbv) | (refine use_meth hE hp rfl rfl rfl rfl rfl ?_; cbv) | (refine c_eql hE (fun h => ?_) (fun h => ?_) <;> first | (exfalso; omega) | cbv) | (refine c_neq hE (fun h => ?_) (fun h => ?_) <;> first | (exfalso; omega) | cbv) | (refine c_lss hE (fun h => ?_) (fun h => ?_) <;> first | (exfalso; omega) | cbv) | (refine c_leq hE (fun h => ?_) (fun h => ?_) <;> first | (exfalso; omega) | cbv) | (refine c_gtr hE (fun h => ?_) (fun h => ?_) <;> first | (exfalso; omega) | cbv) | (refine c_geq hE (fun h => ?_) (fun h => ?_) <;> first | (exfalso; omega) | cbv) | (refine c_seql hE (fun h => ?_) (fun h => ?_) <;> first | (exfalso; omega) | cbv) | (refine c_sneq hE (fun h => ?_) (fun h => ?_) <;> first | (exfalso; omega) | cbv) | (refine r_sin hE ?_ ?_ ?_; rotate_left 2; cbv) | (refine r_ssin hE ?_ ?_ ?_ ?_; rotate_left 3; cbv) | (refine use_draw hE lay_ok (by kernel_rfl) (by kernel_rfl) ?_; cbv) | (refine c_b hE (fun h => ?_) (fun h => ?_) <;> cbv))
  · refine use_methP hE hw rfl rfl rfl rfl rfl ?_
    exact hP _ _ _ rfl rfl rfl
  · exact absurd (h.trans hc) (by omega)
theorem need_form (s : ByteArray) {i : Int} (op : Int) {b : Int} (h0 : 0 ≤ i) (h : i < (s.size : Int)) (hb : 0 ≤ b ∧ b ≤ 255) (hn : pkI s i ≠ b) : Meth Tryz.prog 109 115 (rd s i op) [fI .u8 b] (.pan (faultV 2 i)) := by
  refine methP_of lay_ok (Tryz.call109) (Tryz.func109) rfl ?_
  intro A E Q hE hf hP
  have hp := peek_c s op h0
  have hw := wrong_form s op h0 h
  have hc : E.conv .i64 b = b := by rw [e_conv hE, IntKind.wrap_i64]; omega
  generalize pkI s i = x at *
  cbv
  repeat' (first | (refine r_true hE rfl ?_; cbv) | (refine r_false hE rfl ?_; cbv) | (refine use_meth hE hp rfl rfl rfl rfl rfl ?_; cbv) | (refine c_eql hE (fun h => ?_) (fun h => ?_) <;> first | (exfalso; omega) | cbv) | (refine c_neq hE (fun h => ?_) (fun h => ?_) <;> first | (exfalso; omega) | cbv) | (refine c_lss hE (fun h => ?_) (fun h => ?_) <;> first | (exfalso; omega) | cbv) | (refine c_leq hE (fun h => ?_) (fun h => ?_) <;> first | (exfalso; omega) | cbv) | (refine c_gtr hE (fun h => ?_) (fun h => ?_) <;> first | (exfalso; omega) | cbv) | (refine c_geq hE (fun h => ?_) (fun h => ?_) <;> first | (exfalso; omega) | cbv) | (refine c_seql hE (fun h => ?_) (fun h => ?_) <;> first | (exfalso; omega) | cbv) | (refine c_sneq hE (fun h => ?_) (fun h => ?_) <;> first | (exfalso; omega) | cbv) | (refine r_sin hE ?_ ?_ ?_; rotate_left 2; cbv) | (refine r_ssin hE ?_ ?_ ?_ ?_; rotate_left 3; cbv) | (refine use_draw hE lay_ok (by kernel_rfl) (by kernel_rfl) ?_; cbv) | (refine c_b hE (fun h => ?_) (fun h => ?_) <;> cbv))
  · refine use_methP hE hw rfl rfl rfl rfl rfl ?_
    exact hP _ _ _ rfl rfl rfl
  · exact absurd (h.trans hc) hn
theorem sat_pk {P : Program} {A : Run} {E : Env} (hE : dom P A = E) {s : ByteArray} {I : Int} {i : Nat} (hI : I = (i : Int)) (h : i < s.size) : E.sat s I = Rx.pk s.data.toList i := by
  rw [e_sat hE]
  have := pkI_lt (s := s) (i := I) (by omega) (by omega)
  unfold pkI at this
  rw [show i = I.toNat by omega]
  exact this.symm
theorem digs_step {l : List UInt8} {n j : Nat} (hj : j < l.length) : Rx.digs l (l.length - j) n j = if Rx.digitB (Rx.pk l j) then Rx.digs l (l.length - (j + 1)) (Nat.min (10 * n + (Rx.pk l j - 48).toNat) 1000) (j + 1) else (n, j) := by
  rw [show l.length - j = (l.length - (j + 1)) + 1 by omega]; rfl
end Rd
end Go.Proofs.YtampjnpnekekiaaGreatDoor
namespace Go.Proofs.YtampjnpnekekiaaGreatDoor
open Go Go.RowKit
set_option linter.unusedVariables false
set_option linter.unusedSimpArgs false
set_option maxRecDepth 100000
open Ab
namespace Rd
theorem digs_end {l : List UInt8} {n j : Nat} (hj : j ≤ l.length) (h : ¬ (48 ≤ Rx.pk l j ∧ Rx.pk l j ≤ 57)) : Rx.digs l (l.length - j) n j = (n, j) := by
  by_cases hl : j < l.length
  · rw [digs_step hl, if_neg]
    simp only [Rx.digitB, Bool.and_eq_true, decide_eq_true_eq]
    exact h
  · rw [show l.length - j = 0 by omega]; rfl
theorem number_c (s : ByteArray) {I : Int} {i : Nat} (op : Int) (hI : I = i) (hi : i ≤ s.size) (hs : s.size ≤ 1000) : Meth Tryz.prog 120 115 (rd s I op) [] (rdOut s op (fun n : Nat => fI .i64 n) (Rx.number s.data.toList i)) := by
  have hl : s.data.toList.length = s.size := by simp
  refine methO_of lay_ok (Tryz.call120) (Tryz.func120) rfl ?_
  intro A E Q hE hf hQ hP
  cbv
  refine use_for hE lay_ok 1 (fun g : Int × Int => [(4, fI .i64 g.1)]) (fun g => [(0, .box 115 (rd s g.2 op))]) (fun g => ∃ n j : Nat, g = ((n : Int), (j : Int)) ∧ i ≤ j ∧ j ≤ s.size ∧ n ≤ 1000 ∧ Rx.digs s.data.toList (s.data.toList.length - j) n j = Rx.digs s.data.toList (s.data.toList.length - i) 0 i) (fun g => ((s.size : Int) - g.2).toNat) (0, I) ⟨0, i, by rw [hI]; rfl, Nat.le_refl _, hi, by omega, rfl⟩ (by cbv) ?_
  rintro ⟨N, J⟩ ⟨n, j, e, h1, h2, h3, h4⟩ Q' hN hR hX
  obtain ⟨eN, eJ⟩ := Prod.mk.inj e
  simp only [cast_nat] at hI eN eJ
  have hp := peek_c s op (i := J) (by omega)
  have hx : pkI s J = Rx.pk s.data.toList j := by rw [eJ]; rfl
  have hb := pkb s.data.toList j
  have ha : E.ar .add .i64 J 1 = ((j + 1 : Nat) : Int) := (e_add hE (by omega) (by omega)).trans (by omega)
  obtain ⟨b, hbb⟩ : ∃ b, b = Rx.pk s.data.toList j := ⟨_, rfl⟩
  rw [hx, ← hbb] at hp
  rw [← hbb] at hb
  have hw1 := fun h => wrong_end s op (i := J) (by omega) h
  have hw2 := fun h => wrong_form s op (i := J) (by omega) h
  by_cases hd : 48 ≤ b ∧ b ≤ 57
  · have hj : j < s.data.toList.length := pk_in (by omega)
    have hn : E.imin (E.ar .sub .i64 (E.ar .add .i64 (E.ar .mul .i64 10 N) b) 48) 1000 = ((Nat.min (10 * n + (b - 48).toNat) 1000 : Nat) : Int) := by
      rw [e_mul hE (by omega) (by omega), e_add hE (by omega) (by omega), e_sub hE (by omega) (by omega), e_imin hE, eN]
      show _ = ((min (10 * n + (b - 48).toNat) 1000 : Nat) : Int)
      split <;> omega
    rw [digs_step hj, ← hbb, if_pos (by simp only [Rx.digitB, Bool.and_eq_true, decide_eq_true_eq]; exact hd)] at h4
    cbv
    repeat' (first | (refine r_true hE rfl ?_; cbv) | (refine r_false hE rfl ?_; cbv) | (refine use_meth hE hp rfl rfl rfl rfl rfl ?_; cbv) | (refine c_eql hE (fun h => ?_) (fun h => ?_) <;> first | (exfalso; omega) | cbv) | (refine c_neq hE (fun h => ?_) (fun h => ?_) <;> first | (exfalso; omega) | cbv) | (refine c_lss hE (fun h => ?_) (fun h => ?_) <;> first | (exfalso; omega) | cbv) | (refine c_leq hE (fun h => ?_) (fun h => ?_) <;> first | (exfalso; omega) | cbv) | (refine c_gtr hE (fun h => ?_) (fun h => ?_) <;> first | (exfalso; omega) | cbv) | (refine c_geq hE (fun h => ?_) (fun h => ?_) <;> first | (exfalso; omega) | cbv) | (refine c_seql hE (fun h => ?_) (fun h => ?_) <;> first | (exfalso; omega) | cbv) | (refine c_sneq hE (fun h => ?_) (fun h => ?_) <;> first | (exfalso; omega) | cbv) | (refine r_sin hE ?_ ?_ ?_; rotate_left 2; cbv) | (refine r_ssin hE ?_ ?_ ?_ ?_; rotate_left 3; cbv) | (refine use_draw hE lay_ok (by kernel_rfl) (by kernel_rfl) ?_; cbv) | (refine c_b hE (fun h => ?_) (fun h => ?_) <;> cbv))
    refine hN _ (_, _) ⟨_, _, Prod.ext hn ha, by omega, by omega, Nat.min_le_right _ _, h4⟩ ?_ (by cbv)
    show ((s.size : Int) - E.ar .add .i64 J 1).toNat < ((s.size : Int) - J).toNat
    rw [ha]; clear hN hR hX hp hQ hP hw1 hw2; (simp only [cast_nat] at *; omega)
  · have hD := digs_end (n := n) (j := j) (l := s.data.toList) (by omega) (by rw [← hbb]; exact hd)
    rw [hD] at h4
    have hJ : (s.size : Int) ≤ J → Rx.other s.data.toList j = (.bad 1 s.data.toList.length : Res Nat) := fun h => by
      unfold Rx.other; rw [← hx, pkI_ge (by omega) h]; rfl
    have hJ2 : J < (s.size : Int) → Rx.other s.data.toList j = (.bad 2 j : Res Nat) := fun h => by
      unfold Rx.other; rw [← hx, pkI_lt (by omega) h, if_neg (by omega)]
    have e2 : E.ar .add .i64 I 1 = I + 1 := e_add hE (by omega) (by omega)
    have hsat0 := fun h : i < s.size => sat_pk hE hI h
    have hij : I = J → i = j := fun h => by omega
    have hnum : Rx.number s.data.toList i = if j = i then Rx.other s.data.toList i else if Rx.pk s.data.toList i = 48 ∧ j > i + 1 then .bad 2 i else if n > 16 then .bad 3 i else .ok n j := by
      unfold Rx.number; rw [← h4]
    cbv
    repeat' (first | (refine r_true hE rfl ?_; cbv) | (refine r_false hE rfl ?_; cbv) | (refine use_meth hE hp rfl rfl rfl rfl rfl ?_; cbv) | (refine c_eql hE (fun h => ?_) (fun h => ?_) <;> first | (exfalso; omega) | cbv) | (refine c_neq hE (fun h => ?_) (fun h => ?_) <;> first | (exfalso; omega) | cbv) | (refine c_lss hE (fun h => ?_) (fun h => ?_) <;> first | (exfalso; omega) | cbv) | (refine c_leq hE (fun h => ?_) (fun h => ?_) <;> first | (exfalso; omega) | cbv) | (refine c_gtr hE (fun h => ?_) (fun h => ?_) <;> first | (exfalso; omega) | cbv) | (refine c_geq hE (fun h => ?_) (fun h => ?_) <;> first | (exfalso; omega) | cbv) | (refine c_seql hE (fun h => ?_) (fun h => ?_) <;> first | (exfalso; omega) | cbv) | (refine c_sneq hE (fun h => ?_) (fun h => ?_) <;> first | (exfalso; omega) | cbv) | (refine r_sin hE ?_ ?_ ?_; rotate_left 2; cbv) | (refine r_ssin hE ?_ ?_ ?_ ?_; rotate_left 3; cbv) | (refine use_draw hE lay_ok (by kernel_rfl) (by kernel_rfl) ?_; cbv) | (refine c_b hE (fun h => ?_) (fun h => ?_) <;> cbv))
    all_goals (refine hX _ _ ?_; cbv)
    repeat' (first | (refine r_true hE rfl ?_; cbv) | (refine r_false hE rfl ?_; cbv) | (refine c_eql hE (fun h => ?_) (fun h => ?_) <;> first | (exfalso; omega) | cbv) | (refine c_neq hE (fun h => ?_) (fun h => ?_) <;> first | (exfalso; omega) | cbv) | (refine c_lss hE (fun h => ?_) (fun h => ?_) <;> first | (exfalso; omega) | cbv) | (refine c_leq hE (fun h => ?_) (fun h => ?_) <;> first | (exfalso; omega) | cbv) | (refine c_gtr hE (fun h => ?_) (fun h => ?_) <;> first | (exfalso; omega) | cbv) | (refine c_geq hE (fun h => ?_) (fun h => ?_) <;> first | (exfalso; omega) | cbv) | (refine c_seql hE (fun h => ?_) (fun h => ?_) <;> first | (exfalso; omega) | cbv) | (refine c_sneq hE (fun h => ?_) (fun h => ?_) <;> first | (exfalso; omega) | cbv) | (refine r_sin hE ?_ ?_ ?_; rotate_left 2; cbv) | (refine r_ssin hE ?_ ?_ ?_ ?_; rotate_left 3; cbv) | (refine use_draw hE lay_ok (by kernel_rfl) (by kernel_rfl) ?_; cbv) | (refine c_b hE (fun h => ?_) (fun h => ?_) <;> cbv))
    all_goals clear hN hR hX
    all_goals first
      | (refine use_thr hE (fail_t _ _) rfl rfl ?_; refine hP _ _ _ rfl rfl ?_)
      | (refine And.left (hQ _ _ _ _ _ rfl rfl rfl rfl ?_))
      | (simp only [cast_nat] at *; omega)
      | (rcases Int.lt_or_le J s.size with hh | hh; (refine use_methP hE (hw2 hh) rfl rfl rfl rfl rfl ?_; refine hP _ _ _ rfl rfl ?_; rw [hnum, if_pos (by simp only [cast_nat] at *; omega), hij (by simp only [cast_nat] at *; omega), hJ2 hh, eJ]; try rfl); (refine use_methP hE (hw1 hh) rfl rfl rfl rfl rfl ?_; refine hP _ _ _ rfl rfl ?_; rw [hnum, if_pos (by simp only [cast_nat] at *; omega), hij (by simp only [cast_nat] at *; omega), hJ hh, hl]; try rfl))
    all_goals first
      | (simp only [cast_nat] at *; omega)
      | skip
    all_goals (rw [hnum]; simp only [cast_nat] at *)
    all_goals (rw [if_neg (by omega)])
    all_goals (have hsat := hsat0 (by omega); rw [e2] at *)
    all_goals first
      | (rw [if_pos ⟨by omega, by omega⟩, hI]; try rfl)
      | (rw [if_neg (by omega), if_pos (by omega), hI]; try rfl)
      | (rw [if_neg (by omega), if_neg (by omega), eN, eJ]; try rfl)
end Rd
end Go.Proofs.YtampjnpnekekiaaGreatDoor
