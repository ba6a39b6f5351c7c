/- Walks over sets of bytes: First. -/
import Derived.Test.YthgcefppeaopkaaDoorSetW5
namespace Go.Proofs.YthgcefppeaopkaaDoor
open Go Go.RowKit
set_option maxRecDepth 100000
set_option linter.unusedSimpArgs false
set_option linter.unusedVariables false
set_option maxHeartbeats 1000000
theorem retg_int {k : IntKind} {a b : Int} {w w' : World} (h : a = b) (hb : Below w.heap.size w w') : RetG (.int k b) w (.returned (.int k a)) w' := ⟨by rw [h], hb⟩
theorem ctz_bits (x : BitVec 64) (h : x.toNat ≠ 0) : Lib.ctz 64 x.toNat < 64 ∧ x.getLsbD (Lib.ctz 64 x.toNat) = true ∧ ∀ j, j < Lib.ctz 64 x.toNat → x.getLsbD j = false := by
  obtain ⟨m, hm, hk⟩ := Lib.ctzFrom_spec 64 x.toNat (by omega) x.isLt
  have e : Lib.ctz 64 x.toNat = Lib.ctzFrom 64 x.toNat := by unfold Lib.ctz; rw [if_neg h]
  rw [e]
  generalize Lib.ctzFrom 64 x.toNat = c at *
  refine ⟨hk, ?_, fun j hj => ?_⟩
  · rw [BitVec.getLsbD, hm, Nat.mul_comm, Nat.testBit_mul_two_pow]
    simp [Nat.testBit_zero]
  · rw [BitVec.getLsbD, hm, Nat.mul_comm, Nat.testBit_mul_two_pow]
    simp; omega
theorem first_word (S : CSet) (k : Nat) (hk : k < 4) (hp : ∀ i, i < k → (S.word i).toNat = 0) (h : (S.word k).toNat ≠ 0) : S.first = 64 * (k : Int) + (Lib.ctz 64 (S.word k).toNat : Nat) := by
  obtain ⟨h1, h2, h3⟩ := ctz_bits (S.word k) h
  have := CSet.first_at S 256 0 (64 * k + Lib.ctz 64 (S.word k).toNat) (by omega) (by omega) (by
    unfold CSet.has
    rw [show (64 * k + Lib.ctz 64 (S.word k).toNat) / 64 = k by omega, show (64 * k + Lib.ctz 64 (S.word k).toNat) % 64 = Lib.ctz 64 (S.word k).toNat by omega]
    exact h2) (fun j _ hj => by
    unfold CSet.has
    by_cases e : j / 64 = k
    · rw [e]
      exact h3 _ (by omega)
    · have h0 := hp (j / 64) (by omega)
      rw [BitVec.getLsbD, h0]
      simp)
  unfold CSet.first
  rw [this]
  omega
theorem first_zero (S : CSet) (hp : ∀ i, i < 4 → (S.word i).toNat = 0) : S.first = -1 := CSet.first_none S 256 0 (fun j _ hj => by
  unfold CSet.has
  rw [BitVec.getLsbD, hp (j / 64) (by omega)]
  simp)
theorem first_any (S : CSet) (w : World) (hT : TabW w) : Calls Tryd.prog 84 #[.agg #[.int .u64 ((S).a.toNat : Int), .int .u64 ((S).b.toNat : Int), .int .u64 ((S).c.toNat : Int), .int .u64 ((S).d.toNat : Int)]] w (RetG (.int .i64 S.first) w) := by
  have i0 : ∀ w, (Instr.index 25 (.agg #[.int .u64 ((S).a.toNat : Int), .int .u64 ((S).b.toNat : Int), .int .u64 ((S).c.toNat : Int), .int .u64 ((S).d.toNat : Int)]) (.int .i64 0)).run Tryd.prog w = .ok (.int .u64 (S.a.toNat : Int)) w := fun _ => by kernel_rfl
  have i1 : ∀ w, (Instr.index 25 (.agg #[.int .u64 ((S).a.toNat : Int), .int .u64 ((S).b.toNat : Int), .int .u64 ((S).c.toNat : Int), .int .u64 ((S).d.toNat : Int)]) (.int .i64 1)).run Tryd.prog w = .ok (.int .u64 (S.b.toNat : Int)) w := fun _ => by kernel_rfl
  have i2 : ∀ w, (Instr.index 25 (.agg #[.int .u64 ((S).a.toNat : Int), .int .u64 ((S).b.toNat : Int), .int .u64 ((S).c.toNat : Int), .int .u64 ((S).d.toNat : Int)]) (.int .i64 2)).run Tryd.prog w = .ok (.int .u64 (S.c.toNat : Int)) w := fun _ => by kernel_rfl
  have i3 : ∀ w, (Instr.index 25 (.agg #[.int .u64 ((S).a.toNat : Int), .int .u64 ((S).b.toNat : Int), .int .u64 ((S).c.toNat : Int), .int .u64 ((S).d.toNat : Int)]) (.int .i64 3)).run Tryd.prog w = .ok (.int .u64 (S.d.toNat : Int)) w := fun _ => by kernel_rfl
  have HT := hid_mk hT
  clear hT
  go_enter Tryd.func84, Tryd.ntmps84
  go_wp2
  go_loop [3, 4, 6] (fun _ _ v => ∃ k : Nat, k ≤ 4 ∧ v = .int .i64 (k : Nat) ∧ (∀ i, i < k → (S.word i).toNat = 0)) (fun _ _ v => 4 - (intOf v).toNat)
  case atStart => exact ⟨0, by omega, rfl, fun i hi => absurd hi (by omega)⟩
  case round =>
    obtain ⟨k, hk, rfl, hp⟩ := hrel
    have h5 : k = 0 ∨ k = 1 ∨ k = 2 ∨ k = 3 ∨ k = 4 := by omega
    have HP := hid_mk hp
    clear hp
    rcases h5 with rfl | rfl | rfl | rfl | rfl
    · by_cases hz : S.a.toNat = 0
      · have hz1 : ((S.a.toNat : Int) != 0) = false := by simp [hz]
        have HZ := hid_mk hz
        clear hz
        go_wp2
        go_round
        case rel => exact ⟨1, by omega, rfl, fun i hi => by
          by_cases e : i = 0
          · subst e; exact HZ.out
          · exact HP.out i (by omega)⟩
        case measure => simp [intOf]
      · have hz1 : ((S.a.toNat : Int) != 0) = true := by simp [hz]
        have hf := first_word S 0 (by omega) HP.out hz
        have hl := (ctz_bits S.a hz).1
        have HC := hide (tz_any S.a (w.alloc (.cells #[.int .u64 ((S).a.toNat : Int), .int .u64 ((S).b.toNat : Int), .int .u64 ((S).c.toNat : Int), .int .u64 ((S).d.toNat : Int)] 25)) (HT.out.below (by repeat (first | exact Below.refl _ _ | assumption | refine Below.setCell ?_ (by first | omega | (simp <;> omega)) _ | refine Below.alloc ?_ (by first | omega | (simp <;> omega)) _ | refine below_drewN ?_ _ | refine Below.drew ?_))) hz)
        have HF := hid_mk hf
        simp only [CSet.word] at HF
        generalize Lib.ctz 64 S.a.toNat = c at *
        clear hz hf
        go_wp2_with (go_at_call 87; refine (unhide HC).mono ?_; rintro e w' ⟨rfl, rfl⟩)
        go_ret
        exact retg_int (by have := HF.out; omega) (by repeat (first | exact Below.refl _ _ | assumption | refine Below.setCell ?_ (by first | omega | (simp <;> omega)) _ | refine Below.alloc ?_ (by first | omega | (simp <;> omega)) _ | refine below_drewN ?_ _ | refine Below.drew ?_))
    · by_cases hz : S.b.toNat = 0
      · have hz1 : ((S.b.toNat : Int) != 0) = false := by simp [hz]
        have HZ := hid_mk hz
        clear hz
        go_wp2
        go_round
        case rel => exact ⟨2, by omega, rfl, fun i hi => by
          by_cases e : i = 1
          · subst e; exact HZ.out
          · exact HP.out i (by omega)⟩
        case measure => simp [intOf]
      · have hz1 : ((S.b.toNat : Int) != 0) = true := by simp [hz]
        have hf := first_word S 1 (by omega) HP.out hz
        have hl := (ctz_bits S.b hz).1
        have HC := hide (tz_any S.b (w.alloc (.cells #[.int .u64 ((S).a.toNat : Int), .int .u64 ((S).b.toNat : Int), .int .u64 ((S).c.toNat : Int), .int .u64 ((S).d.toNat : Int)] 25)) (HT.out.below (by repeat (first | exact Below.refl _ _ | assumption | refine Below.setCell ?_ (by first | omega | (simp <;> omega)) _ | refine Below.alloc ?_ (by first | omega | (simp <;> omega)) _ | refine below_drewN ?_ _ | refine Below.drew ?_))) hz)
        have HF := hid_mk hf
        simp only [CSet.word] at HF
        generalize Lib.ctz 64 S.b.toNat = c at *
        clear hz hf
        go_wp2_with (go_at_call 87; refine (unhide HC).mono ?_; rintro e w' ⟨rfl, rfl⟩)
        go_ret
        exact retg_int (by have := HF.out; omega) (by repeat (first | exact Below.refl _ _ | assumption | refine Below.setCell ?_ (by first | omega | (simp <;> omega)) _ | refine Below.alloc ?_ (by first | omega | (simp <;> omega)) _ | refine below_drewN ?_ _ | refine Below.drew ?_))
    · by_cases hz : S.c.toNat = 0
      · have hz1 : ((S.c.toNat : Int) != 0) = false := by simp [hz]
        have HZ := hid_mk hz
        clear hz
        go_wp2
        go_round
        case rel => exact ⟨3, by omega, rfl, fun i hi => by
          by_cases e : i = 2
          · subst e; exact HZ.out
          · exact HP.out i (by omega)⟩
        case measure => simp [intOf]
      · have hz1 : ((S.c.toNat : Int) != 0) = true := by simp [hz]
        have hf := first_word S 2 (by omega) HP.out hz
        have hl := (ctz_bits S.c hz).1
        have HC := hide (tz_any S.c (w.alloc (.cells #[.int .u64 ((S).a.toNat : Int), .int .u64 ((S).b.toNat : Int), .int .u64 ((S).c.toNat : Int), .int .u64 ((S).d.toNat : Int)] 25)) (HT.out.below (by repeat (first | exact Below.refl _ _ | assumption | refine Below.setCell ?_ (by first | omega | (simp <;> omega)) _ | refine Below.alloc ?_ (by first | omega | (simp <;> omega)) _ | refine below_drewN ?_ _ | refine Below.drew ?_))) hz)
        have HF := hid_mk hf
        simp only [CSet.word] at HF
        generalize Lib.ctz 64 S.c.toNat = c at *
        clear hz hf
        go_wp2_with (go_at_call 87; refine (unhide HC).mono ?_; rintro e w' ⟨rfl, rfl⟩)
        go_ret
        exact retg_int (by have := HF.out; omega) (by repeat (first | exact Below.refl _ _ | assumption | refine Below.setCell ?_ (by first | omega | (simp <;> omega)) _ | refine Below.alloc ?_ (by first | omega | (simp <;> omega)) _ | refine below_drewN ?_ _ | refine Below.drew ?_))
    · by_cases hz : S.d.toNat = 0
      · have hz1 : ((S.d.toNat : Int) != 0) = false := by simp [hz]
        have HZ := hid_mk hz
        clear hz
        go_wp2
        go_round
        case rel => exact ⟨4, by omega, rfl, fun i hi => by
          by_cases e : i = 3
          · subst e; exact HZ.out
          · exact HP.out i (by omega)⟩
        case measure => simp [intOf]
      · have hz1 : ((S.d.toNat : Int) != 0) = true := by simp [hz]
        have hf := first_word S 3 (by omega) HP.out hz
        have hl := (ctz_bits S.d hz).1
        have HC := hide (tz_any S.d (w.alloc (.cells #[.int .u64 ((S).a.toNat : Int), .int .u64 ((S).b.toNat : Int), .int .u64 ((S).c.toNat : Int), .int .u64 ((S).d.toNat : Int)] 25)) (HT.out.below (by repeat (first | exact Below.refl _ _ | assumption | refine Below.setCell ?_ (by first | omega | (simp <;> omega)) _ | refine Below.alloc ?_ (by first | omega | (simp <;> omega)) _ | refine below_drewN ?_ _ | refine Below.drew ?_))) hz)
        have HF := hid_mk hf
        simp only [CSet.word] at HF
        generalize Lib.ctz 64 S.d.toNat = c at *
        clear hz hf
        go_wp2_with (go_at_call 87; refine (unhide HC).mono ?_; rintro e w' ⟨rfl, rfl⟩)
        go_ret
        exact retg_int (by have := HF.out; omega) (by repeat (first | exact Below.refl _ _ | assumption | refine Below.setCell ?_ (by first | omega | (simp <;> omega)) _ | refine Below.alloc ?_ (by first | omega | (simp <;> omega)) _ | refine below_drewN ?_ _ | refine Below.drew ?_))
    · have hf := first_zero S HP.out
      have HF := hid_mk hf
      clear hf
      go_wp2
      go_ret
      exact ⟨by rw [HF.out]; rfl, (by repeat (first | exact Below.refl _ _ | assumption | refine Below.setCell ?_ (by first | omega | (simp <;> omega)) _ | refine Below.alloc ?_ (by first | omega | (simp <;> omega)) _ | refine below_drewN ?_ _ | refine Below.drew ?_))⟩
end Go.Proofs.YthgcefppeaopkaaDoor
