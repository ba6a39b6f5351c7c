/- Walks over sets of bytes. -/
import Derived.Test.YthgcefppeaopkaaDoorProg
import Derived.Test.YthgcefppeaopkaaDoorBase
import Derived.Test.YthgcefppeaopkaaDoorSetP
import Derived.Deep.QuietTactic
import Derived.BigQuiet
import Derived.BigRegion
import Derived.RegionTactic
import Derived.WalkLawsBesides
namespace Go.Proofs.YthgcefppeaopkaaDoor
open Go Go.RowKit
set_option maxRecDepth 100000
set_option linter.unusedSimpArgs false
set_option linter.unusedVariables false
set_option maxHeartbeats 1000000
theorem bit_eq (x : BitVec 64) (k : Nat) : (bits BinOp.and IntKind.u64 ((x.toNat : Int) / 2 ^ k) 1 == 1) = x.getLsbD k := by
  have e1 : ((x.toNat : Int) / 2 ^ k) = ((x.toNat / 2 ^ k : Nat) : Int) := by simp
  have hlt : x.toNat / 2 ^ k < 18446744073709551616 := Nat.lt_of_le_of_lt (Nat.div_le_self _ _) x.isLt
  have h2 := u64_and_nat (x.toNat / 2 ^ k) 1 hlt (by decide)
  rw [e1]
  rw [show ((1 : Nat) : Int) = 1 from rfl] at h2
  rw [h2, nat_mask1, BitVec.getLsbD, Nat.testBit_eq_decide_div_mod_eq, Bool.eq_iff_iff]
  simp
  omega
theorem has_any (S : CSet) (b : Nat) (hb : b < 256) (w : World) : Calls Tryd.prog 45 #[.agg #[.int .u64 ((S).a.toNat : Int), .int .u64 ((S).b.toNat : Int), .int .u64 ((S).c.toNat : Int), .int .u64 ((S).d.toNat : Int)], .int .u8 b] w (RetG (.bool (S.has b)) w) := by
  have h4 : b / 64 = 0 ∨ b / 64 = 1 ∨ b / 64 = 2 ∨ b / 64 = 3 := by omega
  unfold CSet.has
  rcases h4 with h4 | h4 | h4 | h4
  all_goals
    have e1 : ((b : Int) / 64) = ((b / 64 : Nat) : Int) := by omega
    rw [h4] at e1 ⊢
    go_enter Tryd.func45, Tryd.ntmps45
    go_wp2
    go_ret
    refine ⟨?_, (Below.refl _ _).alloc (Nat.le_refl _) _⟩
    rw [← bit_eq]
    rfl
theorem two_pow_toNat (m : Nat) (hm : m < 64) : (1#64 <<< m).toNat = 2 ^ m := by
  rw [BitVec.toNat_shiftLeft]
  simp
  rw [Nat.shiftLeft_eq, Nat.one_mul]
  exact Nat.mod_eq_of_lt (Nat.pow_lt_pow_right (by decide) hm)
theorem wrap_pow (m : Nat) (hm : m < 64) : IntKind.u64.wrap (2 ^ m) = ((2 ^ m : Nat) : Int) := by
  rw [IntKind.wrap_u64]
  have h : (2 ^ m : Nat) < 18446744073709551616 := Nat.lt_of_lt_of_le (Nat.pow_lt_pow_right (by decide) hm) (by decide)
  have e : ((2 : Int) ^ m) = ((2 ^ m : Nat) : Int) := by simp
  rw [e]
  exact Int.emod_eq_of_lt (Int.natCast_nonneg _) (Int.ofNat_lt.2 h)
theorem or_bit (x : BitVec 64) (m : Nat) (hm : m < 64) : bits BinOp.or IntKind.u64 (x.toNat : Int) (IntKind.u64.wrap (2 ^ m)) = ((x ||| (1#64 <<< m)).toNat : Int) := by
  have h : (2 ^ m : Nat) < 18446744073709551616 := Nat.lt_of_lt_of_le (Nat.pow_lt_pow_right (by decide) hm) (by decide)
  rw [wrap_pow m hm, u64_or_nat _ _ x.isLt h, BitVec.toNat_or, two_pow_toNat m hm]
theorem cells_put (S : CSet) (b i : Nat) (h : b / 64 = i) (hb : b < 256) :
    (#[.int .u64 ((S).a.toNat : Int), .int .u64 ((S).b.toNat : Int), .int .u64 ((S).c.toNat : Int), .int .u64 ((S).d.toNat : Int)] : Array Value).setIfInBounds i (.int .u64 (bits BinOp.or IntKind.u64 ((S.word i).toNat : Int) (IntKind.u64.wrap (2 ^ (b % 64))))) = #[.int .u64 ((S.put b).a.toNat : Int), .int .u64 ((S.put b).b.toNat : Int), .int .u64 ((S.put b).c.toNat : Int), .int .u64 ((S.put b).d.toNat : Int)] := by
  rw [or_bit _ _ (by omega)]
  unfold CSet.put
  rw [h]
  have h1 : i = 0 ∨ i = 1 ∨ i = 2 ∨ i = 3 := by omega
  rcases h1 with rfl | rfl | rfl | rfl <;> rfl
theorem w2_set (w : World) (o : Obj) (cs : Array Value) (t : TypeId) (n j : Nat) (v : Value) :
    (((w.alloc o).alloc (.cells cs t)).drewN n).setCell ⟨w.heap.size + 1, j, none⟩ v = ((w.alloc o).alloc (.cells (cs.setIfInBounds j v) t)).drewN n := by
  have h : ((w.alloc o).alloc (.cells cs t)).setCell ⟨w.heap.size + 1, j, none⟩ v = (w.alloc o).alloc (.cells (cs.setIfInBounds j v) t) :=
    World.setCell_alloc_at _ _ _ _ _ (by simp)
  show (((w.alloc o).alloc (.cells cs t)).setCell ⟨w.heap.size + 1, j, none⟩ v).drewN n = _
  rw [h]
theorem of_any (lo hi : Nat) (hlo : lo < 256) (hhi : hi < 256) (w : World) : Calls Tryd.prog 61 #[.int .u8 lo, .int .u8 hi] w (RetG (.agg #[.int .u64 ((CSet.between lo hi).a.toNat : Int), .int .u64 ((CSet.between lo hi).b.toNat : Int), .int .u64 ((CSet.between lo hi).c.toNat : Int), .int .u64 ((CSet.between lo hi).d.toNat : Int)]) w) := by
  go_enter Tryd.func61, Tryd.ntmps61
  go_wp2
  go_loopw [6] (fun v wr => ∃ k n : Nat, (k = 0 ∨ lo + k ≤ hi + 1) ∧ v = .int .i64 (lo + k : Nat) ∧ wr = ((w.alloc (.cells #[.int .u64 0, .int .u64 0, .int .u64 0, .int .u64 0] 25)).alloc (.cells #[.int .u64 ((CSet.span lo k).a.toNat : Int), .int .u64 ((CSet.span lo k).b.toNat : Int), .int .u64 ((CSet.span lo k).c.toNat : Int), .int .u64 ((CSet.span lo k).d.toNat : Int)] 25)).drewN n) (fun v _ => hi + 1 - (intOf v).toNat)
  case atStart => exact ⟨0, 0, .inl rfl, rfl, rfl⟩
  case round =>
    obtain ⟨k, n, hk, rfl, rfl⟩ := hrel
    by_cases hlt : lo + k ≤ hi
    · have h4 : (lo + k) / 64 = 0 ∨ (lo + k) / 64 = 1 ∨ (lo + k) / 64 = 2 ∨ (lo + k) / 64 = 3 := by omega
      rcases h4 with h4 | h4 | h4 | h4
      all_goals
        have e1 : (((lo + k : Nat) : Int) / 64) = (((lo + k) / 64 : Nat) : Int) := by omega
        have hp := cells_put (CSet.span lo k) (lo + k) _ h4 (by omega)
        have HP := hid_mk hp
        rw [h4] at e1
        clear hk hp
        go_wp2
        go_region
        go_wp2
        go_roundw
        case rel => exact ⟨k + 1, n + 1, by omega, by go_num, by
          exact congrArg (fun c => ((w.alloc (.cells #[.int .u64 0, .int .u64 0, .int .u64 0, .int .u64 0] 25)).alloc (.cells c 25)).drewN (n + 1)) HP.out⟩
        case measure => simp [intOf]; omega
    · have hn : CSet.span lo k = CSet.between lo hi := by
        unfold CSet.between
        rcases hk with rfl | hk
        · rw [show hi + 1 - lo = 0 by omega]
        · rw [show hi + 1 - lo = k by omega]
      rw [hn]
      clear hn hk
      go_wp2
      refine bodyPost_ret (v := .agg #[.int .u64 ((CSet.between lo hi).a.toNat : Int), .int .u64 ((CSet.between lo hi).b.toNat : Int), .int .u64 ((CSet.between lo hi).c.toNat : Int), .int .u64 ((CSet.between lo hi).d.toNat : Int)]) (by simp [results, Tryd.results61, go_sem]) rfl ⟨rfl, (by repeat (first | exact Below.refl _ _ | assumption | refine Below.setCell ?_ (by first | omega | (simp <;> omega)) _ | refine Below.alloc ?_ (by first | omega | (simp <;> omega)) _ | refine below_drewN ?_ _ | refine Below.drew ?_))⟩
theorem or_word (x y : BitVec 64) : bits BinOp.or IntKind.u64 (x.toNat : Int) (y.toNat : Int) = ((x ||| y).toNat : Int) := by
  rw [u64_or_nat _ _ x.isLt y.isLt, BitVec.toNat_or]
theorem and_word (x y : BitVec 64) : bits BinOp.and IntKind.u64 (x.toNat : Int) (y.toNat : Int) = ((x &&& y).toNat : Int) := by
  rw [u64_and_nat _ _ x.isLt y.isLt, BitVec.toNat_and]
theorem or_any (S T : CSet) (w : World) : Calls Tryd.prog 70 #[.agg #[.int .u64 ((S).a.toNat : Int), .int .u64 ((S).b.toNat : Int), .int .u64 ((S).c.toNat : Int), .int .u64 ((S).d.toNat : Int)], .agg #[.int .u64 ((T).a.toNat : Int), .int .u64 ((T).b.toNat : Int), .int .u64 ((T).c.toNat : Int), .int .u64 ((T).d.toNat : Int)]] w (RetG (.agg #[.int .u64 ((S.or T).a.toNat : Int), .int .u64 ((S.or T).b.toNat : Int), .int .u64 ((S.or T).c.toNat : Int), .int .u64 ((S.or T).d.toNat : Int)]) w) := by
  go_enter Tryd.func70, Tryd.ntmps70
  go_wp2
  go_loopw [5, 6] (fun _ v wr => ∃ k n : Nat, k ≤ 4 ∧ v = .int .i64 (k : Nat) ∧ wr = (((w.alloc (.cells #[.int .u64 ((S.mix (S.or T) k).a.toNat : Int), .int .u64 ((S.mix (S.or T) k).b.toNat : Int), .int .u64 ((S.mix (S.or T) k).c.toNat : Int), .int .u64 ((S.mix (S.or T) k).d.toNat : Int)] 25)).alloc (.cells #[.int .u64 ((T).a.toNat : Int), .int .u64 ((T).b.toNat : Int), .int .u64 ((T).c.toNat : Int), .int .u64 ((T).d.toNat : Int)] 25)).alloc (.cells #[.int .u64 0, .int .u64 0, .int .u64 0, .int .u64 0] 25)).drewN n) (fun _ v _ => 4 - (intOf v).toNat)
  case atStart => exact ⟨0, 0, by omega, rfl, rfl⟩
  case round =>
    obtain ⟨k, n, hk, rfl, rfl⟩ := hrel
    have h5 : k = 0 ∨ k = 1 ∨ k = 2 ∨ k = 3 ∨ k = 4 := by omega
    have e0 : S.mix (S.or T) 0 = ⟨S.a, S.b, S.c, S.d⟩ := rfl
    have e1 : S.mix (S.or T) 1 = ⟨S.a ||| T.a, S.b, S.c, S.d⟩ := rfl
    have e2 : S.mix (S.or T) 2 = ⟨S.a ||| T.a, S.b ||| T.b, S.c, S.d⟩ := rfl
    have e3 : S.mix (S.or T) 3 = ⟨S.a ||| T.a, S.b ||| T.b, S.c ||| T.c, S.d⟩ := rfl
    have e4 : S.mix (S.or T) 4 = S.or T := rfl
    rcases h5 with rfl | rfl | rfl | rfl | rfl
    · rw [e0]; clear e0 e1 e2 e3 e4
      go_wp2
      go_region
      go_wp2
      go_roundw
      case rel => exact ⟨1, n + 1, by omega, rfl, by rw [or_word]; rfl⟩
      case measure => simp [intOf]
    · rw [e1]; clear e0 e1 e2 e3 e4
      go_wp2
      go_region
      go_wp2
      go_roundw
      case rel => exact ⟨2, n + 1, by omega, rfl, by rw [or_word]; rfl⟩
      case measure => simp [intOf]
    · rw [e2]; clear e0 e1 e2 e3 e4
      go_wp2
      go_region
      go_wp2
      go_roundw
      case rel => exact ⟨3, n + 1, by omega, rfl, by rw [or_word]; rfl⟩
      case measure => simp [intOf]
    · rw [e3]; clear e0 e1 e2 e3 e4
      go_wp2
      go_region
      go_wp2
      go_roundw
      case rel => exact ⟨4, n + 1, by omega, rfl, by rw [or_word]; rfl⟩
      case measure => simp [intOf]
    · rw [e4]; clear e0 e1 e2 e3 e4
      go_wp2
      refine bodyPost_ret (v := .agg #[.int .u64 ((S.or T).a.toNat : Int), .int .u64 ((S.or T).b.toNat : Int), .int .u64 ((S.or T).c.toNat : Int), .int .u64 ((S.or T).d.toNat : Int)]) (by simp [results, Tryd.results70, go_sem]) rfl ⟨rfl, (by repeat (first | exact Below.refl _ _ | assumption | refine Below.setCell ?_ (by first | omega | (simp <;> omega)) _ | refine Below.alloc ?_ (by first | omega | (simp <;> omega)) _ | refine below_drewN ?_ _ | refine Below.drew ?_))⟩
end Go.Proofs.YthgcefppeaopkaaDoor
