/- Walks: the program's binary search, at tenants by name and at keys by number. -/
import Derived.Test.YtgcgilcalmefgaaRnQ
import Derived.Test.YtgcgilcalmefgaaRnX
import Derived.Laws.Cover1
namespace Go.Proofs.Ytgcgilcalmefgaa
open Go Go.RowKit Go.Sort
set_option maxRecDepth 100000
set_option linter.unusedSimpArgs false
set_option linter.unusedVariables false
set_option maxHeartbeats 2000000
theorem nan_s (a : ByteArray) (w : World) : Calls Try.prog 77 #[.string a] w (Ret (.bool false) w) := by
  go_enter Try.func77, Try.ntmps77
  go_wp2
  exact bodyPost_ret (v := .bool false) (by simp [results, Try.results77, go_sem]) rfl ⟨rfl, rfl⟩
theorem nan_i (a : Int) (w : World) : Calls Try.prog 79 #[.int .i64 a] w (Ret (.bool false) w) := by
  go_enter Try.func79, Try.ntmps79
  go_wp2
  exact bodyPost_ret (v := .bool false) (by simp [results, Try.results79, go_sem]) rfl ⟨rfl, rfl⟩
theorem cmps_any (a b : ByteArray) (w : World) : Calls Try.prog 71 #[.string a, .string b] w (Ret (.int .i64 (cmpL a.data.toList b.data.toList)) w) := by
  have H1 := hide (nan_s a w)
  have H2 := hide (nan_s b w)
  have l1 : Op.bytesLess a.toList b.toList = Rn.less a b := rfl
  have l2 : Op.bytesLess b.toList a.toList = Rn.less b a := rfl
  have HM : Hid (Rn.less a b = true → cmpL a.data.toList b.data.toList = -1) := hid_mk (fun h => Rn.cmp_less h)
  have HP : Hid (Rn.less b a = true → cmpL a.data.toList b.data.toList = 1) := hid_mk (fun h => Rn.cmp_gr h)
  have HZ : Hid (Rn.less a b = false → Rn.less b a = false → cmpL a.data.toList b.data.toList = 0) := hid_mk (fun h k => by rw [Rn.less_tri _ _ h k, cmpL_self])
  have L3 : Hid (Rn.less b a = true → (a.toList == b.toList) = false) := hid_mk (fun h => by rw [bytes_beq]; exact decide_eq_false (fun e => Rn.ne_less h e.symm))
  have L4 : Hid (Rn.less a b = false → Rn.less b a = false → (a.toList == b.toList) = true) := hid_mk (fun h k => by rw [bytes_beq, Rn.less_tri _ _ h k]; simp)
  generalize cmpL a.data.toList b.data.toList = c at *
  generalize Rn.less a b = x at *
  generalize Rn.less b a = y at *
  cases x with
  | true =>
    obtain rfl := HM.out rfl
    go_enter Try.func71, Try.ntmps71
    go_wp2_with (go_at_call 77; (first | with_reducible refine (unhide H1).mono ?_ | with_reducible refine (unhide H2).mono ?_); rintro e w2 ⟨rfl, rfl⟩)
    all_goals exact bodyPost_ret (v := .int .i64 (-1)) (by simp [results, Try.results71, go_sem]) rfl ⟨rfl, rfl⟩
  | false =>
  cases y with
  | true =>
    obtain rfl := HP.out rfl
    have l3 := L3.out rfl
    go_enter Try.func71, Try.ntmps71
    go_wp2_with (go_at_call 77; (first | with_reducible refine (unhide H1).mono ?_ | with_reducible refine (unhide H2).mono ?_); rintro e w2 ⟨rfl, rfl⟩)
    all_goals exact bodyPost_ret (v := .int .i64 1) (by simp [results, Try.results71, go_sem]) rfl ⟨rfl, rfl⟩
  | false =>
    obtain rfl := HZ.out rfl rfl
    have l3 := L4.out rfl rfl
    go_enter Try.func71, Try.ntmps71
    go_wp2_with (go_at_call 77; (first | with_reducible refine (unhide H1).mono ?_ | with_reducible refine (unhide H2).mono ?_); rintro e w2 ⟨rfl, rfl⟩)
    all_goals exact bodyPost_ret (v := .int .i64 0) (by simp [results, Try.results71, go_sem]) rfl ⟨rfl, rfl⟩
def cmpI (a b : Int) : Int := if a < b then -1 else if a = b then 0 else 1
theorem cmpi_any (a b : Int) (w : World) : Calls Try.prog 74 #[.int .i64 a, .int .i64 b] w (Ret (.int .i64 (cmpI a b)) w) := by
  have H1 := hide (nan_i a w)
  have H2 := hide (nan_i b w)
  by_cases h1 : a < b
  · have HC : Hid (cmpI a b = -1) := hid_mk (by unfold cmpI; rw [if_pos h1])
    rw [HC.out]
    go_enter Try.func74, Try.ntmps74
    go_wp2_with (go_at_call 79; (first | with_reducible refine (unhide H1).mono ?_ | with_reducible refine (unhide H2).mono ?_); rintro e w2 ⟨rfl, rfl⟩)
    all_goals exact bodyPost_ret (v := .int .i64 (-1)) (by simp [results, Try.results74, go_sem]) rfl ⟨rfl, rfl⟩
  · by_cases h2 : b < a
    · have HC : Hid (cmpI a b = 1) := hid_mk (by unfold cmpI; rw [if_neg h1, if_neg (by omega)])
      rw [HC.out]
      go_enter Try.func74, Try.ntmps74
      go_wp2_with (go_at_call 79; (first | with_reducible refine (unhide H1).mono ?_ | with_reducible refine (unhide H2).mono ?_); rintro e w2 ⟨rfl, rfl⟩)
      all_goals exact bodyPost_ret (v := .int .i64 1) (by simp [results, Try.results74, go_sem]) rfl ⟨rfl, rfl⟩
    · have HC : Hid (cmpI a b = 0) := hid_mk (by unfold cmpI; rw [if_neg h1, if_pos (by omega)])
      rw [HC.out]
      go_enter Try.func74, Try.ntmps74
      go_wp2_with (go_at_call 79; (first | with_reducible refine (unhide H1).mono ?_ | with_reducible refine (unhide H2).mono ?_); rintro e w2 ⟨rfl, rfl⟩)
      all_goals exact bodyPost_ret (v := .int .i64 0) (by simp [results, Try.results74, go_sem]) rfl ⟨rfl, rfl⟩
theorem byname_any (t : Rn.T) (A : Option Addr) (c : Nat) (n : ByteArray) (w : World) : Calls Try.prog 64 #[.agg #[.string (t).name, .int .i64 (t).epoch, .int .i64 (t).next, .slice (A) (t).keys.length (c)], .string n] w (RetG (.int .i64 (cmpL t.name.data.toList n.data.toList)) w) := by
  have HC := hide (cmps_any t.name n (w.alloc (.cells #[.string (t).name, .int .i64 (t).epoch, .int .i64 (t).next, .slice (A) (t).keys.length (c)] 38)))
  generalize cmpL t.name.data.toList n.data.toList = x at *
  go_enter Try.func64, Try.ntmps64
  go_wp2_with fail
  refine (unhide HC).mono ?_
  rintro e w3 ⟨rfl, rfl⟩
  go_wp2
  exact bodyPost_ret (v := .int .i64 x) (by simp [results, Try.results64, go_sem]) rfl ⟨rfl, (by repeat (first | with_reducible exact Below.refl _ _ | with_reducible assumption | with_reducible refine Below.setCell ?_ (by first | omega | (dsimp only; omega) | (simp <;> omega)) _ | with_reducible refine Below.alloc ?_ (by first | omega | (simp <;> omega)) _ | with_reducible refine below_drewN ?_ _ | with_reducible refine Below.drew ?_))⟩
theorem bynum_any (t : Rn.K) (n : Int) (w : World) : Calls Try.prog 67 #[.agg #[.int .i64 (t).num, .string (t).txt], .int .i64 n] w (RetG (.int .i64 (cmpI t.num n)) w) := by
  have HC := hide (cmpi_any t.num n (w.alloc (.cells #[.int .i64 (t).num, .string (t).txt] 44)))
  generalize cmpI t.num n = x at *
  go_enter Try.func67, Try.ntmps67
  go_wp2_with fail
  refine (unhide HC).mono ?_
  rintro e w3 ⟨rfl, rfl⟩
  go_wp2
  exact bodyPost_ret (v := .int .i64 x) (by simp [results, Try.results67, go_sem]) rfl ⟨rfl, (by repeat (first | with_reducible exact Below.refl _ _ | with_reducible assumption | with_reducible refine Below.setCell ?_ (by first | omega | (dsimp only; omega) | (simp <;> omega)) _ | with_reducible refine Below.alloc ?_ (by first | omega | (simp <;> omega)) _ | with_reducible refine below_drewN ?_ _ | with_reducible refine Below.drew ?_))⟩
end Go.Proofs.Ytgcgilcalmefgaa
