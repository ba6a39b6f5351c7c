/- Walks for chapter 9 (names). -/
import Derived.Test.YthlmobmaehdmfaaDoorProg
import Derived.Test.YthlmobmaehdmfaaDoorBase
import Derived.Test.YthlmobmaehdmfaaDoorNameP
import Derived.WalkKit
import Derived.BigGuardPart
namespace Go.Proofs.YthlmobmaehdmfaaDoor.Nm
open Go Go.RowKit
set_option maxRecDepth 100000
set_option linter.unusedSimpArgs false
set_option linter.unusedVariables false
set_option maxHeartbeats 400000
theorem letter_any (c : Int) (w : World) : Calls Tryd.prog 19 #[.int .i32 c] w (Ret (.bool (letterB c)) w) := by
  by_cases h1 : c = 95
  · subst h1
    go_enter Tryd.func19, Tryd.ntmps19
    go_wp2
    go_ret
    exact ⟨rfl, rfl⟩
  · have h1' : (c == 95) = false := by simpa using h1
    go_enter Tryd.func19, Tryd.ntmps19
    go_wp2
    all_goals go_ret
    all_goals exact ret_bool (by rw [Bool.eq_iff_iff]; simp [letterB, h1]; omega)
theorem digit_any (c : Int) (w : World) : Calls Tryd.prog 20 #[.int .i32 c] w (Ret (.bool (digitB c)) w) := by
  go_enter Tryd.func20, Tryd.ntmps20
  go_wp2
  all_goals go_ret
  all_goals exact ret_bool (by rw [Bool.eq_iff_iff]; simp [digitB]; omega)
theorem rsign_any (c : Int) (f : Bool) (w : World) : Calls Tryd.prog 21 #[.int .u8 c, .bool f] w (Ret (.bool (signB c f)) w) := by
  by_cases h1 : c = 95
  · subst h1
    go_enter Tryd.func21, Tryd.ntmps21
    go_wp2
    all_goals go_ret
    all_goals exact ret_bool (by simp [signB, letterB])
  · have h1' : (c == 95) = false := by simpa using h1
    cases f
    all_goals
      go_enter Tryd.func21, Tryd.ntmps21
      go_wp2
    all_goals go_ret
    all_goals exact ret_bool (by rw [Bool.eq_iff_iff]; simp [signB, letterB, digitB, h1]; omega)
end Go.Proofs.YthlmobmaehdmfaaDoor.Nm
