/- Walks for chapter 9 (names). -/
import Derived.Test.YtgcgilcalmefgaaProg
import Derived.Test.YtgcgilcalmefgaaBase
import Derived.Test.YtgcgilcalmefgaaNameP
import Derived.WalkKit
import Derived.BigGuardPart
namespace Go.Proofs.Ytgcgilcalmefgaa.Nm
open Go Go.RowKit
set_option maxRecDepth 100000
set_option linter.unusedSimpArgs false
set_option linter.unusedVariables false
set_option maxHeartbeats 400000
theorem digit_any (c : Int) (w : World) : Calls Try.prog 54 #[.int .i32 c] w (Ret (.bool (digitB c)) w) := by
  go_enter Try.func54, Try.ntmps54
  go_wp2
  all_goals go_ret
  all_goals exact ret_bool (by rw [Bool.eq_iff_iff]; simp [digitB]; omega)
end Go.Proofs.Ytgcgilcalmefgaa.Nm
