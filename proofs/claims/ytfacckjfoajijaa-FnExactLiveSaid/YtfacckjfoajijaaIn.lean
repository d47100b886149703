/- Contracts of l1In and within. No condition. -/
import Derived.Test.YtfacckjfoajijaaInts
namespace Go.Proofs.Ytfacckjfoajijaa
open Go.RowKit

theorem l1In_any (x lo hi : Int) (w : World) :
    Calls Try.prog 91 #[.int .i64 x, .int .i64 lo, .int .i64 hi] w fun e w' => e = .returned (.bool (decide (lo ≤ x ∧ x ≤ hi))) ∧ w = w' := by
  by_cases h1 : lo ≤ x
  all_goals by_cases h2 : x ≤ hi
  all_goals go_enter Try.func91, Try.ntmps91
  all_goals go_wp2
  all_goals go_ret
  all_goals simp [h1, h2]

theorem within_any (x lo hi : Int) (w : World) :
    Calls Try.prog 97 #[.int .i64 x, .int .i64 lo, .int .i64 hi] w fun e w' => e = .returned (.bool (decide (lo ≤ x ∧ x ≤ hi))) ∧ w = w' := by
  by_cases h1 : lo ≤ x
  all_goals by_cases h2 : x ≤ hi
  all_goals go_enter Try.func97, Try.ntmps97
  all_goals go_wp2
  all_goals go_ret
  all_goals simp [h1, h2]

end Go.Proofs.Ytfacckjfoajijaa
