/- Contracts of l1In and within. No condition. -/
import Derived.Test.YtnhkjgnfjphllaaInts
namespace Go.Proofs.Ytnhkjgnfjphllaa
open Go.RowKit

theorem l1In_any (x lo hi : Int) (w : World) :
    Calls Try.prog 54 #[.int .i64 x, .int .i64 lo, .int .i64 hi] w fun e w' => e = .returned (.bool (decide (lo ≤ x ∧ x ≤ hi))) ∧ w = w' := by
  by_cases h1 : lo ≤ x
  all_goals by_cases h2 : x ≤ hi
  all_goals go_enter Try.func54, Try.ntmps54
  all_goals go_wp2
  all_goals go_ret
  all_goals simp [h1, h2]

theorem within_any (x lo hi : Int) (w : World) :
    Calls Try.prog 58 #[.int .i64 x, .int .i64 lo, .int .i64 hi] w fun e w' => e = .returned (.bool (decide (lo ≤ x ∧ x ≤ hi))) ∧ w = w' := by
  by_cases h1 : lo ≤ x
  all_goals by_cases h2 : x ≤ hi
  all_goals go_enter Try.func58, Try.ntmps58
  all_goals go_wp2
  all_goals go_ret
  all_goals simp [h1, h2]

end Go.Proofs.Ytnhkjgnfjphllaa
