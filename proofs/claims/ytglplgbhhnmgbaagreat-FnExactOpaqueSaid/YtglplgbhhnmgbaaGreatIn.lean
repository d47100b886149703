/- Contracts of l1In and within. No condition. -/
import Derived.Test.YtglplgbhhnmgbaaGreatInts
namespace Go.Proofs.YtglplgbhhnmgbaaGreat
open Go.RowKit

theorem l1In_any (x lo hi : Int) (w : World) :
    Calls Tryz.prog 53 #[.int .i64 x, .int .i64 lo, .int .i64 hi] w fun e w' => e = .returned (.bool (decide (lo ≤ x ∧ x ≤ hi))) ∧ w = w' := by
  by_cases h1 : lo ≤ x
  all_goals by_cases h2 : x ≤ hi
  all_goals go_enter Tryz.func53, Tryz.ntmps53
  all_goals go_wp2
  all_goals go_ret
  all_goals simp [h1, h2]

theorem within_any (x lo hi : Int) (w : World) :
    Calls Tryz.prog 68 #[.int .i64 x, .int .i64 lo, .int .i64 hi] w fun e w' => e = .returned (.bool (decide (lo ≤ x ∧ x ≤ hi))) ∧ w = w' := by
  by_cases h1 : lo ≤ x
  all_goals by_cases h2 : x ≤ hi
  all_goals go_enter Tryz.func68, Tryz.ntmps68
  all_goals go_wp2
  all_goals go_ret
  all_goals simp [h1, h2]

end Go.Proofs.YtglplgbhhnmgbaaGreat
