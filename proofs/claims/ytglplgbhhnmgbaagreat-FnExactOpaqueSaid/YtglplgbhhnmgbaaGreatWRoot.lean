/- Root: all its helpers. No condition. -/
import Derived.Test.YtglplgbhhnmgbaaGreatWRootO
import Derived.Test.YtglplgbhhnmgbaaGreatWRootZ
import Derived.Test.YtglplgbhhnmgbaaGreatWRootT
import Derived.Test.YtglplgbhhnmgbaaGreatWRootQ
namespace Go.Proofs.YtglplgbhhnmgbaaGreat
open Go.RowKit Go.Deep


end Go.Proofs.YtglplgbhhnmgbaaGreat
