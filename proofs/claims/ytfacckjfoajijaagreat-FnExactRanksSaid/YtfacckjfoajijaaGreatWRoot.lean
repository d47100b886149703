/- Root: all its helpers. No condition. -/
import Derived.Test.YtfacckjfoajijaaGreatWRootO
import Derived.Test.YtfacckjfoajijaaGreatWRootZ
import Derived.Test.YtfacckjfoajijaaGreatWRootT
import Derived.Test.YtfacckjfoajijaaGreatWRootQ
namespace Go.Proofs.YtfacckjfoajijaaGreat
open Go.RowKit Go.Deep


end Go.Proofs.YtfacckjfoajijaaGreat
