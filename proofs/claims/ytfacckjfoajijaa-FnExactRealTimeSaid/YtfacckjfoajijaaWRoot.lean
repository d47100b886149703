/- Root: all its helpers. No condition. -/
import Derived.Test.YtfacckjfoajijaaWRootO
import Derived.Test.YtfacckjfoajijaaWRootZ
import Derived.Test.YtfacckjfoajijaaWRootT
import Derived.Test.YtfacckjfoajijaaWRootQ
namespace Go.Proofs.Ytfacckjfoajijaa
open Go.RowKit Go.Deep


end Go.Proofs.Ytfacckjfoajijaa
