/-
  How the arguments of the laws read.
-/
import Derived.Test.YtfdaaliffcfjjaaDoorVcZ
import Derived.Test.YtfdaaliffcfjjaaDoorDat
import Derived.Test.YtfdaaliffcfjjaaDoorVcK
namespace Go.Proofs.YtfdaaliffcfjjaaDoor
open Go.RowKit

end Go.Proofs.YtfdaaliffcfjjaaDoor
