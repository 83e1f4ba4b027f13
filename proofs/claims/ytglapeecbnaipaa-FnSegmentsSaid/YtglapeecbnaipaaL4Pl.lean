/-
  Plain laws of the functions that the law runs over its arguments.
-/
import Derived.Test.YtglapeecbnaipaaL4F4
import Derived.Test.YtglapeecbnaipaaVcP
namespace Go.Proofs.Ytglapeecbnaipaa
open Go.RowKit

end Go.Proofs.Ytglapeecbnaipaa
