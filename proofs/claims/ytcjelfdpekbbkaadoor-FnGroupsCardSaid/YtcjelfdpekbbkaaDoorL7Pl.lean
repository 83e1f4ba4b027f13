/-
  Plain laws of the functions that the law runs over its arguments.
-/
import Derived.Test.YtcjelfdpekbbkaaDoorL7F3
import Derived.Test.YtcjelfdpekbbkaaDoorVcP
namespace Go.Proofs.YtcjelfdpekbbkaaDoor
open Go.RowKit

end Go.Proofs.YtcjelfdpekbbkaaDoor
