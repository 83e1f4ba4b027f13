/-
  Plain laws of the functions that the law runs over its arguments.
-/
import Derived.Test.YtfdaaliffcfjjaaGreatDoorL3F4
import Derived.Test.YtfdaaliffcfjjaaGreatDoorVcP
namespace Go.Proofs.YtfdaaliffcfjjaaGreatDoor
open Go.RowKit

end Go.Proofs.YtfdaaliffcfjjaaGreatDoor
