/-
  Plain laws of the functions that the law runs over its arguments.
-/
import Derived.Test.YtcjelfdpekbbkaaDoorL3F1
import Derived.Test.YtcjelfdpekbbkaaDoorVcP
namespace Go.Proofs.YtcjelfdpekbbkaaDoor
open Go.RowKit
theorem laws_toGroup_eq (x : DGroup) : laws_toGroup_m x = x := rfl
end Go.Proofs.YtcjelfdpekbbkaaDoor
