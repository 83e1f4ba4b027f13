/-
  Plain laws of the functions that the law runs over its arguments.
-/
import Derived.Test.YtdlminfjdodjoaaGreatL6F7
import Derived.Test.YtdlminfjdodjoaaGreatVcP
namespace Go.Proofs.YtdlminfjdodjoaaGreat
open Go.RowKit
end Go.Proofs.YtdlminfjdodjoaaGreat
