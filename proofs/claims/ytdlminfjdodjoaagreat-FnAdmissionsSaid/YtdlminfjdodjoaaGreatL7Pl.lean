/-
  Plain laws of the functions that the law runs over its arguments.
-/
import Derived.Test.YtdlminfjdodjoaaGreatL7F8
import Derived.Test.YtdlminfjdodjoaaGreatVcP
namespace Go.Proofs.YtdlminfjdodjoaaGreat
set_option linter.unusedVariables false
set_option linter.unusedSimpArgs false
open Go.RowKit
end Go.Proofs.YtdlminfjdodjoaaGreat
