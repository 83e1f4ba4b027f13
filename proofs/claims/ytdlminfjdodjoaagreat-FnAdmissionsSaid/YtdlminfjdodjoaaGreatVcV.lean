/-
  Steps of the stable sort,as its loops take them.
-/
import Derived.Test.YtdlminfjdodjoaaGreatVcU
namespace Go.Proofs.YtdlminfjdodjoaaGreat
set_option linter.unusedVariables false
set_option linter.unusedSimpArgs false
open Go.RowKit
section
variable {α:Type} [Inhabited α]
variable {lt:α->α->Bool} {xs:List α}
end
end Go.Proofs.YtdlminfjdodjoaaGreat
