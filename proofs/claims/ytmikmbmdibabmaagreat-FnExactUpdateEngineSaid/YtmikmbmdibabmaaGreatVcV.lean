/-
  Steps of the stable sort, as its loops take them.
-/
import Derived.Test.YtmikmbmdibabmaaGreatVcU
namespace Go.Proofs.YtmikmbmdibabmaaGreat
open Go.RowKit

section
variable {α : Type} [Inhabited α]
variable {lt : α → α → Bool} {xs : List α}
end
end Go.Proofs.YtmikmbmdibabmaaGreat

