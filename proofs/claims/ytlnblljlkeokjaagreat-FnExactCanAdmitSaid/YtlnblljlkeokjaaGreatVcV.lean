/-
  Steps of the stable sort, as its loops take them.
-/
import Derived.Test.YtlnblljlkeokjaaGreatVcU
namespace Go.Proofs.YtlnblljlkeokjaaGreat
open Go.RowKit

section
variable {α : Type} [Inhabited α]
variable {lt : α → α → Bool} {xs : List α}
end
end Go.Proofs.YtlnblljlkeokjaaGreat

