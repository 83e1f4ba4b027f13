/-
  The program and the reference compute the same: plain laws over what the walks showed.
-/
import Derived.Test.YtlpgopanikikkaaL6Law
namespace Go.Proofs.Ytlpgopanikikkaa
open Go.RowKit
theorem CountRouted_same (x : List DAnnotated) : impl_CountRouted_m x = spec_CountRouted_m x := rfl
theorem law_CountRouted (x : List DAnnotated) : laws_FnExactCountRouted_m x = true := by
  unfold laws_FnExactCountRouted_m
  rw [CountRouted_same, bne_self_eq_false, laws_eqAnnotatedS_refl]
  cases decide (laws_szAnnotatedS_m x 1048576 < 0) <;> rfl

end Go.Proofs.Ytlpgopanikikkaa
