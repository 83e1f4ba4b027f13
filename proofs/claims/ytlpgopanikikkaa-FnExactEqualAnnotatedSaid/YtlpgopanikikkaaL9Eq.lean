/-
  The program and the reference compute the same: plain laws over what the walks showed.
-/
import Derived.Test.YtlpgopanikikkaaL9Law
namespace Go.Proofs.Ytlpgopanikikkaa
open Go.RowKit
theorem EqualAnnotated_same (x y : List DAnnotated) : impl_EqualAnnotated_m x y = spec_EqualAnnotated_m x y := rfl
theorem law_EqualAnnotated (x y : List DAnnotated) : laws_FnExactEqualAnnotated_m x y = true := by
  unfold laws_FnExactEqualAnnotated_m
  rw [EqualAnnotated_same, bne_self_eq_false, laws_eqAnnotatedS_refl, laws_eqAnnotatedS_refl]
  cases decide (laws_szAnnotatedS_m x 1048576 < 0) <;> cases decide (laws_szAnnotatedS_m y (laws_szAnnotatedS_m x 1048576) < 0) <;> rfl

end Go.Proofs.Ytlpgopanikikkaa
