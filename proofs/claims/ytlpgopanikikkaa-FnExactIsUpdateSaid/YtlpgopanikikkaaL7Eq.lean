/-
  The program and the reference compute the same: plain laws over what the walks showed.
-/
import Derived.Test.YtlpgopanikikkaaL7Law
namespace Go.Proofs.Ytlpgopanikikkaa
open Go.RowKit
theorem within_same (x a b : Int) : impl_within_m x a b = spec_l1In_m x a b := rfl
theorem IsRow_same (x : DRow) : impl_IsRow_m x = spec_IsRow_m x := rfl
theorem isField_same (x : Int) : impl_isField_m x = spec_l1In_m x 0 2 := rfl
theorem IsUpdate_same (x : DUpdate) : impl_IsUpdate_m x = spec_IsUpdate_m x := by
  unfold impl_IsUpdate_m spec_IsUpdate_m
  rw [IsRow_same, within_same, within_same, isField_same]
  cases spec_l1In_m x.Row.Id 0 999 <;> cases h1 : x.Kind == 1 <;> cases x.Kind == 2 <;> cases x.Kind == 3 <;> cases spec_IsRow_m x.Row <;> cases (((x.Row.Values.length : Nat) : Int) == 0) <;> rfl
theorem law_IsUpdate (x : DUpdate) : laws_FnExactIsUpdate_m x = true := by
  unfold laws_FnExactIsUpdate_m
  rw [IsUpdate_same, bne_self_eq_false, laws_eqUpdate_refl]
  cases decide (laws_szUpdate_m x 1048576 < 0) <;> rfl

end Go.Proofs.Ytlpgopanikikkaa
