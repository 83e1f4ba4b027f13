/-
  The program and the reference compute the same: plain laws over what the walks showed.
-/
import Derived.Test.YtfjhiegahdknmaaL6Law
namespace Go.Proofs.Ytfjhiegahdknmaa
open Go.RowKit
theorem FindActive_same (x : DEngine) (i : Int) : impl_FindActive_m x i = spec_FindActive_m x i := rfl
theorem law_FindActive (x : DEngine) (i : Int) : laws_FnExactFindActive_m x i = true := by
  unfold laws_FnExactFindActive_m
  rw [FindActive_same, bne_self_eq_false, laws_eqEngine_refl]
  cases decide (laws_szEngine_m x 1048576 < 0) <;> rfl

end Go.Proofs.Ytfjhiegahdknmaa
