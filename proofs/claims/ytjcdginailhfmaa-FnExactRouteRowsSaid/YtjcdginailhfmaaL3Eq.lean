/-
  The program and the reference compute the same: plain laws over what the walks showed.
-/
import Derived.Test.YtjcdginailhfmaaL3Law
namespace Go.Proofs.Ytjcdginailhfmaa
open Go.RowKit
theorem RouteRows_same (x : List DAnnotated) (i : Int) : impl_RouteRows_m x i = spec_RouteRows_m x i := rfl
theorem RouteRows_form (x : List DAnnotated) (i : Int) : impl_RouteRows_m x i = (x.filter fun a => impl_HasMember_m a.Set i).map fun a => a.Row := by
  unfold impl_RouteRows_m
  rw [rng_fold (f := fun d a => cond (impl_HasMember_m a.Set i) (d ++ [a.Row]) d) (fun j s _ => by unfold impl_RouteRows_b1; cases impl_HasMember_m (gt x j).Set i <;> rfl)]
  show List.foldl _ [] x = _
  rw [foldl_filterMap]
  rfl
theorem law_RouteRows (x : List DAnnotated) (i : Int) (ok : x.length ≤ 9223372036854775807 ∧ ∀ y ∈ x, smAnnotated 9223372036854775807 y) : laws_FnExactRouteRows_m x i = true := by
  unfold laws_FnExactRouteRows_m
  rw [laws_toAnnotatedS_eq, ← RouteRows_same, laws_eqRowS_refl, laws_eqAnnotatedS_refl]
  cases hs : decide (laws_szAnnotatedS_m x 1048576 < 0) with
  | true => rfl
  | false =>
    obtain ⟨h1, _, _⟩ := sz_small laws_szAnnotatedS_ok ok (by omega) (by omega) hs
    have hi : wtS wtRow (impl_RouteRows_m x i) ≤ wtS wtAnnotated x := by
      rw [RouteRows_form]
      exact Nat.le_trans (wtS_map wtAnnotated wtRow (fun a => a.Row) (fun a => by unfold wtAnnotated; omega) _) (wtS_filter _ _ _)
    obtain ⟨p1, _⟩ := laws_markAnnotatedS_ok.go x 1 (by omega) (by omega)
    obtain ⟨p2, _, r2⟩ := laws_markRowS_ok.go (impl_RouteRows_m x i) 1 (by omega) (by omega)
    rw [r2, decide_eq_false (by omega), decide_eq_false (by omega), bne_self_eq_false]
    rfl

end Go.Proofs.Ytjcdginailhfmaa
