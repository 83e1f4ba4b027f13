/-
  The program and the reference compute the same: plain laws over what the walks showed.
-/
import Derived.Test.YtfjhiegahdknmaaL7Law
namespace Go.Proofs.Ytfjhiegahdknmaa
open Go.RowKit
theorem sameInts_same (x y : List Int) : impl_sameInts_m x y = spec_l2Ints_m x y := rfl
theorem equalQuery_same (x y : DQuery) : impl_equalQuery_m x y = spec_l9SameQuery_m x y := by
  unfold impl_equalQuery_m spec_l9SameQuery_m slices_Equal_impl_Cond_m
  have hb : (fun k (_ : Unit) => slices_Equal_impl_Cond_b1 x.Conds y.Conds k) = fun k (_ : Unit) => spec_l9SameQuery_b1 x y k := rfl
  rw [hb]
  have hr : ∃ t : Bool, Sum.elim id (fun (_ : Unit) => true) (rng (R := Bool) (fun k (_ : Unit) => spec_l9SameQuery_b1 x y k) (x.Conds.length - 0) 0 ()) = t := ⟨_, rfl⟩
  obtain ⟨t, ht⟩ := hr
  rw [ht, sameInts_same]
  simp only [cb_ne, cb_and, cb_nand, Bool.not_not]
  ac_rfl
theorem equalActive_same (x y : DActive) : impl_equalActive_m x y = spec_l9SameActive_m x y := by
  unfold impl_equalActive_m spec_l9SameActive_m
  rw [equalQuery_same]
  rfl
theorem EqualStores_same (x y : DStore) : impl_EqualStores_m x y = spec_EqualStores_m x y := by
  unfold impl_EqualStores_m spec_EqualStores_m
  congr 3
  refine rng_ext (fun j s => ?_) _ _ _
  unfold impl_EqualStores_b1 spec_EqualStores_b1 spec_l7Same_m
  have hb : (fun k (_ : Unit) => impl_EqualStores_b2 x y j k) = fun k (_ : Unit) => spec_l7Same_b1 (gt x.Segments j) (gt y.Segments j) k := by
    funext k u
    unfold impl_EqualStores_b2 spec_l7Same_b1 impl_equalVersion_m
    rw [sameInts_same]
    simp only [cb_ne]
    cases (gt (gt x.Segments j) k).Id == (gt (gt y.Segments j) k).Id <;> cases (gt (gt x.Segments j) k).Born == (gt (gt y.Segments j) k).Born <;> cases (gt (gt x.Segments j) k).Died == (gt (gt y.Segments j) k).Died <;>
      cases spec_l2Ints_m (gt (gt x.Segments j) k).Values (gt (gt y.Segments j) k).Values <;> rfl
  rw [hb]
  rw [rng_allN (p := fun k => spec_l7Same_b1 (gt x.Segments j) (gt y.Segments j) k == .inr ()) (r := false) (fun k _ => by
    unfold spec_l7Same_b1
    cases ((gt (gt x.Segments j) k).Id != (gt (gt y.Segments j) k).Id) <;> cases ((gt (gt x.Segments j) k).Born != (gt (gt y.Segments j) k).Born) <;> cases ((gt (gt x.Segments j) k).Died != (gt (gt y.Segments j) k).Died) <;>
      cases spec_l2Ints_m (gt (gt x.Segments j) k).Values (gt (gt y.Segments j) k).Values <;> rfl)]
  cases (List.range (gt x.Segments j).length).all (fun k => spec_l7Same_b1 (gt x.Segments j) (gt y.Segments j) k == .inr ()) <;> cases (((gt x.Segments j).length : Int) != ((gt y.Segments j).length : Int)) <;> rfl
theorem EqualEngines_same (x y : DEngine) : impl_EqualEngines_m x y = spec_EqualEngines_m x y := by
  unfold impl_EqualEngines_m spec_EqualEngines_m
  have h1 : (fun k (_ : Unit) => impl_EqualEngines_b1 x y k) = fun k (_ : Unit) => spec_EqualEngines_b1 x y k := by
    funext k u; unfold impl_EqualEngines_b1 spec_EqualEngines_b1; rw [equalActive_same]
  have h2 : (fun k (_ : Unit) => impl_EqualEngines_b2 x y k) = fun k (_ : Unit) => spec_EqualEngines_b2 x y k := by
    funext k u; unfold impl_EqualEngines_b2 spec_EqualEngines_b2; rw [equalQuery_same]; rfl
  have h3 : (fun k (_ : Unit) => impl_EqualEngines_b3 x y k) = fun k (_ : Unit) => spec_EqualEngines_b3 x y k := rfl
  rw [h1, h2, h3, EqualStores_same, sameInts_same]
  generalize Sum.elim id _ (rng (R := Bool) (fun k (_ : Unit) => spec_EqualEngines_b1 x y k) (x.Active.length - 0) 0 ()) = t
  simp only [cb_ne, cb_and, cb_nand, Bool.not_not]
  ac_rfl
theorem law_EqualEngines (x y : DEngine) : laws_FnExactEqualEngines_m x y = true := by
  unfold laws_FnExactEqualEngines_m
  rw [EqualEngines_same, bne_self_eq_false, laws_eqEngine_refl, laws_eqEngine_refl]
  cases decide (laws_szEngine_m x 1048576 < 0) <;> cases decide (laws_szEngine_m y (laws_szEngine_m x 1048576) < 0) <;> rfl

end Go.Proofs.Ytfjhiegahdknmaa
