/-
  Plain laws of the functions that the law runs over its arguments.
-/
import Derived.Test.YtlpgopanikikkaaL4F1
import Derived.Test.YtlpgopanikikkaaVcL
namespace Go.Proofs.Ytlpgopanikikkaa
open Go.RowKit
theorem laws_szGroupS_ok : SzOk laws_szGroupS_m List.length (fun x => x.length ≤ 9223372036854775807) := sz_len (fun _ _ => rfl)
theorem laws_toGroup_eq (x : DGroup) : laws_toGroup_m x = x := rfl
theorem laws_toGroupS_eq (x : (List DGroup)) : laws_toGroupS_m x = x := by
  unfold laws_toGroupS_m
  rw [rng_copy (b := fun k s => laws_toGroupS_b1 x k s) (xs := x) (by simp) (fun j s _ => by
    show Sum.inr (s.set j (laws_toGroup_m (gt x j))) = _
    rw [laws_toGroup_eq])]
  rfl
theorem laws_eqGroup_refl (x : DGroup) : laws_eqGroup_m x x = true := by
  simp only [laws_eqGroup_m, bne_self_eq_false, cond_false]
theorem laws_eqGroupS_refl (x : (List DGroup)) : laws_eqGroupS_m x x = true := by
  unfold laws_eqGroupS_m
  rw [bne_self_eq_false, cond_false, rng_all (fun j _ => by simp only [laws_eqGroupS_b1, cond_true, laws_eqGroup_refl])]
  rfl
theorem laws_markGroupS_e : MkOk (fun (_ : DGroup) (k : Int) => ((IntKind.i64.wrap ((IntKind.i64.wrap ((IntKind.i64.wrap ((IntKind.i64.wrap (k + 1)) + 1)) + 1)) + 1)), (⟨k, (IntKind.i64.wrap (k + 1)), (IntKind.i64.wrap ((IntKind.i64.wrap (k + 1)) + 1)), (IntKind.i64.wrap ((IntKind.i64.wrap ((IntKind.i64.wrap (k + 1)) + 1)) + 1))⟩ : DGroup))) (fun (x : DGroup) (k : Int) => (cond (((x).Query) != k) (Sum.inl (-1)) (cond (((x).Value) != (IntKind.i64.wrap (k + 1))) (Sum.inl (-1)) (cond (((x).Count) != (IntKind.i64.wrap ((IntKind.i64.wrap (k + 1)) + 1))) (Sum.inl (-1)) (cond (((x).Sum) != (IntKind.i64.wrap ((IntKind.i64.wrap ((IntKind.i64.wrap (k + 1)) + 1)) + 1))) (Sum.inl (-1)) (Sum.inr (IntKind.i64.wrap ((IntKind.i64.wrap ((IntKind.i64.wrap ((IntKind.i64.wrap (k + 1)) + 1)) + 1)) + 1)))))) : Int ⊕ Int)) (fun _ => 0) := ⟨fun x k h0 h1 => by
  have w1 : IntKind.i64.wrap (k + 1) = k + 1 := wrap_id (by omega) (by omega)
  have w2 : IntKind.i64.wrap (k + 1 + 1) = k + 1 + 1 := wrap_id (by omega) (by omega)
  have w3 : IntKind.i64.wrap (k + 1 + 1 + 1) = k + 1 + 1 + 1 := wrap_id (by omega) (by omega)
  have w4 : IntKind.i64.wrap (k + 1 + 1 + 1 + 1) = k + 1 + 1 + 1 + 1 := wrap_id (by omega) (by omega)
  simp only [w1, w2, w3, w4]
  exact ⟨by omega, by omega, by simp only [bne_self_eq_false, cond_false]⟩⟩
theorem laws_markGroupS_ok : MkF laws_markGroupS_m laws_heldGroupS_m List.length := MkF_list laws_markGroupS_e (b := fun _ k s => laws_markGroupS_b1 k s.1 s.2) (hb := fun x k s => laws_heldGroupS_b1 x k s) (fun x => wtS_zero x) (fun _ _ => rfl) (fun _ _ => rfl) (fun _ _ _ => rfl) (fun _ _ _ => rfl)
end Go.Proofs.Ytlpgopanikikkaa
