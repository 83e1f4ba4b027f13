/-
  ReclaimStore of the program and of the reference return the same, for every argument.
-/
import Derived.Test.YtjcdginailhfmaaArg
import Derived.Test.YtjcdginailhfmaaL5Eq
namespace Go.Proofs.Ytjcdginailhfmaa
open Go.RowKit
open Go.ChangeShapes Go.WideShapes Go.ChangeAt
set_option maxRecDepth 100000 in
theorem reclaimStore_lifted (os : Os) (started : os.Started) (H : Type) (enc : TypeId × Value → H) :
    ReturnsInHanded {} Try.checked os 5 .any (Rows.fnExactReclaimStoreSpec.pre6 enc Try.prog Try.f5 Rows.fnExactReclaimStoreRow.domain false) (Rows.fnExactReclaimStoreSpec.post enc Try.prog Try.f5 false true false false) := by
  refine returnsInHanded_of_change (C := Try.checked) own_z started (by kernel_rfl) Try.func5
    (ChangeSpec.witness6 (enc := enc) (C := Try.checked) false ⟨#[], #[.agg #[.slice none 0 0, .int .i64 0], .slice none 0 0], []⟩ 8 (by kernel_rfl) (by kernel_rfl) (by kernel_rfl) (by kernel_rfl)) ?_
  intro W base args ds gs before hval0 hW hcnd _
  have hval : ∀ (j : Nat) t v, Try.f5.params[j]? = some t → args[j]? = some v → Value.okWide Try.prog W .any base t v := hval0
  have hW' := hW
  obtain ⟨p, q, hA0, hV, rfl, hfz, hnd⟩ := hW
  have hA : DataW.TrodAll enc Try.prog W 0 (fun _ => true) true Try.f5.params.toList args.toList ds p := hA0
  rw [Try.params5] at hA hval
  obtain ⟨v0, v1, d0, d1, p0, p1, rfl, rfl, rfl, h0, h1⟩ := trodAll_two hA
  obtain ⟨c0, x0, rfl, r0⟩ := arg_struct tyLStore_Rds Try.underlying41 (hval 0 41 v0 rfl rfl) h0
  obtain ⟨x1, r1⟩ := arg_slice (Rds_slice Try.underlying33 (by kernel_rfl) (by decide) (Rds_int Try.underlying3)) Try.underlying33 (hval 1 33 v1 rfl rfl) h1
  obtain ⟨rfl, rfl⟩ := trodVars_none hV
  refine (laws_FnExactReclaimStore_c W c0 x0 v1 x1 r0 r1).mono fun e W' ⟨he, hw⟩ => ?_
  rw [law_ReclaimStore x0 x1 (tyLStore_sm r0) r1.1] at he
  subst he
  exact ⟨_, rfl, law_post laidOut_z (by kernel_rfl) rfl rfl Try.underlying4 hW' rfl hw⟩

theorem reclaimStore_holds : Rows.FnExactReclaimStoreSaid :=
  OpenClaim.holds_of_wide 5 Try.f5 rfl rfl rfl rfl rfl rfl rfl ⟨rfl, rfl, rfl, rfl, rfl⟩ rfl rfl rfl rfl rfl (by kernel_rfl) Try.func5 (by kernel_rfl)
    (of_decide_eq_true (by kernel_rfl)) (by unfold Func.isWrapper; rw [if_neg (of_decide_eq_false (by kernel_rfl))]; exact ⟨rfl, rfl⟩)
    (fun os started H enc _ => reclaimStore_lifted os started H enc)
end Go.Proofs.Ytjcdginailhfmaa
