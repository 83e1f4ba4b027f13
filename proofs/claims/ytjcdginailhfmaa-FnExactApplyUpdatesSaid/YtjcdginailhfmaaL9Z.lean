/-
  ApplyUpdates of the program and of the reference return the same, for every argument.
-/
import Derived.Test.YtjcdginailhfmaaArg
import Derived.Test.YtjcdginailhfmaaL9Eq
namespace Go.Proofs.Ytjcdginailhfmaa
open Go.RowKit
open Go.ChangeShapes Go.WideShapes Go.ChangeAt
set_option maxRecDepth 100000 in
theorem applyUpdates_lifted (os : Os) (started : os.Started) (H : Type) (enc : TypeId × Value → H) :
    ReturnsInHanded {} Try.checked os 9 .any (Rows.fnExactApplyUpdatesSpec.pre6 enc Try.prog Try.f9 Rows.fnExactApplyUpdatesRow.domain false) (Rows.fnExactApplyUpdatesSpec.post enc Try.prog Try.f9 false true false false) := by
  refine returnsInHanded_of_change (C := Try.checked) own_z started (by kernel_rfl) Try.func9
    (ChangeSpec.witness6 (enc := enc) (C := Try.checked) false ⟨#[], #[.agg #[.slice none 0 0, .int .i64 0], .slice none 0 0], []⟩ 8 (by kernel_rfl) (by kernel_rfl) (by kernel_rfl) (by kernel_rfl)) ?_
  intro W base args ds gs before hval0 hW hcnd _
  have hval : ∀ (j : Nat) t v, Try.f9.params[j]? = some t → args[j]? = some v → Value.okWide Try.prog W .any base t v := hval0
  have hW' := hW
  obtain ⟨p, q, hA0, hV, rfl, hfz, hnd⟩ := hW
  have hA : DataW.TrodAll enc Try.prog W 0 (fun _ => true) true Try.f9.params.toList args.toList ds p := hA0
  rw [Try.params9] at hA hval
  obtain ⟨v0, v1, d0, d1, p0, p1, rfl, rfl, rfl, h0, h1⟩ := trodAll_two hA
  obtain ⟨c0, x0, rfl, r0⟩ := arg_struct tyLStore_Rds Try.underlying41 (hval 0 41 v0 rfl rfl) h0
  obtain ⟨x1, r1⟩ := arg_slice (Rds_slice Try.underlying76 (by kernel_rfl) (by decide) tyLUpdate_Rds) Try.underlying76 (hval 1 76 v1 rfl rfl) h1
  obtain ⟨rfl, rfl⟩ := trodVars_none hV
  refine (laws_FnExactApplyUpdates_c W c0 x0 v1 x1 r0 r1).mono fun e W' ⟨he, hw⟩ => ?_
  rw [law_ApplyUpdates x0 x1 (tyLStore_sm r0) (rdS_sm r1 fun _ _ h => (tyLUpdate_sm h))] at he
  subst he
  exact ⟨_, rfl, law_post laidOut_z (by kernel_rfl) rfl rfl Try.underlying4 hW' rfl hw⟩

theorem applyUpdates_holds : Rows.FnExactApplyUpdatesSaid :=
  OpenClaim.holds_of_wide 9 Try.f9 rfl rfl rfl rfl rfl rfl rfl ⟨rfl, rfl, rfl, rfl, rfl⟩ rfl rfl rfl rfl rfl (by kernel_rfl) Try.func9 (by kernel_rfl)
    (of_decide_eq_true (by kernel_rfl)) (by unfold Func.isWrapper; rw [if_neg (of_decide_eq_false (by kernel_rfl))]; exact ⟨rfl, rfl⟩)
    (fun os started H enc _ => applyUpdates_lifted os started H enc)
end Go.Proofs.Ytjcdginailhfmaa
