/-
  CoalitionCost of the program and of the reference return the same, for every argument.
-/
import Derived.Test.YtlpgopanikikkaaArg
import Derived.Test.YtlpgopanikikkaaL14Eq
namespace Go.Proofs.Ytlpgopanikikkaa
open Go.RowKit
open Go.ChangeShapes Go.WideShapes Go.ChangeAt
set_option maxRecDepth 100000 in
theorem coalitionCost_lifted (os : Os) (started : os.Started) (H : Type) (enc : TypeId × Value → H) :
    ReturnsInHanded {} Try.checked os 14 .any (Rows.fnExactCoalitionCostSpec.pre6 enc Try.prog Try.f14 Rows.fnExactCoalitionCostRow.domain false) (Rows.fnExactCoalitionCostSpec.post enc Try.prog Try.f14 false true false false) := by
  refine returnsInHanded_of_change (C := Try.checked) own_z started (by kernel_rfl) Try.func14
    (ChangeSpec.witness6 (enc := enc) (C := Try.checked) false ⟨#[], #[.slice none 0 0, .slice none 0 0], []⟩ 8 (by kernel_rfl) (by kernel_rfl) (by kernel_rfl) (by kernel_rfl)) ?_
  intro W base args ds gs before hval0 hW hcnd _
  have hval : ∀ (j : Nat) t v, Try.f14.params[j]? = some t → args[j]? = some v → Value.okWide Try.prog W .any base t v := hval0
  have hW' := hW
  obtain ⟨p, q, hA0, hV, rfl, hfz, hnd⟩ := hW
  have hA : DataW.TrodAll enc Try.prog W 0 (fun _ => true) true Try.f14.params.toList args.toList ds p := hA0
  rw [Try.params14] at hA hval
  obtain ⟨v0, v1, d0, d1, p0, p1, rfl, rfl, rfl, h0, h1⟩ := trodAll_two hA
  obtain ⟨x0, r0⟩ := arg_slice (Rds_slice Try.underlying66 (by kernel_rfl) (by decide) tyLCharge_Rds) Try.underlying66 (hval 0 66 v0 rfl rfl) h0
  obtain ⟨x1, r1⟩ := arg_slice (Rds_slice Try.underlying32 (by kernel_rfl) (by decide) (Rds_int Try.underlying3)) Try.underlying32 (hval 1 32 v1 rfl rfl) h1
  obtain ⟨rfl, rfl⟩ := trodVars_none hV
  refine (laws_FnExactCoalitionCost_c W v0 x0 v1 x1 r0 r1).mono fun e W' ⟨he, hw⟩ => ?_
  rw [law_CoalitionCost x0 x1] at he
  subst he
  exact ⟨_, rfl, law_post laidOut_z (by kernel_rfl) rfl rfl Try.underlying4 hW' rfl hw⟩

theorem coalitionCost_holds : Rows.FnExactCoalitionCostSaid :=
  OpenClaim.holds_of_wide 14 Try.f14 rfl rfl rfl rfl rfl rfl rfl ⟨rfl, rfl, rfl, rfl, rfl⟩ rfl rfl rfl rfl rfl (by kernel_rfl) Try.func14 (by kernel_rfl)
    (of_decide_eq_true (by kernel_rfl)) (by unfold Func.isWrapper; rw [if_neg (of_decide_eq_false (by kernel_rfl))]; exact ⟨rfl, rfl⟩)
    (fun os started H enc _ => coalitionCost_lifted os started H enc)
end Go.Proofs.Ytlpgopanikikkaa
