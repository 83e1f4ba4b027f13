/-
  StepBound of the program and of the reference return the same number, for every argument.
-/
import Derived.Test.YtlpgopanikikkaaStepFn
import Derived.Test.YtlpgopanikikkaaVcZ
namespace Go.Proofs.Ytlpgopanikikkaa
open Go.ChangeShapes Go.WideShapes Go.ChangeAt Go.RowKit

theorem stepBound_same (x : Int) : impl_StepBound_m x = spec_StepBound_m x := by
  unfold spec_StepBound_m impl_StepBound_m spec_l1In_m impl_within_m
  by_cases h1 : 1 ≤ x <;> by_cases h2 : x ≤ 8 <;> simp [h1, h2]
theorem stepBound_law (x : Int) : laws_FnExactStepBound_m x = true := by
  unfold laws_FnExactStepBound_m
  rw [stepBound_same, bne_self_eq_false]
  rfl

set_option maxRecDepth 100000 in
theorem stepBound_lifted (os : Os) (started : os.Started) (H : Type) (enc : TypeId × Value → H) :
    ReturnsInHanded {} Try.checked os 3 .any (Rows.fnExactStepBoundSpec.pre6 enc Try.prog Try.f3 Rows.fnExactStepBoundRow.domain false) (Rows.fnExactStepBoundSpec.post enc Try.prog Try.f3 false true false false) := by
  refine returnsInHanded_of_change (C := Try.checked) own_z started (by kernel_rfl) Try.func3
    (ChangeSpec.witness6 (enc := enc) (C := Try.checked) false ⟨#[], #[.int .i64 0], []⟩ 8 (by kernel_rfl) (by kernel_rfl) (by kernel_rfl) (by kernel_rfl)) ?_
  intro W base args ds gs before hval0 hW hcnd _
  have hval : ∀ (j : Nat) t v, Try.f3.params[j]? = some t → args[j]? = some v → Value.okWide Try.prog W .any base t v := hval0
  have hW' := hW
  obtain ⟨p, q, hA0, hV, rfl, hfz, hnd⟩ := hW
  have hA : DataW.TrodAll enc Try.prog W 0 (fun _ => true) true Try.f3.params.toList args.toList ds p := hA0
  rw [Try.params3] at hA hval
  obtain ⟨v0, d0, rfl, rfl, h0⟩ := trodAll_one hA
  obtain ⟨a, rfl, rfl, rfl, wa⟩ := open_int Try.underlying3 (hval 0 3 v0 rfl rfl) h0
  obtain ⟨rfl, rfl⟩ := trodVars_none hV
  refine (laws_FnExactStepBound_c W a).mono fun e W' ⟨he, hw⟩ => ?_
  rw [stepBound_law] at he
  subst he
  exact ⟨_, rfl, law_post laidOut_z (by kernel_rfl) rfl rfl Try.underlying4 hW' rfl hw⟩

theorem stepBound_holds : Rows.FnExactStepBoundSaid :=
  OpenClaim.holds_of_wide 3 Try.f3 rfl rfl rfl rfl rfl rfl rfl ⟨rfl, rfl, rfl, rfl, rfl⟩ rfl rfl rfl rfl rfl (by kernel_rfl) Try.func3 (by kernel_rfl)
    (of_decide_eq_true (by kernel_rfl)) (by unfold Func.isWrapper; rw [if_neg (of_decide_eq_false (by kernel_rfl))]; exact ⟨rfl, rfl⟩)
    (fun os started H enc _ => stepBound_lifted os started H enc)
end Go.Proofs.Ytlpgopanikikkaa
