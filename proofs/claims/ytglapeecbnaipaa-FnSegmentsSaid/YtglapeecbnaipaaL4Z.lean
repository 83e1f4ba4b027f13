/-
  Segments of the program and of the reference return the same, for every argument.
-/
import Derived.Test.YtglapeecbnaipaaArg
import Derived.Test.YtglapeecbnaipaaL4Eq
namespace Go.Proofs.Ytglapeecbnaipaa
open Go.RowKit
open Go.ChangeShapes Go.WideShapes Go.ChangeAt
set_option maxRecDepth 100000 in
theorem segments_lifted (os : Os) (started : os.Started) (H : Type) (enc : TypeId × Value → H) :
    ReturnsInHanded {} Try.checked os 4 .any (Rows.fnSegmentsSpec.pre6 enc Try.prog Try.f4 Rows.fnSegmentsRow.domain false) (Rows.fnSegmentsSpec.post enc Try.prog Try.f4 false true false false) := by
  refine returnsInHanded_of_change (C := Try.checked) own_z started (by kernel_rfl) Try.func4
    (ChangeSpec.witness6 (enc := enc) (C := Try.checked) false ⟨#[], #[.slice none 0 0], []⟩ 8 (by kernel_rfl) (by kernel_rfl) (by kernel_rfl) (by kernel_rfl)) ?_
  intro W base args ds gs before hval0 hW hcnd _
  have hval : ∀ (j : Nat) t v, Try.f4.params[j]? = some t → args[j]? = some v → Value.okWide Try.prog W .any base t v := hval0
  have hW' := hW
  obtain ⟨p, q, hA0, hV, rfl, hfz, hnd⟩ := hW
  have hA : DataW.TrodAll enc Try.prog W 0 (fun _ => true) true Try.f4.params.toList args.toList ds p := hA0
  rw [Try.params4] at hA hval
  obtain ⟨v0, d0, rfl, rfl, h0⟩ := trodAll_one hA
  obtain ⟨x0, r0⟩ := arg_slice (Rds_slice Try.underlying22 (by kernel_rfl) (by decide) (Rds_u8 Try.underlying5)) Try.underlying22 (hval 0 22 v0 rfl rfl) h0
  obtain ⟨rfl, rfl⟩ := trodVars_none hV
  refine (laws_FnSegments_c W v0 x0 r0).mono fun e W' ⟨he, hw⟩ => ?_
  rw [law_Segments x0] at he
  subst he
  exact ⟨_, rfl, law_post laidOut_z (by kernel_rfl) rfl rfl Try.underlying4 hW' rfl hw⟩

theorem segments_holds : Rows.FnSegmentsSaid :=
  OpenClaim.holds_of_wide 4 Try.f4 rfl rfl rfl rfl rfl rfl rfl ⟨rfl, rfl, rfl, rfl, rfl⟩ rfl rfl rfl rfl rfl (by kernel_rfl) Try.func4 (by kernel_rfl)
    (of_decide_eq_true (by kernel_rfl)) (by unfold Func.isWrapper; rw [if_neg (of_decide_eq_false (by kernel_rfl))]; exact ⟨rfl, rfl⟩)
    (fun os started H enc _ => segments_lifted os started H enc)
end Go.Proofs.Ytglapeecbnaipaa
