/-
  RowsAt of the program and of the reference return the same, for every argument.
-/
import Derived.Test.YtjcdginailhfmaaArg
import Derived.Test.YtjcdginailhfmaaL10Eq
namespace Go.Proofs.Ytjcdginailhfmaa
open Go.RowKit
open Go.ChangeShapes Go.WideShapes Go.ChangeAt
set_option maxRecDepth 100000 in
theorem rowsAt_lifted (os : Os) (started : os.Started) (H : Type) (enc : TypeId × Value → H) :
    ReturnsInHanded {} Try.checked os 10 .any (Rows.fnExactRowsAtSpec.pre6 enc Try.prog Try.f10 Rows.fnExactRowsAtRow.domain false) (Rows.fnExactRowsAtSpec.post enc Try.prog Try.f10 false true false false) := by
  refine returnsInHanded_of_change (C := Try.checked) own_z started (by kernel_rfl) Try.func10
    (ChangeSpec.witness6 (enc := enc) (C := Try.checked) false ⟨#[], #[.agg #[.slice none 0 0, .int .i64 0], .int .i64 0], []⟩ 8 (by kernel_rfl) (by kernel_rfl) (by kernel_rfl) (by kernel_rfl)) ?_
  intro W base args ds gs before hval0 hW hcnd _
  have hval : ∀ (j : Nat) t v, Try.f10.params[j]? = some t → args[j]? = some v → Value.okWide Try.prog W .any base t v := hval0
  have hW' := hW
  obtain ⟨p, q, hA0, hV, rfl, hfz, hnd⟩ := hW
  have hA : DataW.TrodAll enc Try.prog W 0 (fun _ => true) true Try.f10.params.toList args.toList ds p := hA0
  rw [Try.params10] at hA hval
  obtain ⟨v0, v1, d0, d1, p0, p1, rfl, rfl, rfl, h0, h1⟩ := trodAll_two hA
  obtain ⟨c0, x0, rfl, r0⟩ := arg_struct tyLStore_Rds Try.underlying41 (hval 0 41 v0 rfl rfl) h0
  obtain ⟨x1, rfl, rfl, rfl, _⟩ := open_int Try.underlying3 (hval 1 3 v1 rfl rfl) h1
  obtain ⟨rfl, rfl⟩ := trodVars_none hV
  refine (laws_FnExactRowsAt_c W c0 x0 x1 r0).mono fun e W' ⟨he, hw⟩ => ?_
  rw [law_RowsAt x0 x1 (tyLStore_sm r0)] at he
  subst he
  exact ⟨_, rfl, law_post laidOut_z (by kernel_rfl) rfl rfl Try.underlying4 hW' rfl hw⟩

theorem rowsAt_holds : Rows.FnExactRowsAtSaid :=
  OpenClaim.holds_of_wide 10 Try.f10 rfl rfl rfl rfl rfl rfl rfl ⟨rfl, rfl, rfl, rfl, rfl⟩ rfl rfl rfl rfl rfl (by kernel_rfl) Try.func10 (by kernel_rfl)
    (of_decide_eq_true (by kernel_rfl)) (by unfold Func.isWrapper; rw [if_neg (of_decide_eq_false (by kernel_rfl))]; exact ⟨rfl, rfl⟩)
    (fun os started H enc _ => rowsAt_lifted os started H enc)
end Go.Proofs.Ytjcdginailhfmaa
