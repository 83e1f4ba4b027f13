/-
  FinishEngine of the program and of the reference return the same, for every argument.
-/
import Derived.Test.YtdlminfjdodjoaaGreatArg
import Derived.Test.YtdlminfjdodjoaaGreatL4Eq
namespace Go.Proofs.YtdlminfjdodjoaaGreat
open Go.RowKit
open Go.ChangeShapes Go.WideShapes Go.ChangeAt
set_option maxRecDepth 100000 in
theorem Qasj (os : Os) (started : os.Started) (H : Type) (enc : TypeId × Value → H) :
    ReturnsInHanded {} Tryz.checked os 4 .any (Rows.fnExactFinishEngineSpec.pre6 enc Tryz.prog Tryz.f4 Rows.fnExactFinishEngineRow.domain false) (Rows.fnExactFinishEngineSpec.post enc Tryz.prog Tryz.f4 false true false false) := by
  refine returnsInHanded_of_change (C := Tryz.checked) Qayx started (by kernel_rfl) Tryz.func4
    (ChangeSpec.witness6 (enc := enc) (C := Tryz.checked) false ⟨#[], #[.agg #[.slice none 0 0, .int .i64 0, .int .i64 0, .slice none 0 0, .slice none 0 0, .slice none 0 0, .slice none 0 0, .int .i64 0]], []⟩ 8 (by kernel_rfl) (by kernel_rfl) (by kernel_rfl) (by kernel_rfl)) ?_
  intro W base args ds gs before hval0 hW hcnd _
  have hval : ∀ (j : Nat) t v, Tryz.f4.params[j]? = some t → args[j]? = some v → Value.okWide Tryz.prog W .any base t v := hval0
  have hW' := hW
  obtain ⟨p, q, hA0, hV, rfl, hfz, hnd⟩ := hW
  have hA : DataW.TrodAll enc Tryz.prog W 0 (fun _ => true) true Tryz.f4.params.toList args.toList ds p := hA0
  rw [Tryz.params4] at hA hval
  obtain ⟨v0, d0, rfl, rfl, h0⟩ := trodAll_one hA
  obtain ⟨c0, x0, rfl, r0⟩ := Qamw Qbdk Tryz.underlying30 (hval 0 30 v0 rfl rfl) h0
  obtain ⟨rfl, rfl⟩ := trodVars_none hV
  refine (Qaup W c0 x0 r0).mono fun e W' ⟨he, hw⟩ => ?_
  rw [Qaun x0 (Qaiw r0)] at he
  subst he
  exact ⟨_, rfl, Qauo Qaum (by kernel_rfl) rfl rfl Tryz.underlying4 hW' rfl hw⟩
set_option maxRecDepth 100000 in
theorem Qare : ((Rows.fnExactFinishEngineRow).wf (OpenSpec.ofChange (Rows.fnExactFinishEngineSpec)) : Bool) = true := by kernel_rfl
set_option maxRecDepth 100000 in
theorem Qarf : (laidOutB Tryz.prog : Bool) = true := by kernel_rfl
set_option maxRecDepth 100000 in
theorem Qarq : (mapsRowed Tryz.prog : Bool) = true := by kernel_rfl
set_option maxRecDepth 100000 in
theorem Qasa : (Tryz.f4.params.all (Tryz.prog.readableRec ·) : Bool) = true := by kernel_rfl
set_option maxRecDepth 100000 in
theorem Qasd : (namedTie Tryz.prog (Rows.fnExactFinishEngineRow).named (Rows.fnExactFinishEngineSpec).vars : Bool) = true := by kernel_rfl
set_option maxRecDepth 100000 in
theorem Qase : ((Rows.fnExactFinishEngineRow).stops == [] : Bool) = true := by kernel_rfl
set_option maxRecDepth 100000 in
theorem Qasf : (Tryz.prog.stops == [] : Bool) = true := by kernel_rfl
set_option maxRecDepth 100000 in
theorem Qasg : ((Rows.fnExactFinishEngineRow).knobs == [] : Bool) = true := by kernel_rfl
set_option maxRecDepth 100000 in
theorem Qash : (Tryz.prog.stopKnobs == [] : Bool) = true := by kernel_rfl
set_option maxRecDepth 100000 in
theorem Qasi : ((Rows.fnExactFinishEngineRow).inPlace == Tryz.prog.inPlace 4 : Bool) = true := by kernel_rfl
set_option maxRecDepth 100000 in
theorem Qarg : ((Rows.fnExactFinishEngineRow).unfollowed == Tryz.prog.unfollowed 4 : Bool) = true := by kernel_rfl
set_option maxRecDepth 100000 in
theorem Qarh : ((Rows.fnExactFinishEngineRow).recurses == Tryz.prog.recurses 4 : Bool) = true := by kernel_rfl
set_option maxRecDepth 100000 in
theorem Qari : ((Rows.fnExactFinishEngineRow).named == Tryz.prog.varsNamed 4 : Bool) = true := by kernel_rfl
set_option maxRecDepth 100000 in
theorem Qarj : ((Rows.fnExactFinishEngineRow).maps == (Tryz.f4.params.toList ++ (Rows.fnExactFinishEngineSpec).plain.varTypes Tryz.prog).any (Tryz.prog.mapsRec ·) : Bool) = true := by kernel_rfl
set_option maxRecDepth 100000 in
theorem Qark : ((Rows.fnExactFinishEngineRow).ifaces == (Tryz.f4.params.toList ++ (Rows.fnExactFinishEngineSpec).plain.varTypes Tryz.prog).any (Tryz.prog.ifacesRec ·) : Bool) = true := by kernel_rfl
set_option maxRecDepth 100000 in
theorem Qarl : ((Rows.fnExactFinishEngineRow).mapsOut == Tryz.prog.mapsAmong Tryz.f4.resultTypes.toList : Bool) = true := by kernel_rfl
set_option maxRecDepth 100000 in
theorem Qarm : ((Rows.fnExactFinishEngineRow).loops == (Tryz.f4.params.toList ++ (Rows.fnExactFinishEngineSpec).plain.varTypes Tryz.prog).any (Tryz.prog.loopsFrom ·) : Bool) = true := by kernel_rfl
set_option maxRecDepth 100000 in
theorem Qarn : ((Rows.fnExactFinishEngineRow).wideKeys == ((Tryz.f4.params.toList ++ (Rows.fnExactFinishEngineSpec).plain.varTypes Tryz.prog) ++ Tryz.f4.resultTypes.toList).any (Tryz.prog.wideKeysFrom ·) : Bool) = true := by kernel_rfl
set_option maxRecDepth 100000 in
theorem Qaro : ((Rows.fnExactFinishEngineSpec).vars.all (Tryz.prog.varReadable ·) : Bool) = true := by kernel_rfl
set_option maxRecDepth 100000 in
theorem Qarp : (Tryz.f4.resultTypes.all (fun t => Tryz.prog.readableRec t && decide (t < Tryz.prog.types.size)) : Bool) = true := by kernel_rfl
set_option maxRecDepth 100000 in
theorem Qarr : ((Rows.fnExactFinishEngineRow).ifacesOut == Tryz.f4.resultTypes.toList.any (Tryz.prog.ifacesRec ·) : Bool) = true := by kernel_rfl
set_option maxRecDepth 100000 in
theorem Qars : ((Rows.fnExactFinishEngineRow).loopsOut == Tryz.f4.resultTypes.toList.any (Tryz.prog.loopsFrom ·) : Bool) = true := by kernel_rfl
set_option maxRecDepth 100000 in
theorem Qart : ((Rows.fnExactFinishEngineRow).plainKeys == Tryz.prog.plainKeys : Bool) = true := by kernel_rfl
set_option maxRecDepth 100000 in
theorem Qaru : ((Rows.fnExactFinishEngineRow).shortTexts.isNone : Bool) = true := by kernel_rfl
set_option maxRecDepth 100000 in
theorem Qarv : (Tryz.prog.stopsHeard : Bool) = true := by kernel_rfl
set_option maxRecDepth 100000 in
theorem Qarw : (Tryz.prog.mayEnter : Bool) = true := by kernel_rfl
set_option maxRecDepth 100000 in
theorem Qarx : ((Rows.fnExactFinishEngineRow).lifted == Tryz.prog.liftsFinal : Bool) = true := by kernel_rfl
set_option maxRecDepth 100000 in
theorem Qary : (Tryz.prog.make == some (Rows.fnExactFinishEngineRow).make : Bool) = true := by kernel_rfl
set_option maxRecDepth 100000 in
theorem Qarz : ((Rows.fnExactFinishEngineRow).pinned == (Rows.fnExactFinishEngineRow).pinnedBy : Bool) = true := by kernel_rfl
set_option maxRecDepth 100000 in
theorem Qasb : ((Rows.fnExactFinishEngineRow).veiled == ((Tryz.f4.params.toList ++ (Rows.fnExactFinishEngineSpec).plain.varTypes Tryz.prog) ++ Tryz.f4.resultTypes.toList).any (Tryz.prog.veiledRec ·) : Bool) = true := by kernel_rfl
set_option maxRecDepth 100000 in
theorem Qasc : ((Rows.fnExactFinishEngineRow).veiledFits Tryz.prog Tryz.f4.params.toList ((Tryz.f4.params.toList ++ (Rows.fnExactFinishEngineSpec).plain.varTypes Tryz.prog) ++ Tryz.f4.resultTypes.toList) : Bool) = true := by kernel_rfl
theorem Qer {a b : Bool} (h : a = true) (k : b = true) : (a && b) = true := by rw [h, k]; rfl
set_option maxRecDepth 100000 in
theorem Qard : joinedFacts Tryz.prog 4 Tryz.f4 (Rows.fnExactFinishEngineSpec) (Rows.fnExactFinishEngineRow) = true := by
  unfold joinedFacts
  exact (Qer (Qer (Qer (Qer (Qer (Qer (Qer (Qer (Qer (Qer (Qer (Qer (Qer (Qer (Qer (Qer (Qer (Qer (Qer (Qer (Qer (Qer (Qer (Qer (Qer (Qer (Qer (Qer (Qer (Qer (Qer Qare Qarf) Qarq) Qasa) Qasd) Qase) Qasf) Qasg) Qash) Qasi) Qarg) Qarh) Qari) Qarj) Qark) Qarl) Qarm) Qarn) Qaro) Qarp) Qarr) Qars) Qart) Qaru) Qarv) Qarw) Qarx) Qary) (by kernel_rfl)) Qarz) Qasb) Qasc)
set_option maxRecDepth 100000 in
theorem Qarc : Tryz.f4.isInstance Tryz.prog (Rows.fnExactFinishEngineRow).origin (Rows.fnExactFinishEngineRow).targs := of_decide_eq_true (by kernel_rfl)

theorem finishEngine_holds : Rows.FnExactFinishEngineSaid :=
  OpenClaim.holds_of_wide 4 Tryz.f4 rfl rfl rfl rfl rfl rfl rfl ⟨rfl, rfl, rfl, rfl, rfl⟩ rfl rfl rfl rfl rfl (by kernel_rfl) Tryz.func4 Qard
    Qarc (by unfold Func.isWrapper; rw [if_neg (of_decide_eq_false (by kernel_rfl))]; exact ⟨rfl, rfl⟩)
    (fun os started H enc _ => Qasj os started H enc)
end Go.Proofs.YtdlminfjdodjoaaGreat
