/-
  StepEngine of the program and of the reference return the same, for every argument.
-/
import Derived.Test.YtdlminfjdodjoaaGreatArg
import Derived.Test.YtdlminfjdodjoaaGreatL3Eq
namespace Go.Proofs.YtdlminfjdodjoaaGreat
open Go.RowKit
open Go.ChangeShapes Go.WideShapes Go.ChangeAt
set_option maxRecDepth 100000 in
theorem Qbbz (os : Os) (started : os.Started) (H : Type) (enc : TypeId × Value → H) :
    ReturnsInHanded {} Tryz.checked os 3 .any (Rows.fnExactStepEngineSpec.pre6 enc Tryz.prog Tryz.f3 Rows.fnExactStepEngineRow.domain false) (Rows.fnExactStepEngineSpec.post enc Tryz.prog Tryz.f3 false true false false) := by
  refine returnsInHanded_of_change (C := Tryz.checked) Qaww started (by kernel_rfl) Tryz.func3
    (ChangeSpec.witness6 (enc := enc) (C := Tryz.checked) false ⟨#[], #[.agg #[.slice none 0 0, .int .i64 0, .int .i64 0, .slice none 0 0, .slice none 0 0, .slice none 0 0, .slice none 0 0, .int .i64 0]], []⟩ 8 (by kernel_rfl) (by kernel_rfl) (by kernel_rfl) (by kernel_rfl)) ?_
  intro W base args ds gs before hval0 hW hcnd _
  have hval : ∀ (j : Nat) t v, Tryz.f3.params[j]? = some t → args[j]? = some v → Value.okWide Tryz.prog W .any base t v := hval0
  have hW' := hW
  obtain ⟨p, q, hA0, hV, rfl, hfz, hnd⟩ := hW
  have hA : DataW.TrodAll enc Tryz.prog W 0 (fun _ => true) true Tryz.f3.params.toList args.toList ds p := hA0
  rw [Tryz.params3] at hA hval
  obtain ⟨v0, d0, rfl, rfl, h0⟩ := trodAll_one hA
  obtain ⟨c0, x0, rfl, r0⟩ := Qama Qbcs Tryz.underlying30 (hval 0 30 v0 rfl rfl) h0
  obtain ⟨rfl, rfl⟩ := trodVars_none hV
  refine (Qaso W c0 x0 r0).mono fun e W' ⟨he, hw⟩ => ?_
  rw [Qasm x0 (Qaif r0)] at he
  subst he
  exact ⟨_, rfl, Qasn Qasl (by kernel_rfl) rfl rfl Tryz.underlying4 hW' rfl hw⟩
set_option maxRecDepth 100000 in
theorem Qbau : ((Rows.fnExactStepEngineRow).wf (OpenSpec.ofChange (Rows.fnExactStepEngineSpec)) : Bool) = true := by kernel_rfl
set_option maxRecDepth 100000 in
theorem Qbav : (laidOutB Tryz.prog : Bool) = true := by kernel_rfl
set_option maxRecDepth 100000 in
theorem Qbbg : (mapsRowed Tryz.prog : Bool) = true := by kernel_rfl
set_option maxRecDepth 100000 in
theorem Qbbq : (Tryz.f3.params.all (Tryz.prog.readableRec ·) : Bool) = true := by kernel_rfl
set_option maxRecDepth 100000 in
theorem Qbbt : (namedTie Tryz.prog (Rows.fnExactStepEngineRow).named (Rows.fnExactStepEngineSpec).vars : Bool) = true := by kernel_rfl
set_option maxRecDepth 100000 in
theorem Qbbu : ((Rows.fnExactStepEngineRow).stops == [] : Bool) = true := by kernel_rfl
set_option maxRecDepth 100000 in
theorem Qbbv : (Tryz.prog.stops == [] : Bool) = true := by kernel_rfl
set_option maxRecDepth 100000 in
theorem Qbbw : ((Rows.fnExactStepEngineRow).knobs == [] : Bool) = true := by kernel_rfl
set_option maxRecDepth 100000 in
theorem Qbbx : (Tryz.prog.stopKnobs == [] : Bool) = true := by kernel_rfl
set_option maxRecDepth 100000 in
theorem Qbby : ((Rows.fnExactStepEngineRow).inPlace == Tryz.prog.inPlace 3 : Bool) = true := by kernel_rfl
set_option maxRecDepth 100000 in
theorem Qbaw : ((Rows.fnExactStepEngineRow).unfollowed == Tryz.prog.unfollowed 3 : Bool) = true := by kernel_rfl
set_option maxRecDepth 100000 in
theorem Qbax : ((Rows.fnExactStepEngineRow).recurses == Tryz.prog.recurses 3 : Bool) = true := by kernel_rfl
set_option maxRecDepth 100000 in
theorem Qbay : ((Rows.fnExactStepEngineRow).named == Tryz.prog.varsNamed 3 : Bool) = true := by kernel_rfl
set_option maxRecDepth 100000 in
theorem Qbaz : ((Rows.fnExactStepEngineRow).maps == (Tryz.f3.params.toList ++ (Rows.fnExactStepEngineSpec).plain.varTypes Tryz.prog).any (Tryz.prog.mapsRec ·) : Bool) = true := by kernel_rfl
set_option maxRecDepth 100000 in
theorem Qbba : ((Rows.fnExactStepEngineRow).ifaces == (Tryz.f3.params.toList ++ (Rows.fnExactStepEngineSpec).plain.varTypes Tryz.prog).any (Tryz.prog.ifacesRec ·) : Bool) = true := by kernel_rfl
set_option maxRecDepth 100000 in
theorem Qbbb : ((Rows.fnExactStepEngineRow).mapsOut == Tryz.prog.mapsAmong Tryz.f3.resultTypes.toList : Bool) = true := by kernel_rfl
set_option maxRecDepth 100000 in
theorem Qbbc : ((Rows.fnExactStepEngineRow).loops == (Tryz.f3.params.toList ++ (Rows.fnExactStepEngineSpec).plain.varTypes Tryz.prog).any (Tryz.prog.loopsFrom ·) : Bool) = true := by kernel_rfl
set_option maxRecDepth 100000 in
theorem Qbbd : ((Rows.fnExactStepEngineRow).wideKeys == ((Tryz.f3.params.toList ++ (Rows.fnExactStepEngineSpec).plain.varTypes Tryz.prog) ++ Tryz.f3.resultTypes.toList).any (Tryz.prog.wideKeysFrom ·) : Bool) = true := by kernel_rfl
set_option maxRecDepth 100000 in
theorem Qbbe : ((Rows.fnExactStepEngineSpec).vars.all (Tryz.prog.varReadable ·) : Bool) = true := by kernel_rfl
set_option maxRecDepth 100000 in
theorem Qbbf : (Tryz.f3.resultTypes.all (fun t => Tryz.prog.readableRec t && decide (t < Tryz.prog.types.size)) : Bool) = true := by kernel_rfl
set_option maxRecDepth 100000 in
theorem Qbbh : ((Rows.fnExactStepEngineRow).ifacesOut == Tryz.f3.resultTypes.toList.any (Tryz.prog.ifacesRec ·) : Bool) = true := by kernel_rfl
set_option maxRecDepth 100000 in
theorem Qbbi : ((Rows.fnExactStepEngineRow).loopsOut == Tryz.f3.resultTypes.toList.any (Tryz.prog.loopsFrom ·) : Bool) = true := by kernel_rfl
set_option maxRecDepth 100000 in
theorem Qbbj : ((Rows.fnExactStepEngineRow).plainKeys == Tryz.prog.plainKeys : Bool) = true := by kernel_rfl
set_option maxRecDepth 100000 in
theorem Qbbk : ((Rows.fnExactStepEngineRow).shortTexts.isNone : Bool) = true := by kernel_rfl
set_option maxRecDepth 100000 in
theorem Qbbl : (Tryz.prog.stopsHeard : Bool) = true := by kernel_rfl
set_option maxRecDepth 100000 in
theorem Qbbm : (Tryz.prog.mayEnter : Bool) = true := by kernel_rfl
set_option maxRecDepth 100000 in
theorem Qbbn : ((Rows.fnExactStepEngineRow).lifted == Tryz.prog.liftsFinal : Bool) = true := by kernel_rfl
set_option maxRecDepth 100000 in
theorem Qbbo : (Tryz.prog.make == some (Rows.fnExactStepEngineRow).make : Bool) = true := by kernel_rfl
set_option maxRecDepth 100000 in
theorem Qbbp : ((Rows.fnExactStepEngineRow).pinned == (Rows.fnExactStepEngineRow).pinnedBy : Bool) = true := by kernel_rfl
set_option maxRecDepth 100000 in
theorem Qbbr : ((Rows.fnExactStepEngineRow).veiled == ((Tryz.f3.params.toList ++ (Rows.fnExactStepEngineSpec).plain.varTypes Tryz.prog) ++ Tryz.f3.resultTypes.toList).any (Tryz.prog.veiledRec ·) : Bool) = true := by kernel_rfl
set_option maxRecDepth 100000 in
theorem Qbbs : ((Rows.fnExactStepEngineRow).veiledFits Tryz.prog Tryz.f3.params.toList ((Tryz.f3.params.toList ++ (Rows.fnExactStepEngineSpec).plain.varTypes Tryz.prog) ++ Tryz.f3.resultTypes.toList) : Bool) = true := by kernel_rfl
theorem Qeo {a b : Bool} (h : a = true) (k : b = true) : (a && b) = true := by rw [h, k]; rfl
set_option maxRecDepth 100000 in
theorem Qbat : joinedFacts Tryz.prog 3 Tryz.f3 (Rows.fnExactStepEngineSpec) (Rows.fnExactStepEngineRow) = true := by
  unfold joinedFacts
  exact (Qeo (Qeo (Qeo (Qeo (Qeo (Qeo (Qeo (Qeo (Qeo (Qeo (Qeo (Qeo (Qeo (Qeo (Qeo (Qeo (Qeo (Qeo (Qeo (Qeo (Qeo (Qeo (Qeo (Qeo (Qeo (Qeo (Qeo (Qeo (Qeo (Qeo (Qeo Qbau Qbav) Qbbg) Qbbq) Qbbt) Qbbu) Qbbv) Qbbw) Qbbx) Qbby) Qbaw) Qbax) Qbay) Qbaz) Qbba) Qbbb) Qbbc) Qbbd) Qbbe) Qbbf) Qbbh) Qbbi) Qbbj) Qbbk) Qbbl) Qbbm) Qbbn) Qbbo) (by kernel_rfl)) Qbbp) Qbbr) Qbbs)
set_option maxRecDepth 100000 in
theorem Qbas : Tryz.f3.isInstance Tryz.prog (Rows.fnExactStepEngineRow).origin (Rows.fnExactStepEngineRow).targs := of_decide_eq_true (by kernel_rfl)

theorem stepEngine_holds : Rows.FnExactStepEngineSaid :=
  OpenClaim.holds_of_wide 3 Tryz.f3 rfl rfl rfl rfl rfl rfl rfl ⟨rfl, rfl, rfl, rfl, rfl⟩ rfl rfl rfl rfl rfl (by kernel_rfl) Tryz.func3 Qbat
    Qbas (by unfold Func.isWrapper; rw [if_neg (of_decide_eq_false (by kernel_rfl))]; exact ⟨rfl, rfl⟩)
    (fun os started H enc _ => Qbbz os started H enc)
end Go.Proofs.YtdlminfjdodjoaaGreat
