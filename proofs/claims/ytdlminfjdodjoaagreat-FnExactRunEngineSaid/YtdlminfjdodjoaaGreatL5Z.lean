/-
  RunEngine of the program and of the reference return the same, for every argument.
-/
import Derived.Test.YtdlminfjdodjoaaGreatArg
import Derived.Test.YtdlminfjdodjoaaGreatL5Eq
namespace Go.Proofs.YtdlminfjdodjoaaGreat
open Go.RowKit
open Go.ChangeShapes Go.WideShapes Go.ChangeAt
set_option maxRecDepth 100000 in
theorem Qazs (os : Os) (started : os.Started) (H : Type) (enc : TypeId × Value → H) :
    ReturnsInHanded {} Tryz.checked os 5 .any (Rows.fnExactRunEngineSpec.pre6 enc Tryz.prog Tryz.f5 Rows.fnExactRunEngineRow.domain false) (Rows.fnExactRunEngineSpec.post enc Tryz.prog Tryz.f5 false true false false) := by
  refine returnsInHanded_of_change (C := Tryz.checked) Qaxo started (by kernel_rfl) Tryz.func5
    (ChangeSpec.witness6 (enc := enc) (C := Tryz.checked) false ⟨#[], #[.agg #[.slice none 0 0, .int .i64 0, .int .i64 0, .slice none 0 0, .slice none 0 0, .slice none 0 0, .slice none 0 0, .int .i64 0], .int .i64 0], []⟩ 8 (by kernel_rfl) (by kernel_rfl) (by kernel_rfl) (by kernel_rfl)) ?_
  intro W base args ds gs before hval0 hW hcnd _
  have hval : ∀ (j : Nat) t v, Tryz.f5.params[j]? = some t → args[j]? = some v → Value.okWide Tryz.prog W .any base t v := hval0
  have hW' := hW
  obtain ⟨p, q, hA0, hV, rfl, hfz, hnd⟩ := hW
  have hA : DataW.TrodAll enc Tryz.prog W 0 (fun _ => true) true Tryz.f5.params.toList args.toList ds p := hA0
  rw [Tryz.params5] at hA hval
  obtain ⟨v0, v1, d0, d1, p0, p1, rfl, rfl, rfl, h0, h1⟩ := trodAll_two hA
  obtain ⟨c0, x0, rfl, r0⟩ := Qamv Qbdj Tryz.underlying30 (hval 0 30 v0 rfl rfl) h0
  obtain ⟨x1, rfl, rfl, rfl, _⟩ := open_int Tryz.underlying3 (hval 1 3 v1 rfl rfl) h1
  obtain ⟨rfl, rfl⟩ := trodVars_none hV
  refine (Qatg W c0 x0 x1 r0).mono fun e W' ⟨he, hw⟩ => ?_
  rw [Qate x0 x1 (Qaiv r0)] at he
  subst he
  exact ⟨_, rfl, Qatf Qatd (by kernel_rfl) rfl rfl Tryz.underlying4 hW' rfl hw⟩
set_option maxRecDepth 100000 in
theorem Qayn : ((Rows.fnExactRunEngineRow).wf (OpenSpec.ofChange (Rows.fnExactRunEngineSpec)) : Bool) = true := by kernel_rfl
set_option maxRecDepth 100000 in
theorem Qayo : (laidOutB Tryz.prog : Bool) = true := by kernel_rfl
set_option maxRecDepth 100000 in
theorem Qayz : (mapsRowed Tryz.prog : Bool) = true := by kernel_rfl
set_option maxRecDepth 100000 in
theorem Qazj : (Tryz.f5.params.all (Tryz.prog.readableRec ·) : Bool) = true := by kernel_rfl
set_option maxRecDepth 100000 in
theorem Qazm : (namedTie Tryz.prog (Rows.fnExactRunEngineRow).named (Rows.fnExactRunEngineSpec).vars : Bool) = true := by kernel_rfl
set_option maxRecDepth 100000 in
theorem Qazn : ((Rows.fnExactRunEngineRow).stops == [] : Bool) = true := by kernel_rfl
set_option maxRecDepth 100000 in
theorem Qazo : (Tryz.prog.stops == [] : Bool) = true := by kernel_rfl
set_option maxRecDepth 100000 in
theorem Qazp : ((Rows.fnExactRunEngineRow).knobs == [] : Bool) = true := by kernel_rfl
set_option maxRecDepth 100000 in
theorem Qazq : (Tryz.prog.stopKnobs == [] : Bool) = true := by kernel_rfl
set_option maxRecDepth 100000 in
theorem Qazr : ((Rows.fnExactRunEngineRow).inPlace == Tryz.prog.inPlace 5 : Bool) = true := by kernel_rfl
set_option maxRecDepth 100000 in
theorem Qayp : ((Rows.fnExactRunEngineRow).unfollowed == Tryz.prog.unfollowed 5 : Bool) = true := by kernel_rfl
set_option maxRecDepth 100000 in
theorem Qayq : ((Rows.fnExactRunEngineRow).recurses == Tryz.prog.recurses 5 : Bool) = true := by kernel_rfl
set_option maxRecDepth 100000 in
theorem Qayr : ((Rows.fnExactRunEngineRow).named == Tryz.prog.varsNamed 5 : Bool) = true := by kernel_rfl
set_option maxRecDepth 100000 in
theorem Qays : ((Rows.fnExactRunEngineRow).maps == (Tryz.f5.params.toList ++ (Rows.fnExactRunEngineSpec).plain.varTypes Tryz.prog).any (Tryz.prog.mapsRec ·) : Bool) = true := by kernel_rfl
set_option maxRecDepth 100000 in
theorem Qayt : ((Rows.fnExactRunEngineRow).ifaces == (Tryz.f5.params.toList ++ (Rows.fnExactRunEngineSpec).plain.varTypes Tryz.prog).any (Tryz.prog.ifacesRec ·) : Bool) = true := by kernel_rfl
set_option maxRecDepth 100000 in
theorem Qayu : ((Rows.fnExactRunEngineRow).mapsOut == Tryz.prog.mapsAmong Tryz.f5.resultTypes.toList : Bool) = true := by kernel_rfl
set_option maxRecDepth 100000 in
theorem Qayv : ((Rows.fnExactRunEngineRow).loops == (Tryz.f5.params.toList ++ (Rows.fnExactRunEngineSpec).plain.varTypes Tryz.prog).any (Tryz.prog.loopsFrom ·) : Bool) = true := by kernel_rfl
set_option maxRecDepth 100000 in
theorem Qayw : ((Rows.fnExactRunEngineRow).wideKeys == ((Tryz.f5.params.toList ++ (Rows.fnExactRunEngineSpec).plain.varTypes Tryz.prog) ++ Tryz.f5.resultTypes.toList).any (Tryz.prog.wideKeysFrom ·) : Bool) = true := by kernel_rfl
set_option maxRecDepth 100000 in
theorem Qayx : ((Rows.fnExactRunEngineSpec).vars.all (Tryz.prog.varReadable ·) : Bool) = true := by kernel_rfl
set_option maxRecDepth 100000 in
theorem Qayy : (Tryz.f5.resultTypes.all (fun t => Tryz.prog.readableRec t && decide (t < Tryz.prog.types.size)) : Bool) = true := by kernel_rfl
set_option maxRecDepth 100000 in
theorem Qaza : ((Rows.fnExactRunEngineRow).ifacesOut == Tryz.f5.resultTypes.toList.any (Tryz.prog.ifacesRec ·) : Bool) = true := by kernel_rfl
set_option maxRecDepth 100000 in
theorem Qazb : ((Rows.fnExactRunEngineRow).loopsOut == Tryz.f5.resultTypes.toList.any (Tryz.prog.loopsFrom ·) : Bool) = true := by kernel_rfl
set_option maxRecDepth 100000 in
theorem Qazc : ((Rows.fnExactRunEngineRow).plainKeys == Tryz.prog.plainKeys : Bool) = true := by kernel_rfl
set_option maxRecDepth 100000 in
theorem Qazd : ((Rows.fnExactRunEngineRow).shortTexts.isNone : Bool) = true := by kernel_rfl
set_option maxRecDepth 100000 in
theorem Qaze : (Tryz.prog.stopsHeard : Bool) = true := by kernel_rfl
set_option maxRecDepth 100000 in
theorem Qazf : (Tryz.prog.mayEnter : Bool) = true := by kernel_rfl
set_option maxRecDepth 100000 in
theorem Qazg : ((Rows.fnExactRunEngineRow).lifted == Tryz.prog.liftsFinal : Bool) = true := by kernel_rfl
set_option maxRecDepth 100000 in
theorem Qazh : (Tryz.prog.make == some (Rows.fnExactRunEngineRow).make : Bool) = true := by kernel_rfl
set_option maxRecDepth 100000 in
theorem Qazi : ((Rows.fnExactRunEngineRow).pinned == (Rows.fnExactRunEngineRow).pinnedBy : Bool) = true := by kernel_rfl
set_option maxRecDepth 100000 in
theorem Qazk : ((Rows.fnExactRunEngineRow).veiled == ((Tryz.f5.params.toList ++ (Rows.fnExactRunEngineSpec).plain.varTypes Tryz.prog) ++ Tryz.f5.resultTypes.toList).any (Tryz.prog.veiledRec ·) : Bool) = true := by kernel_rfl
set_option maxRecDepth 100000 in
theorem Qazl : ((Rows.fnExactRunEngineRow).veiledFits Tryz.prog Tryz.f5.params.toList ((Tryz.f5.params.toList ++ (Rows.fnExactRunEngineSpec).plain.varTypes Tryz.prog) ++ Tryz.f5.resultTypes.toList) : Bool) = true := by kernel_rfl
theorem Qep {a b : Bool} (h : a = true) (k : b = true) : (a && b) = true := by rw [h, k]; rfl
set_option maxRecDepth 100000 in
theorem Qaym : joinedFacts Tryz.prog 5 Tryz.f5 (Rows.fnExactRunEngineSpec) (Rows.fnExactRunEngineRow) = true := by
  unfold joinedFacts
  exact (Qep (Qep (Qep (Qep (Qep (Qep (Qep (Qep (Qep (Qep (Qep (Qep (Qep (Qep (Qep (Qep (Qep (Qep (Qep (Qep (Qep (Qep (Qep (Qep (Qep (Qep (Qep (Qep (Qep (Qep (Qep Qayn Qayo) Qayz) Qazj) Qazm) Qazn) Qazo) Qazp) Qazq) Qazr) Qayp) Qayq) Qayr) Qays) Qayt) Qayu) Qayv) Qayw) Qayx) Qayy) Qaza) Qazb) Qazc) Qazd) Qaze) Qazf) Qazg) Qazh) (by kernel_rfl)) Qazi) Qazk) Qazl)
set_option maxRecDepth 100000 in
theorem Qayl : Tryz.f5.isInstance Tryz.prog (Rows.fnExactRunEngineRow).origin (Rows.fnExactRunEngineRow).targs := of_decide_eq_true (by kernel_rfl)

theorem runEngine_holds : Rows.FnExactRunEngineSaid :=
  OpenClaim.holds_of_wide 5 Tryz.f5 rfl rfl rfl rfl rfl rfl rfl ⟨rfl, rfl, rfl, rfl, rfl⟩ rfl rfl rfl rfl rfl (by kernel_rfl) Tryz.func5 Qaym
    Qayl (by unfold Func.isWrapper; rw [if_neg (of_decide_eq_false (by kernel_rfl))]; exact ⟨rfl, rfl⟩)
    (fun os started H enc _ => Qazs os started H enc)
end Go.Proofs.YtdlminfjdodjoaaGreat
