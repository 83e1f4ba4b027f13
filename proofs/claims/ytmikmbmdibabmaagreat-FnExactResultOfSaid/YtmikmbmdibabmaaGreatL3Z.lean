/-
  ResultOf of the program and of the reference return the same, for every argument.
-/
import Derived.Test.YtmikmbmdibabmaaGreatArg
import Derived.Test.YtmikmbmdibabmaaGreatL3Eq
namespace Go.Proofs.YtmikmbmdibabmaaGreat
open Go.RowKit
open Go.ChangeShapes Go.WideShapes Go.ChangeAt
set_option maxRecDepth 100000 in
theorem resultOf_lifted (os : Os) (started : os.Started) (H : Type) (enc : TypeId × Value → H) :
    ReturnsInHanded {} Tryz.checked os 3 .any (Rows.fnExactResultOfSpec.pre6 enc Tryz.prog Tryz.f3 Rows.fnExactResultOfRow.domain false) (Rows.fnExactResultOfSpec.post enc Tryz.prog Tryz.f3 false true false false) := by
  refine returnsInHanded_of_change (C := Tryz.checked) own_z started (by kernel_rfl) Tryz.func3
    (ChangeSpec.witness6 (enc := enc) (C := Tryz.checked) false ⟨#[], #[.agg #[.slice none 0 0, .int .i64 0, .int .i64 0, .slice none 0 0, .slice none 0 0, .slice none 0 0, .slice none 0 0, .int .i64 0], .int .i64 0], []⟩ 8 (by kernel_rfl) (by kernel_rfl) (by kernel_rfl) (by kernel_rfl)) ?_
  intro W base args ds gs before hval0 hW hcnd _
  have hval : ∀ (j : Nat) t v, Tryz.f3.params[j]? = some t → args[j]? = some v → Value.okWide Tryz.prog W .any base t v := hval0
  have hW' := hW
  obtain ⟨p, q, hA0, hV, rfl, hfz, hnd⟩ := hW
  have hA : DataW.TrodAll enc Tryz.prog W 0 (fun _ => true) true Tryz.f3.params.toList args.toList ds p := hA0
  rw [Tryz.params3] at hA hval
  obtain ⟨v0, v1, d0, d1, p0, p1, rfl, rfl, rfl, h0, h1⟩ := trodAll_two hA
  obtain ⟨c0, x0, rfl, r0⟩ := arg_struct tyLEngine_Rds Tryz.underlying30 (hval 0 30 v0 rfl rfl) h0
  obtain ⟨x1, rfl, rfl, rfl, _⟩ := open_int Tryz.underlying3 (hval 1 3 v1 rfl rfl) h1
  obtain ⟨rfl, rfl⟩ := trodVars_none hV
  refine (laws_FnExactResultOf_c W c0 x0 x1 r0).mono fun e W' ⟨he, hw⟩ => ?_
  rw [law_ResultOf x0 x1 (tyLEngine_sm r0)] at he
  subst he
  exact ⟨_, rfl, law_post laidOut_z (by kernel_rfl) rfl rfl Tryz.underlying4 hW' rfl hw⟩
set_option maxRecDepth 100000 in
theorem resultOf_k0 : ((Rows.fnExactResultOfRow).wf (OpenSpec.ofChange (Rows.fnExactResultOfSpec)) : Bool) = true := by kernel_rfl
set_option maxRecDepth 100000 in
theorem resultOf_k1 : (laidOutB Tryz.prog : Bool) = true := by kernel_rfl
set_option maxRecDepth 100000 in
theorem resultOf_k2 : (mapsRowed Tryz.prog : Bool) = true := by kernel_rfl
set_option maxRecDepth 100000 in
theorem resultOf_k3 : (Tryz.f3.params.all (Tryz.prog.readableRec ·) : Bool) = true := by kernel_rfl
set_option maxRecDepth 100000 in
theorem resultOf_k4 : (namedTie Tryz.prog (Rows.fnExactResultOfRow).named (Rows.fnExactResultOfSpec).vars : Bool) = true := by kernel_rfl
set_option maxRecDepth 100000 in
theorem resultOf_k5 : ((Rows.fnExactResultOfRow).stops == [] : Bool) = true := by kernel_rfl
set_option maxRecDepth 100000 in
theorem resultOf_k6 : (Tryz.prog.stops == [] : Bool) = true := by kernel_rfl
set_option maxRecDepth 100000 in
theorem resultOf_k7 : ((Rows.fnExactResultOfRow).knobs == [] : Bool) = true := by kernel_rfl
set_option maxRecDepth 100000 in
theorem resultOf_k8 : (Tryz.prog.stopKnobs == [] : Bool) = true := by kernel_rfl
set_option maxRecDepth 100000 in
theorem resultOf_k9 : ((Rows.fnExactResultOfRow).inPlace == Tryz.prog.inPlace 3 : Bool) = true := by kernel_rfl
set_option maxRecDepth 100000 in
theorem resultOf_k10 : ((Rows.fnExactResultOfRow).unfollowed == Tryz.prog.unfollowed 3 : Bool) = true := by kernel_rfl
set_option maxRecDepth 100000 in
theorem resultOf_k11 : ((Rows.fnExactResultOfRow).recurses == Tryz.prog.recurses 3 : Bool) = true := by kernel_rfl
set_option maxRecDepth 100000 in
theorem resultOf_k12 : ((Rows.fnExactResultOfRow).named == Tryz.prog.varsNamed 3 : Bool) = true := by kernel_rfl
set_option maxRecDepth 100000 in
theorem resultOf_k13 : ((Rows.fnExactResultOfRow).maps == (Tryz.f3.params.toList ++ (Rows.fnExactResultOfSpec).plain.varTypes Tryz.prog).any (Tryz.prog.mapsRec ·) : Bool) = true := by kernel_rfl
set_option maxRecDepth 100000 in
theorem resultOf_k14 : ((Rows.fnExactResultOfRow).ifaces == (Tryz.f3.params.toList ++ (Rows.fnExactResultOfSpec).plain.varTypes Tryz.prog).any (Tryz.prog.ifacesRec ·) : Bool) = true := by kernel_rfl
set_option maxRecDepth 100000 in
theorem resultOf_k15 : ((Rows.fnExactResultOfRow).mapsOut == Tryz.prog.mapsAmong Tryz.f3.resultTypes.toList : Bool) = true := by kernel_rfl
set_option maxRecDepth 100000 in
theorem resultOf_k16 : ((Rows.fnExactResultOfRow).loops == (Tryz.f3.params.toList ++ (Rows.fnExactResultOfSpec).plain.varTypes Tryz.prog).any (Tryz.prog.loopsFrom ·) : Bool) = true := by kernel_rfl
set_option maxRecDepth 100000 in
theorem resultOf_k17 : ((Rows.fnExactResultOfRow).wideKeys == ((Tryz.f3.params.toList ++ (Rows.fnExactResultOfSpec).plain.varTypes Tryz.prog) ++ Tryz.f3.resultTypes.toList).any (Tryz.prog.wideKeysFrom ·) : Bool) = true := by kernel_rfl
set_option maxRecDepth 100000 in
theorem resultOf_k18 : ((Rows.fnExactResultOfSpec).vars.all (Tryz.prog.varReadable ·) : Bool) = true := by kernel_rfl
set_option maxRecDepth 100000 in
theorem resultOf_k19 : (Tryz.f3.resultTypes.all (fun t => Tryz.prog.readableRec t && decide (t < Tryz.prog.types.size)) : Bool) = true := by kernel_rfl
set_option maxRecDepth 100000 in
theorem resultOf_k20 : ((Rows.fnExactResultOfRow).ifacesOut == Tryz.f3.resultTypes.toList.any (Tryz.prog.ifacesRec ·) : Bool) = true := by kernel_rfl
set_option maxRecDepth 100000 in
theorem resultOf_k21 : ((Rows.fnExactResultOfRow).loopsOut == Tryz.f3.resultTypes.toList.any (Tryz.prog.loopsFrom ·) : Bool) = true := by kernel_rfl
set_option maxRecDepth 100000 in
theorem resultOf_k22 : ((Rows.fnExactResultOfRow).plainKeys == Tryz.prog.plainKeys : Bool) = true := by kernel_rfl
set_option maxRecDepth 100000 in
theorem resultOf_k23 : ((Rows.fnExactResultOfRow).shortTexts.isNone : Bool) = true := by kernel_rfl
set_option maxRecDepth 100000 in
theorem resultOf_k24 : (Tryz.prog.stopsHeard : Bool) = true := by kernel_rfl
set_option maxRecDepth 100000 in
theorem resultOf_k25 : (Tryz.prog.mayEnter : Bool) = true := by kernel_rfl
set_option maxRecDepth 100000 in
theorem resultOf_k26 : ((Rows.fnExactResultOfRow).lifted == Tryz.prog.liftsFinal : Bool) = true := by kernel_rfl
set_option maxRecDepth 100000 in
theorem resultOf_k27 : (Tryz.prog.make == some (Rows.fnExactResultOfRow).make : Bool) = true := by kernel_rfl
set_option maxRecDepth 100000 in
theorem resultOf_k29 : ((Rows.fnExactResultOfRow).pinned == (Rows.fnExactResultOfRow).pinnedBy : Bool) = true := by kernel_rfl
set_option maxRecDepth 100000 in
theorem resultOf_k30 : ((Rows.fnExactResultOfRow).veiled == ((Tryz.f3.params.toList ++ (Rows.fnExactResultOfSpec).plain.varTypes Tryz.prog) ++ Tryz.f3.resultTypes.toList).any (Tryz.prog.veiledRec ·) : Bool) = true := by kernel_rfl
set_option maxRecDepth 100000 in
theorem resultOf_k31 : ((Rows.fnExactResultOfRow).veiledFits Tryz.prog Tryz.f3.params.toList ((Tryz.f3.params.toList ++ (Rows.fnExactResultOfSpec).plain.varTypes Tryz.prog) ++ Tryz.f3.resultTypes.toList) : Bool) = true := by kernel_rfl
theorem and_t {a b : Bool} (h : a = true) (k : b = true) : (a && b) = true := by rw [h, k]; rfl
set_option maxRecDepth 100000 in
theorem resultOf_joined : joinedFacts Tryz.prog 3 Tryz.f3 (Rows.fnExactResultOfSpec) (Rows.fnExactResultOfRow) = true := by
  unfold joinedFacts
  exact (and_t (and_t (and_t (and_t (and_t (and_t (and_t (and_t (and_t (and_t (and_t (and_t (and_t (and_t (and_t (and_t (and_t (and_t (and_t (and_t (and_t (and_t (and_t (and_t (and_t (and_t (and_t (and_t (and_t (and_t (and_t resultOf_k0 resultOf_k1) resultOf_k2) resultOf_k3) resultOf_k4) resultOf_k5) resultOf_k6) resultOf_k7) resultOf_k8) resultOf_k9) resultOf_k10) resultOf_k11) resultOf_k12) resultOf_k13) resultOf_k14) resultOf_k15) resultOf_k16) resultOf_k17) resultOf_k18) resultOf_k19) resultOf_k20) resultOf_k21) resultOf_k22) resultOf_k23) resultOf_k24) resultOf_k25) resultOf_k26) resultOf_k27) (by kernel_rfl)) resultOf_k29) resultOf_k30) resultOf_k31)
set_option maxRecDepth 100000 in
theorem resultOf_inst : Tryz.f3.isInstance Tryz.prog (Rows.fnExactResultOfRow).origin (Rows.fnExactResultOfRow).targs := of_decide_eq_true (by kernel_rfl)

theorem resultOf_holds : Rows.FnExactResultOfSaid :=
  OpenClaim.holds_of_wide 3 Tryz.f3 rfl rfl rfl rfl rfl rfl rfl ⟨rfl, rfl, rfl, rfl, rfl⟩ rfl rfl rfl rfl rfl (by kernel_rfl) Tryz.func3 resultOf_joined
    resultOf_inst (by unfold Func.isWrapper; rw [if_neg (of_decide_eq_false (by kernel_rfl))]; exact ⟨rfl, rfl⟩)
    (fun os started H enc _ => resultOf_lifted os started H enc)
end Go.Proofs.YtmikmbmdibabmaaGreat
