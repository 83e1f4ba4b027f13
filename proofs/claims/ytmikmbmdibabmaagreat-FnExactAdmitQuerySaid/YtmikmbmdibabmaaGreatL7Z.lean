/-
  AdmitQuery of the program and of the reference return the same, for every argument.
-/
import Derived.Test.YtmikmbmdibabmaaGreatArg
import Derived.Test.YtmikmbmdibabmaaGreatL7Eq
namespace Go.Proofs.YtmikmbmdibabmaaGreat
open Go.RowKit
open Go.ChangeShapes Go.WideShapes Go.ChangeAt
set_option maxRecDepth 100000 in
theorem admitQuery_lifted (os : Os) (started : os.Started) (H : Type) (enc : TypeId × Value → H) :
    ReturnsInHanded {} Tryz.checked os 7 .any (Rows.fnExactAdmitQuerySpec.pre6 enc Tryz.prog Tryz.f7 Rows.fnExactAdmitQueryRow.domain false) (Rows.fnExactAdmitQuerySpec.post enc Tryz.prog Tryz.f7 false true false false) := by
  refine returnsInHanded_of_change (C := Tryz.checked) own_z started (by kernel_rfl) Tryz.func7
    (ChangeSpec.witness6 (enc := enc) (C := Tryz.checked) false ⟨#[], #[.agg #[.slice none 0 0, .int .i64 0, .int .i64 0, .slice none 0 0, .slice none 0 0, .slice none 0 0, .slice none 0 0, .int .i64 0], .agg #[.int .i64 0, .int .i64 0, .slice none 0 0, .slice none 0 0], .int .i64 0], []⟩ 8 (by kernel_rfl) (by kernel_rfl) (by kernel_rfl) (by kernel_rfl)) ?_
  intro W base args ds gs before hval0 hW hcnd _
  have hval : ∀ (j : Nat) t v, Tryz.f7.params[j]? = some t → args[j]? = some v → Value.okWide Tryz.prog W .any base t v := hval0
  have hW' := hW
  obtain ⟨p, q, hA0, hV, rfl, hfz, hnd⟩ := hW
  have hA : DataW.TrodAll enc Tryz.prog W 0 (fun _ => true) true Tryz.f7.params.toList args.toList ds p := hA0
  rw [Tryz.params7] at hA hval
  obtain ⟨v0, v1, v2, d0, d1, d2, p0, p1, p2, rfl, rfl, rfl, h0, h1, h2⟩ := trodAll_three hA
  obtain ⟨c0, x0, rfl, r0⟩ := arg_struct tyLEngine_Rds Tryz.underlying30 (hval 0 30 v0 rfl rfl) h0
  obtain ⟨c1, x1, rfl, r1⟩ := arg_struct tyLQuery_Rds Tryz.underlying87 (hval 1 87 v1 rfl rfl) h1
  obtain ⟨x2, rfl, rfl, rfl, _⟩ := open_int Tryz.underlying3 (hval 2 3 v2 rfl rfl) h2
  obtain ⟨rfl, rfl⟩ := trodVars_none hV
  refine (laws_FnExactAdmitQuery_c W c0 x0 c1 x1 x2 r0 r1).mono fun e W' ⟨he, hw⟩ => ?_
  rw [law_AdmitQuery x0 x1 x2 (tyLEngine_sm r0) (tyLQuery_sm r1)] at he
  subst he
  exact ⟨_, rfl, law_post laidOut_z (by kernel_rfl) rfl rfl Tryz.underlying4 hW' rfl hw⟩
set_option maxRecDepth 100000 in
theorem admitQuery_k0 : ((Rows.fnExactAdmitQueryRow).wf (OpenSpec.ofChange (Rows.fnExactAdmitQuerySpec)) : Bool) = true := by kernel_rfl
set_option maxRecDepth 100000 in
theorem admitQuery_k1 : (laidOutB Tryz.prog : Bool) = true := by kernel_rfl
set_option maxRecDepth 100000 in
theorem admitQuery_k2 : (mapsRowed Tryz.prog : Bool) = true := by kernel_rfl
set_option maxRecDepth 100000 in
theorem admitQuery_k3 : (Tryz.f7.params.all (Tryz.prog.readableRec ·) : Bool) = true := by kernel_rfl
set_option maxRecDepth 100000 in
theorem admitQuery_k4 : (namedTie Tryz.prog (Rows.fnExactAdmitQueryRow).named (Rows.fnExactAdmitQuerySpec).vars : Bool) = true := by kernel_rfl
set_option maxRecDepth 100000 in
theorem admitQuery_k5 : ((Rows.fnExactAdmitQueryRow).stops == [] : Bool) = true := by kernel_rfl
set_option maxRecDepth 100000 in
theorem admitQuery_k6 : (Tryz.prog.stops == [] : Bool) = true := by kernel_rfl
set_option maxRecDepth 100000 in
theorem admitQuery_k7 : ((Rows.fnExactAdmitQueryRow).knobs == [] : Bool) = true := by kernel_rfl
set_option maxRecDepth 100000 in
theorem admitQuery_k8 : (Tryz.prog.stopKnobs == [] : Bool) = true := by kernel_rfl
set_option maxRecDepth 100000 in
theorem admitQuery_k9 : ((Rows.fnExactAdmitQueryRow).inPlace == Tryz.prog.inPlace 7 : Bool) = true := by kernel_rfl
set_option maxRecDepth 100000 in
theorem admitQuery_k10 : ((Rows.fnExactAdmitQueryRow).unfollowed == Tryz.prog.unfollowed 7 : Bool) = true := by kernel_rfl
set_option maxRecDepth 100000 in
theorem admitQuery_k11 : ((Rows.fnExactAdmitQueryRow).recurses == Tryz.prog.recurses 7 : Bool) = true := by kernel_rfl
set_option maxRecDepth 100000 in
theorem admitQuery_k12 : ((Rows.fnExactAdmitQueryRow).named == Tryz.prog.varsNamed 7 : Bool) = true := by kernel_rfl
set_option maxRecDepth 100000 in
theorem admitQuery_k13 : ((Rows.fnExactAdmitQueryRow).maps == (Tryz.f7.params.toList ++ (Rows.fnExactAdmitQuerySpec).plain.varTypes Tryz.prog).any (Tryz.prog.mapsRec ·) : Bool) = true := by kernel_rfl
set_option maxRecDepth 100000 in
theorem admitQuery_k14 : ((Rows.fnExactAdmitQueryRow).ifaces == (Tryz.f7.params.toList ++ (Rows.fnExactAdmitQuerySpec).plain.varTypes Tryz.prog).any (Tryz.prog.ifacesRec ·) : Bool) = true := by kernel_rfl
set_option maxRecDepth 100000 in
theorem admitQuery_k15 : ((Rows.fnExactAdmitQueryRow).mapsOut == Tryz.prog.mapsAmong Tryz.f7.resultTypes.toList : Bool) = true := by kernel_rfl
set_option maxRecDepth 100000 in
theorem admitQuery_k16 : ((Rows.fnExactAdmitQueryRow).loops == (Tryz.f7.params.toList ++ (Rows.fnExactAdmitQuerySpec).plain.varTypes Tryz.prog).any (Tryz.prog.loopsFrom ·) : Bool) = true := by kernel_rfl
set_option maxRecDepth 100000 in
theorem admitQuery_k17 : ((Rows.fnExactAdmitQueryRow).wideKeys == ((Tryz.f7.params.toList ++ (Rows.fnExactAdmitQuerySpec).plain.varTypes Tryz.prog) ++ Tryz.f7.resultTypes.toList).any (Tryz.prog.wideKeysFrom ·) : Bool) = true := by kernel_rfl
set_option maxRecDepth 100000 in
theorem admitQuery_k18 : ((Rows.fnExactAdmitQuerySpec).vars.all (Tryz.prog.varReadable ·) : Bool) = true := by kernel_rfl
set_option maxRecDepth 100000 in
theorem admitQuery_k19 : (Tryz.f7.resultTypes.all (fun t => Tryz.prog.readableRec t && decide (t < Tryz.prog.types.size)) : Bool) = true := by kernel_rfl
set_option maxRecDepth 100000 in
theorem admitQuery_k20 : ((Rows.fnExactAdmitQueryRow).ifacesOut == Tryz.f7.resultTypes.toList.any (Tryz.prog.ifacesRec ·) : Bool) = true := by kernel_rfl
set_option maxRecDepth 100000 in
theorem admitQuery_k21 : ((Rows.fnExactAdmitQueryRow).loopsOut == Tryz.f7.resultTypes.toList.any (Tryz.prog.loopsFrom ·) : Bool) = true := by kernel_rfl
set_option maxRecDepth 100000 in
theorem admitQuery_k22 : ((Rows.fnExactAdmitQueryRow).plainKeys == Tryz.prog.plainKeys : Bool) = true := by kernel_rfl
set_option maxRecDepth 100000 in
theorem admitQuery_k23 : ((Rows.fnExactAdmitQueryRow).shortTexts.isNone : Bool) = true := by kernel_rfl
set_option maxRecDepth 100000 in
theorem admitQuery_k24 : (Tryz.prog.stopsHeard : Bool) = true := by kernel_rfl
set_option maxRecDepth 100000 in
theorem admitQuery_k25 : (Tryz.prog.mayEnter : Bool) = true := by kernel_rfl
set_option maxRecDepth 100000 in
theorem admitQuery_k26 : ((Rows.fnExactAdmitQueryRow).lifted == Tryz.prog.liftsFinal : Bool) = true := by kernel_rfl
set_option maxRecDepth 100000 in
theorem admitQuery_k27 : (Tryz.prog.make == some (Rows.fnExactAdmitQueryRow).make : Bool) = true := by kernel_rfl
set_option maxRecDepth 100000 in
theorem admitQuery_k29 : ((Rows.fnExactAdmitQueryRow).pinned == (Rows.fnExactAdmitQueryRow).pinnedBy : Bool) = true := by kernel_rfl
set_option maxRecDepth 100000 in
theorem admitQuery_k30 : ((Rows.fnExactAdmitQueryRow).veiled == ((Tryz.f7.params.toList ++ (Rows.fnExactAdmitQuerySpec).plain.varTypes Tryz.prog) ++ Tryz.f7.resultTypes.toList).any (Tryz.prog.veiledRec ·) : Bool) = true := by kernel_rfl
set_option maxRecDepth 100000 in
theorem admitQuery_k31 : ((Rows.fnExactAdmitQueryRow).veiledFits Tryz.prog Tryz.f7.params.toList ((Tryz.f7.params.toList ++ (Rows.fnExactAdmitQuerySpec).plain.varTypes Tryz.prog) ++ Tryz.f7.resultTypes.toList) : Bool) = true := by kernel_rfl
theorem and_t {a b : Bool} (h : a = true) (k : b = true) : (a && b) = true := by rw [h, k]; rfl
set_option maxRecDepth 100000 in
theorem admitQuery_joined : joinedFacts Tryz.prog 7 Tryz.f7 (Rows.fnExactAdmitQuerySpec) (Rows.fnExactAdmitQueryRow) = true := by
  unfold joinedFacts
  exact (and_t (and_t (and_t (and_t (and_t (and_t (and_t (and_t (and_t (and_t (and_t (and_t (and_t (and_t (and_t (and_t (and_t (and_t (and_t (and_t (and_t (and_t (and_t (and_t (and_t (and_t (and_t (and_t (and_t (and_t (and_t admitQuery_k0 admitQuery_k1) admitQuery_k2) admitQuery_k3) admitQuery_k4) admitQuery_k5) admitQuery_k6) admitQuery_k7) admitQuery_k8) admitQuery_k9) admitQuery_k10) admitQuery_k11) admitQuery_k12) admitQuery_k13) admitQuery_k14) admitQuery_k15) admitQuery_k16) admitQuery_k17) admitQuery_k18) admitQuery_k19) admitQuery_k20) admitQuery_k21) admitQuery_k22) admitQuery_k23) admitQuery_k24) admitQuery_k25) admitQuery_k26) admitQuery_k27) (by kernel_rfl)) admitQuery_k29) admitQuery_k30) admitQuery_k31)
set_option maxRecDepth 100000 in
theorem admitQuery_inst : Tryz.f7.isInstance Tryz.prog (Rows.fnExactAdmitQueryRow).origin (Rows.fnExactAdmitQueryRow).targs := of_decide_eq_true (by kernel_rfl)

theorem admitQuery_holds : Rows.FnExactAdmitQuerySaid :=
  OpenClaim.holds_of_wide 7 Tryz.f7 rfl rfl rfl rfl rfl rfl rfl ⟨rfl, rfl, rfl, rfl, rfl⟩ rfl rfl rfl rfl rfl (by kernel_rfl) Tryz.func7 admitQuery_joined
    admitQuery_inst (by unfold Func.isWrapper; rw [if_neg (of_decide_eq_false (by kernel_rfl))]; exact ⟨rfl, rfl⟩)
    (fun os started H enc _ => admitQuery_lifted os started H enc)
end Go.Proofs.YtmikmbmdibabmaaGreat
