/-
  CancelQuery of the program and of the reference return the same, for every argument.
-/
import Derived.Test.YtmikmbmdibabmaaGreatArg
import Derived.Test.YtmikmbmdibabmaaGreatL8Eq
namespace Go.Proofs.YtmikmbmdibabmaaGreat
open Go.RowKit
open Go.ChangeShapes Go.WideShapes Go.ChangeAt
set_option maxRecDepth 100000 in
theorem cancelQuery_lifted (os : Os) (started : os.Started) (H : Type) (enc : TypeId × Value → H) :
    ReturnsInHanded {} Tryz.checked os 8 .any (Rows.fnExactCancelQuerySpec.pre6 enc Tryz.prog Tryz.f8 Rows.fnExactCancelQueryRow.domain false) (Rows.fnExactCancelQuerySpec.post enc Tryz.prog Tryz.f8 false true false false) := by
  refine returnsInHanded_of_change (C := Tryz.checked) own_z started (by kernel_rfl) Tryz.func8
    (ChangeSpec.witness6 (enc := enc) (C := Tryz.checked) false ⟨#[], #[.agg #[.slice none 0 0, .int .i64 0, .int .i64 0, .slice none 0 0, .slice none 0 0, .slice none 0 0, .slice none 0 0, .int .i64 0], .int .i64 0], []⟩ 8 (by kernel_rfl) (by kernel_rfl) (by kernel_rfl) (by kernel_rfl)) ?_
  intro W base args ds gs before hval0 hW hcnd _
  have hval : ∀ (j : Nat) t v, Tryz.f8.params[j]? = some t → args[j]? = some v → Value.okWide Tryz.prog W .any base t v := hval0
  have hW' := hW
  obtain ⟨p, q, hA0, hV, rfl, hfz, hnd⟩ := hW
  have hA : DataW.TrodAll enc Tryz.prog W 0 (fun _ => true) true Tryz.f8.params.toList args.toList ds p := hA0
  rw [Tryz.params8] at hA hval
  obtain ⟨v0, v1, d0, d1, p0, p1, rfl, rfl, rfl, h0, h1⟩ := trodAll_two hA
  obtain ⟨c0, x0, rfl, r0⟩ := arg_struct tyLEngine_Rds Tryz.underlying30 (hval 0 30 v0 rfl rfl) h0
  obtain ⟨x1, rfl, rfl, rfl, _⟩ := open_int Tryz.underlying3 (hval 1 3 v1 rfl rfl) h1
  obtain ⟨rfl, rfl⟩ := trodVars_none hV
  refine (laws_FnExactCancelQuery_c W c0 x0 x1 r0).mono fun e W' ⟨he, hw⟩ => ?_
  rw [law_CancelQuery x0 x1 (tyLEngine_sm r0)] at he
  subst he
  exact ⟨_, rfl, law_post laidOut_z (by kernel_rfl) rfl rfl Tryz.underlying4 hW' rfl hw⟩
set_option maxRecDepth 100000 in
theorem cancelQuery_k0 : ((Rows.fnExactCancelQueryRow).wf (OpenSpec.ofChange (Rows.fnExactCancelQuerySpec)) : Bool) = true := by kernel_rfl
set_option maxRecDepth 100000 in
theorem cancelQuery_k1 : (laidOutB Tryz.prog : Bool) = true := by kernel_rfl
set_option maxRecDepth 100000 in
theorem cancelQuery_k2 : (mapsRowed Tryz.prog : Bool) = true := by kernel_rfl
set_option maxRecDepth 100000 in
theorem cancelQuery_k3 : (Tryz.f8.params.all (Tryz.prog.readableRec ·) : Bool) = true := by kernel_rfl
set_option maxRecDepth 100000 in
theorem cancelQuery_k4 : (namedTie Tryz.prog (Rows.fnExactCancelQueryRow).named (Rows.fnExactCancelQuerySpec).vars : Bool) = true := by kernel_rfl
set_option maxRecDepth 100000 in
theorem cancelQuery_k5 : ((Rows.fnExactCancelQueryRow).stops == [] : Bool) = true := by kernel_rfl
set_option maxRecDepth 100000 in
theorem cancelQuery_k6 : (Tryz.prog.stops == [] : Bool) = true := by kernel_rfl
set_option maxRecDepth 100000 in
theorem cancelQuery_k7 : ((Rows.fnExactCancelQueryRow).knobs == [] : Bool) = true := by kernel_rfl
set_option maxRecDepth 100000 in
theorem cancelQuery_k8 : (Tryz.prog.stopKnobs == [] : Bool) = true := by kernel_rfl
set_option maxRecDepth 100000 in
theorem cancelQuery_k9 : ((Rows.fnExactCancelQueryRow).inPlace == Tryz.prog.inPlace 8 : Bool) = true := by kernel_rfl
set_option maxRecDepth 100000 in
theorem cancelQuery_k10 : ((Rows.fnExactCancelQueryRow).unfollowed == Tryz.prog.unfollowed 8 : Bool) = true := by kernel_rfl
set_option maxRecDepth 100000 in
theorem cancelQuery_k11 : ((Rows.fnExactCancelQueryRow).recurses == Tryz.prog.recurses 8 : Bool) = true := by kernel_rfl
set_option maxRecDepth 100000 in
theorem cancelQuery_k12 : ((Rows.fnExactCancelQueryRow).named == Tryz.prog.varsNamed 8 : Bool) = true := by kernel_rfl
set_option maxRecDepth 100000 in
theorem cancelQuery_k13 : ((Rows.fnExactCancelQueryRow).maps == (Tryz.f8.params.toList ++ (Rows.fnExactCancelQuerySpec).plain.varTypes Tryz.prog).any (Tryz.prog.mapsRec ·) : Bool) = true := by kernel_rfl
set_option maxRecDepth 100000 in
theorem cancelQuery_k14 : ((Rows.fnExactCancelQueryRow).ifaces == (Tryz.f8.params.toList ++ (Rows.fnExactCancelQuerySpec).plain.varTypes Tryz.prog).any (Tryz.prog.ifacesRec ·) : Bool) = true := by kernel_rfl
set_option maxRecDepth 100000 in
theorem cancelQuery_k15 : ((Rows.fnExactCancelQueryRow).mapsOut == Tryz.prog.mapsAmong Tryz.f8.resultTypes.toList : Bool) = true := by kernel_rfl
set_option maxRecDepth 100000 in
theorem cancelQuery_k16 : ((Rows.fnExactCancelQueryRow).loops == (Tryz.f8.params.toList ++ (Rows.fnExactCancelQuerySpec).plain.varTypes Tryz.prog).any (Tryz.prog.loopsFrom ·) : Bool) = true := by kernel_rfl
set_option maxRecDepth 100000 in
theorem cancelQuery_k17 : ((Rows.fnExactCancelQueryRow).wideKeys == ((Tryz.f8.params.toList ++ (Rows.fnExactCancelQuerySpec).plain.varTypes Tryz.prog) ++ Tryz.f8.resultTypes.toList).any (Tryz.prog.wideKeysFrom ·) : Bool) = true := by kernel_rfl
set_option maxRecDepth 100000 in
theorem cancelQuery_k18 : ((Rows.fnExactCancelQuerySpec).vars.all (Tryz.prog.varReadable ·) : Bool) = true := by kernel_rfl
set_option maxRecDepth 100000 in
theorem cancelQuery_k19 : (Tryz.f8.resultTypes.all (fun t => Tryz.prog.readableRec t && decide (t < Tryz.prog.types.size)) : Bool) = true := by kernel_rfl
set_option maxRecDepth 100000 in
theorem cancelQuery_k20 : ((Rows.fnExactCancelQueryRow).ifacesOut == Tryz.f8.resultTypes.toList.any (Tryz.prog.ifacesRec ·) : Bool) = true := by kernel_rfl
set_option maxRecDepth 100000 in
theorem cancelQuery_k21 : ((Rows.fnExactCancelQueryRow).loopsOut == Tryz.f8.resultTypes.toList.any (Tryz.prog.loopsFrom ·) : Bool) = true := by kernel_rfl
set_option maxRecDepth 100000 in
theorem cancelQuery_k22 : ((Rows.fnExactCancelQueryRow).plainKeys == Tryz.prog.plainKeys : Bool) = true := by kernel_rfl
set_option maxRecDepth 100000 in
theorem cancelQuery_k23 : ((Rows.fnExactCancelQueryRow).shortTexts.isNone : Bool) = true := by kernel_rfl
set_option maxRecDepth 100000 in
theorem cancelQuery_k24 : (Tryz.prog.stopsHeard : Bool) = true := by kernel_rfl
set_option maxRecDepth 100000 in
theorem cancelQuery_k25 : (Tryz.prog.mayEnter : Bool) = true := by kernel_rfl
set_option maxRecDepth 100000 in
theorem cancelQuery_k26 : ((Rows.fnExactCancelQueryRow).lifted == Tryz.prog.liftsFinal : Bool) = true := by kernel_rfl
set_option maxRecDepth 100000 in
theorem cancelQuery_k27 : (Tryz.prog.make == some (Rows.fnExactCancelQueryRow).make : Bool) = true := by kernel_rfl
set_option maxRecDepth 100000 in
theorem cancelQuery_k29 : ((Rows.fnExactCancelQueryRow).pinned == (Rows.fnExactCancelQueryRow).pinnedBy : Bool) = true := by kernel_rfl
set_option maxRecDepth 100000 in
theorem cancelQuery_k30 : ((Rows.fnExactCancelQueryRow).veiled == ((Tryz.f8.params.toList ++ (Rows.fnExactCancelQuerySpec).plain.varTypes Tryz.prog) ++ Tryz.f8.resultTypes.toList).any (Tryz.prog.veiledRec ·) : Bool) = true := by kernel_rfl
set_option maxRecDepth 100000 in
theorem cancelQuery_k31 : ((Rows.fnExactCancelQueryRow).veiledFits Tryz.prog Tryz.f8.params.toList ((Tryz.f8.params.toList ++ (Rows.fnExactCancelQuerySpec).plain.varTypes Tryz.prog) ++ Tryz.f8.resultTypes.toList) : Bool) = true := by kernel_rfl
theorem and_t {a b : Bool} (h : a = true) (k : b = true) : (a && b) = true := by rw [h, k]; rfl
set_option maxRecDepth 100000 in
theorem cancelQuery_joined : joinedFacts Tryz.prog 8 Tryz.f8 (Rows.fnExactCancelQuerySpec) (Rows.fnExactCancelQueryRow) = true := by
  unfold joinedFacts
  exact (and_t (and_t (and_t (and_t (and_t (and_t (and_t (and_t (and_t (and_t (and_t (and_t (and_t (and_t (and_t (and_t (and_t (and_t (and_t (and_t (and_t (and_t (and_t (and_t (and_t (and_t (and_t (and_t (and_t (and_t (and_t cancelQuery_k0 cancelQuery_k1) cancelQuery_k2) cancelQuery_k3) cancelQuery_k4) cancelQuery_k5) cancelQuery_k6) cancelQuery_k7) cancelQuery_k8) cancelQuery_k9) cancelQuery_k10) cancelQuery_k11) cancelQuery_k12) cancelQuery_k13) cancelQuery_k14) cancelQuery_k15) cancelQuery_k16) cancelQuery_k17) cancelQuery_k18) cancelQuery_k19) cancelQuery_k20) cancelQuery_k21) cancelQuery_k22) cancelQuery_k23) cancelQuery_k24) cancelQuery_k25) cancelQuery_k26) cancelQuery_k27) (by kernel_rfl)) cancelQuery_k29) cancelQuery_k30) cancelQuery_k31)
set_option maxRecDepth 100000 in
theorem cancelQuery_inst : Tryz.f8.isInstance Tryz.prog (Rows.fnExactCancelQueryRow).origin (Rows.fnExactCancelQueryRow).targs := of_decide_eq_true (by kernel_rfl)

theorem cancelQuery_holds : Rows.FnExactCancelQuerySaid :=
  OpenClaim.holds_of_wide 8 Tryz.f8 rfl rfl rfl rfl rfl rfl rfl ⟨rfl, rfl, rfl, rfl, rfl⟩ rfl rfl rfl rfl rfl (by kernel_rfl) Tryz.func8 cancelQuery_joined
    cancelQuery_inst (by unfold Func.isWrapper; rw [if_neg (of_decide_eq_false (by kernel_rfl))]; exact ⟨rfl, rfl⟩)
    (fun os started H enc _ => cancelQuery_lifted os started H enc)
end Go.Proofs.YtmikmbmdibabmaaGreat
