/-
  SetOrder of the program and of the reference return the same, for every argument.
-/
import Derived.Test.YtmikmbmdibabmaaGreatArg
import Derived.Test.YtmikmbmdibabmaaGreatL6Eq
namespace Go.Proofs.YtmikmbmdibabmaaGreat
open Go.RowKit
open Go.ChangeShapes Go.WideShapes Go.ChangeAt
set_option maxRecDepth 100000 in
theorem setOrder_lifted (os : Os) (started : os.Started) (H : Type) (enc : TypeId × Value → H) :
    ReturnsInHanded {} Tryz.checked os 6 .any (Rows.fnExactSetOrderSpec.pre6 enc Tryz.prog Tryz.f6 Rows.fnExactSetOrderRow.domain false) (Rows.fnExactSetOrderSpec.post enc Tryz.prog Tryz.f6 false true false false) := by
  refine returnsInHanded_of_change (C := Tryz.checked) own_z started (by kernel_rfl) Tryz.func6
    (ChangeSpec.witness6 (enc := enc) (C := Tryz.checked) false ⟨#[], #[.agg #[.slice none 0 0, .int .i64 0, .int .i64 0, .slice none 0 0, .slice none 0 0, .slice none 0 0, .slice none 0 0, .int .i64 0], .slice none 0 0], []⟩ 8 (by kernel_rfl) (by kernel_rfl) (by kernel_rfl) (by kernel_rfl)) ?_
  intro W base args ds gs before hval0 hW hcnd _
  have hval : ∀ (j : Nat) t v, Tryz.f6.params[j]? = some t → args[j]? = some v → Value.okWide Tryz.prog W .any base t v := hval0
  have hW' := hW
  obtain ⟨p, q, hA0, hV, rfl, hfz, hnd⟩ := hW
  have hA : DataW.TrodAll enc Tryz.prog W 0 (fun _ => true) true Tryz.f6.params.toList args.toList ds p := hA0
  rw [Tryz.params6] at hA hval
  obtain ⟨v0, v1, d0, d1, p0, p1, rfl, rfl, rfl, h0, h1⟩ := trodAll_two hA
  obtain ⟨c0, x0, rfl, r0⟩ := arg_struct tyLEngine_Rds Tryz.underlying30 (hval 0 30 v0 rfl rfl) h0
  obtain ⟨x1, r1⟩ := arg_slice (Rds_slice Tryz.underlying25 (by kernel_rfl) (by decide) (Rds_int Tryz.underlying3)) Tryz.underlying25 (hval 1 25 v1 rfl rfl) h1
  obtain ⟨rfl, rfl⟩ := trodVars_none hV
  refine (laws_FnExactSetOrder_c W c0 x0 v1 x1 r0 r1).mono fun e W' ⟨he, hw⟩ => ?_
  rw [law_SetOrder x0 x1 (tyLEngine_sm r0) r1.1] at he
  subst he
  exact ⟨_, rfl, law_post laidOut_z (by kernel_rfl) rfl rfl Tryz.underlying4 hW' rfl hw⟩
set_option maxRecDepth 100000 in
theorem setOrder_k0 : ((Rows.fnExactSetOrderRow).wf (OpenSpec.ofChange (Rows.fnExactSetOrderSpec)) : Bool) = true := by kernel_rfl
set_option maxRecDepth 100000 in
theorem setOrder_k1 : (laidOutB Tryz.prog : Bool) = true := by kernel_rfl
set_option maxRecDepth 100000 in
theorem setOrder_k2 : (mapsRowed Tryz.prog : Bool) = true := by kernel_rfl
set_option maxRecDepth 100000 in
theorem setOrder_k3 : (Tryz.f6.params.all (Tryz.prog.readableRec ·) : Bool) = true := by kernel_rfl
set_option maxRecDepth 100000 in
theorem setOrder_k4 : (namedTie Tryz.prog (Rows.fnExactSetOrderRow).named (Rows.fnExactSetOrderSpec).vars : Bool) = true := by kernel_rfl
set_option maxRecDepth 100000 in
theorem setOrder_k5 : ((Rows.fnExactSetOrderRow).stops == [] : Bool) = true := by kernel_rfl
set_option maxRecDepth 100000 in
theorem setOrder_k6 : (Tryz.prog.stops == [] : Bool) = true := by kernel_rfl
set_option maxRecDepth 100000 in
theorem setOrder_k7 : ((Rows.fnExactSetOrderRow).knobs == [] : Bool) = true := by kernel_rfl
set_option maxRecDepth 100000 in
theorem setOrder_k8 : (Tryz.prog.stopKnobs == [] : Bool) = true := by kernel_rfl
set_option maxRecDepth 100000 in
theorem setOrder_k9 : ((Rows.fnExactSetOrderRow).inPlace == Tryz.prog.inPlace 6 : Bool) = true := by kernel_rfl
set_option maxRecDepth 100000 in
theorem setOrder_k10 : ((Rows.fnExactSetOrderRow).unfollowed == Tryz.prog.unfollowed 6 : Bool) = true := by kernel_rfl
set_option maxRecDepth 100000 in
theorem setOrder_k11 : ((Rows.fnExactSetOrderRow).recurses == Tryz.prog.recurses 6 : Bool) = true := by kernel_rfl
set_option maxRecDepth 100000 in
theorem setOrder_k12 : ((Rows.fnExactSetOrderRow).named == Tryz.prog.varsNamed 6 : Bool) = true := by kernel_rfl
set_option maxRecDepth 100000 in
theorem setOrder_k13 : ((Rows.fnExactSetOrderRow).maps == (Tryz.f6.params.toList ++ (Rows.fnExactSetOrderSpec).plain.varTypes Tryz.prog).any (Tryz.prog.mapsRec ·) : Bool) = true := by kernel_rfl
set_option maxRecDepth 100000 in
theorem setOrder_k14 : ((Rows.fnExactSetOrderRow).ifaces == (Tryz.f6.params.toList ++ (Rows.fnExactSetOrderSpec).plain.varTypes Tryz.prog).any (Tryz.prog.ifacesRec ·) : Bool) = true := by kernel_rfl
set_option maxRecDepth 100000 in
theorem setOrder_k15 : ((Rows.fnExactSetOrderRow).mapsOut == Tryz.prog.mapsAmong Tryz.f6.resultTypes.toList : Bool) = true := by kernel_rfl
set_option maxRecDepth 100000 in
theorem setOrder_k16 : ((Rows.fnExactSetOrderRow).loops == (Tryz.f6.params.toList ++ (Rows.fnExactSetOrderSpec).plain.varTypes Tryz.prog).any (Tryz.prog.loopsFrom ·) : Bool) = true := by kernel_rfl
set_option maxRecDepth 100000 in
theorem setOrder_k17 : ((Rows.fnExactSetOrderRow).wideKeys == ((Tryz.f6.params.toList ++ (Rows.fnExactSetOrderSpec).plain.varTypes Tryz.prog) ++ Tryz.f6.resultTypes.toList).any (Tryz.prog.wideKeysFrom ·) : Bool) = true := by kernel_rfl
set_option maxRecDepth 100000 in
theorem setOrder_k18 : ((Rows.fnExactSetOrderSpec).vars.all (Tryz.prog.varReadable ·) : Bool) = true := by kernel_rfl
set_option maxRecDepth 100000 in
theorem setOrder_k19 : (Tryz.f6.resultTypes.all (fun t => Tryz.prog.readableRec t && decide (t < Tryz.prog.types.size)) : Bool) = true := by kernel_rfl
set_option maxRecDepth 100000 in
theorem setOrder_k20 : ((Rows.fnExactSetOrderRow).ifacesOut == Tryz.f6.resultTypes.toList.any (Tryz.prog.ifacesRec ·) : Bool) = true := by kernel_rfl
set_option maxRecDepth 100000 in
theorem setOrder_k21 : ((Rows.fnExactSetOrderRow).loopsOut == Tryz.f6.resultTypes.toList.any (Tryz.prog.loopsFrom ·) : Bool) = true := by kernel_rfl
set_option maxRecDepth 100000 in
theorem setOrder_k22 : ((Rows.fnExactSetOrderRow).plainKeys == Tryz.prog.plainKeys : Bool) = true := by kernel_rfl
set_option maxRecDepth 100000 in
theorem setOrder_k23 : ((Rows.fnExactSetOrderRow).shortTexts.isNone : Bool) = true := by kernel_rfl
set_option maxRecDepth 100000 in
theorem setOrder_k24 : (Tryz.prog.stopsHeard : Bool) = true := by kernel_rfl
set_option maxRecDepth 100000 in
theorem setOrder_k25 : (Tryz.prog.mayEnter : Bool) = true := by kernel_rfl
set_option maxRecDepth 100000 in
theorem setOrder_k26 : ((Rows.fnExactSetOrderRow).lifted == Tryz.prog.liftsFinal : Bool) = true := by kernel_rfl
set_option maxRecDepth 100000 in
theorem setOrder_k27 : (Tryz.prog.make == some (Rows.fnExactSetOrderRow).make : Bool) = true := by kernel_rfl
set_option maxRecDepth 100000 in
theorem setOrder_k29 : ((Rows.fnExactSetOrderRow).pinned == (Rows.fnExactSetOrderRow).pinnedBy : Bool) = true := by kernel_rfl
set_option maxRecDepth 100000 in
theorem setOrder_k30 : ((Rows.fnExactSetOrderRow).veiled == ((Tryz.f6.params.toList ++ (Rows.fnExactSetOrderSpec).plain.varTypes Tryz.prog) ++ Tryz.f6.resultTypes.toList).any (Tryz.prog.veiledRec ·) : Bool) = true := by kernel_rfl
set_option maxRecDepth 100000 in
theorem setOrder_k31 : ((Rows.fnExactSetOrderRow).veiledFits Tryz.prog Tryz.f6.params.toList ((Tryz.f6.params.toList ++ (Rows.fnExactSetOrderSpec).plain.varTypes Tryz.prog) ++ Tryz.f6.resultTypes.toList) : Bool) = true := by kernel_rfl
theorem and_t {a b : Bool} (h : a = true) (k : b = true) : (a && b) = true := by rw [h, k]; rfl
set_option maxRecDepth 100000 in
theorem setOrder_joined : joinedFacts Tryz.prog 6 Tryz.f6 (Rows.fnExactSetOrderSpec) (Rows.fnExactSetOrderRow) = true := by
  unfold joinedFacts
  exact (and_t (and_t (and_t (and_t (and_t (and_t (and_t (and_t (and_t (and_t (and_t (and_t (and_t (and_t (and_t (and_t (and_t (and_t (and_t (and_t (and_t (and_t (and_t (and_t (and_t (and_t (and_t (and_t (and_t (and_t (and_t setOrder_k0 setOrder_k1) setOrder_k2) setOrder_k3) setOrder_k4) setOrder_k5) setOrder_k6) setOrder_k7) setOrder_k8) setOrder_k9) setOrder_k10) setOrder_k11) setOrder_k12) setOrder_k13) setOrder_k14) setOrder_k15) setOrder_k16) setOrder_k17) setOrder_k18) setOrder_k19) setOrder_k20) setOrder_k21) setOrder_k22) setOrder_k23) setOrder_k24) setOrder_k25) setOrder_k26) setOrder_k27) (by kernel_rfl)) setOrder_k29) setOrder_k30) setOrder_k31)
set_option maxRecDepth 100000 in
theorem setOrder_inst : Tryz.f6.isInstance Tryz.prog (Rows.fnExactSetOrderRow).origin (Rows.fnExactSetOrderRow).targs := of_decide_eq_true (by kernel_rfl)

theorem setOrder_holds : Rows.FnExactSetOrderSaid :=
  OpenClaim.holds_of_wide 6 Tryz.f6 rfl rfl rfl rfl rfl rfl rfl ⟨rfl, rfl, rfl, rfl, rfl⟩ rfl rfl rfl rfl rfl (by kernel_rfl) Tryz.func6 setOrder_joined
    setOrder_inst (by unfold Func.isWrapper; rw [if_neg (of_decide_eq_false (by kernel_rfl))]; exact ⟨rfl, rfl⟩)
    (fun os started H enc _ => setOrder_lifted os started H enc)
end Go.Proofs.YtmikmbmdibabmaaGreat
