/-
  CanAdmit of the program and of the reference return the same, for every argument.
-/
import Derived.Test.YtlnblljlkeokjaaGreatArg
import Derived.Test.YtlnblljlkeokjaaGreatL3Eq
namespace Go.Proofs.YtlnblljlkeokjaaGreat
open Go.RowKit
open Go.ChangeShapes Go.WideShapes Go.ChangeAt
set_option maxRecDepth 100000 in
theorem canAdmit_lifted (os : Os) (started : os.Started) (H : Type) (enc : TypeId × Value → H) :
    ReturnsInHanded {} Tryz.checked os 3 .any (Rows.fnExactCanAdmitSpec.pre6 enc Tryz.prog Tryz.f3 Rows.fnExactCanAdmitRow.domain false) (Rows.fnExactCanAdmitSpec.post enc Tryz.prog Tryz.f3 false true false false) := by
  refine returnsInHanded_of_change (C := Tryz.checked) own_z started (by kernel_rfl) Tryz.func3
    (ChangeSpec.witness6 (enc := enc) (C := Tryz.checked) false ⟨#[], #[.agg #[.slice none 0 0, .int .i64 0, .int .i64 0, .slice none 0 0, .slice none 0 0, .slice none 0 0, .slice none 0 0, .int .i64 0], .agg #[.int .i64 0, .int .i64 0, .slice none 0 0, .slice none 0 0], .int .i64 0, .int .i64 0], []⟩ 8 (by kernel_rfl) (by kernel_rfl) (by kernel_rfl) (by kernel_rfl)) ?_
  intro W base args ds gs before hval0 hW hcnd _
  have hval : ∀ (j : Nat) t v, Tryz.f3.params[j]? = some t → args[j]? = some v → Value.okWide Tryz.prog W .any base t v := hval0
  have hW' := hW
  obtain ⟨p, q, hA0, hV, rfl, hfz, hnd⟩ := hW
  have hA : DataW.TrodAll enc Tryz.prog W 0 (fun _ => true) true Tryz.f3.params.toList args.toList ds p := hA0
  rw [Tryz.params3] at hA hval
  obtain ⟨v0, v1, v2, v3, d0, d1, d2, d3, p0, p1, p2, p3, rfl, rfl, rfl, h0, h1, h2, h3⟩ := trodAll_four hA
  obtain ⟨c0, x0, rfl, r0⟩ := arg_struct tyLEngine_Rds Tryz.underlying30 (hval 0 30 v0 rfl rfl) h0
  obtain ⟨c1, x1, rfl, r1⟩ := arg_struct tyLQuery_Rds Tryz.underlying33 (hval 1 33 v1 rfl rfl) h1
  obtain ⟨x2, rfl, rfl, rfl, _⟩ := open_int Tryz.underlying3 (hval 2 3 v2 rfl rfl) h2
  obtain ⟨x3, rfl, rfl, rfl, _⟩ := open_int Tryz.underlying3 (hval 3 3 v3 rfl rfl) h3
  obtain ⟨rfl, rfl⟩ := trodVars_none hV
  refine (laws_FnExactCanAdmit_c W c0 x0 c1 x1 x2 x3 r0 r1).mono fun e W' ⟨he, hw⟩ => ?_
  rw [law_CanAdmit x0 x1 x2 x3] at he
  subst he
  exact ⟨_, rfl, law_post laidOut_z (by kernel_rfl) rfl rfl Tryz.underlying4 hW' rfl hw⟩
set_option maxRecDepth 100000 in
theorem canAdmit_k0 : ((Rows.fnExactCanAdmitRow).wf (OpenSpec.ofChange (Rows.fnExactCanAdmitSpec)) : Bool) = true := by kernel_rfl
set_option maxRecDepth 100000 in
theorem canAdmit_k1 : (laidOutB Tryz.prog : Bool) = true := by kernel_rfl
set_option maxRecDepth 100000 in
theorem canAdmit_k2 : (mapsRowed Tryz.prog : Bool) = true := by kernel_rfl
set_option maxRecDepth 100000 in
theorem canAdmit_k3 : (Tryz.f3.params.all (Tryz.prog.readableRec ·) : Bool) = true := by kernel_rfl
set_option maxRecDepth 100000 in
theorem canAdmit_k4 : (namedTie Tryz.prog (Rows.fnExactCanAdmitRow).named (Rows.fnExactCanAdmitSpec).vars : Bool) = true := by kernel_rfl
set_option maxRecDepth 100000 in
theorem canAdmit_k5 : ((Rows.fnExactCanAdmitRow).stops == [] : Bool) = true := by kernel_rfl
set_option maxRecDepth 100000 in
theorem canAdmit_k6 : (Tryz.prog.stops == [] : Bool) = true := by kernel_rfl
set_option maxRecDepth 100000 in
theorem canAdmit_k7 : ((Rows.fnExactCanAdmitRow).knobs == [] : Bool) = true := by kernel_rfl
set_option maxRecDepth 100000 in
theorem canAdmit_k8 : (Tryz.prog.stopKnobs == [] : Bool) = true := by kernel_rfl
set_option maxRecDepth 100000 in
theorem canAdmit_k9 : ((Rows.fnExactCanAdmitRow).inPlace == Tryz.prog.inPlace 3 : Bool) = true := by kernel_rfl
set_option maxRecDepth 100000 in
theorem canAdmit_k10 : ((Rows.fnExactCanAdmitRow).unfollowed == Tryz.prog.unfollowed 3 : Bool) = true := by kernel_rfl
set_option maxRecDepth 100000 in
theorem canAdmit_k11 : ((Rows.fnExactCanAdmitRow).recurses == Tryz.prog.recurses 3 : Bool) = true := by kernel_rfl
set_option maxRecDepth 100000 in
theorem canAdmit_k12 : ((Rows.fnExactCanAdmitRow).named == Tryz.prog.varsNamed 3 : Bool) = true := by kernel_rfl
set_option maxRecDepth 100000 in
theorem canAdmit_k13 : ((Rows.fnExactCanAdmitRow).maps == (Tryz.f3.params.toList ++ (Rows.fnExactCanAdmitSpec).plain.varTypes Tryz.prog).any (Tryz.prog.mapsRec ·) : Bool) = true := by kernel_rfl
set_option maxRecDepth 100000 in
theorem canAdmit_k14 : ((Rows.fnExactCanAdmitRow).ifaces == (Tryz.f3.params.toList ++ (Rows.fnExactCanAdmitSpec).plain.varTypes Tryz.prog).any (Tryz.prog.ifacesRec ·) : Bool) = true := by kernel_rfl
set_option maxRecDepth 100000 in
theorem canAdmit_k15 : ((Rows.fnExactCanAdmitRow).mapsOut == Tryz.prog.mapsAmong Tryz.f3.resultTypes.toList : Bool) = true := by kernel_rfl
set_option maxRecDepth 100000 in
theorem canAdmit_k16 : ((Rows.fnExactCanAdmitRow).loops == (Tryz.f3.params.toList ++ (Rows.fnExactCanAdmitSpec).plain.varTypes Tryz.prog).any (Tryz.prog.loopsFrom ·) : Bool) = true := by kernel_rfl
set_option maxRecDepth 100000 in
theorem canAdmit_k17 : ((Rows.fnExactCanAdmitRow).wideKeys == ((Tryz.f3.params.toList ++ (Rows.fnExactCanAdmitSpec).plain.varTypes Tryz.prog) ++ Tryz.f3.resultTypes.toList).any (Tryz.prog.wideKeysFrom ·) : Bool) = true := by kernel_rfl
set_option maxRecDepth 100000 in
theorem canAdmit_k18 : ((Rows.fnExactCanAdmitSpec).vars.all (Tryz.prog.varReadable ·) : Bool) = true := by kernel_rfl
set_option maxRecDepth 100000 in
theorem canAdmit_k19 : (Tryz.f3.resultTypes.all (fun t => Tryz.prog.readableRec t && decide (t < Tryz.prog.types.size)) : Bool) = true := by kernel_rfl
set_option maxRecDepth 100000 in
theorem canAdmit_k20 : ((Rows.fnExactCanAdmitRow).ifacesOut == Tryz.f3.resultTypes.toList.any (Tryz.prog.ifacesRec ·) : Bool) = true := by kernel_rfl
set_option maxRecDepth 100000 in
theorem canAdmit_k21 : ((Rows.fnExactCanAdmitRow).loopsOut == Tryz.f3.resultTypes.toList.any (Tryz.prog.loopsFrom ·) : Bool) = true := by kernel_rfl
set_option maxRecDepth 100000 in
theorem canAdmit_k22 : ((Rows.fnExactCanAdmitRow).plainKeys == Tryz.prog.plainKeys : Bool) = true := by kernel_rfl
set_option maxRecDepth 100000 in
theorem canAdmit_k23 : ((Rows.fnExactCanAdmitRow).shortTexts.isNone : Bool) = true := by kernel_rfl
set_option maxRecDepth 100000 in
theorem canAdmit_k24 : (Tryz.prog.stopsHeard : Bool) = true := by kernel_rfl
set_option maxRecDepth 100000 in
theorem canAdmit_k25 : (Tryz.prog.mayEnter : Bool) = true := by kernel_rfl
set_option maxRecDepth 100000 in
theorem canAdmit_k26 : ((Rows.fnExactCanAdmitRow).lifted == Tryz.prog.liftsFinal : Bool) = true := by kernel_rfl
set_option maxRecDepth 100000 in
theorem canAdmit_k27 : (Tryz.prog.make == some (Rows.fnExactCanAdmitRow).make : Bool) = true := by kernel_rfl
set_option maxRecDepth 100000 in
theorem canAdmit_k29 : ((Rows.fnExactCanAdmitRow).pinned == (Rows.fnExactCanAdmitRow).pinnedBy : Bool) = true := by kernel_rfl
set_option maxRecDepth 100000 in
theorem canAdmit_k30 : ((Rows.fnExactCanAdmitRow).veiled == ((Tryz.f3.params.toList ++ (Rows.fnExactCanAdmitSpec).plain.varTypes Tryz.prog) ++ Tryz.f3.resultTypes.toList).any (Tryz.prog.veiledRec ·) : Bool) = true := by kernel_rfl
set_option maxRecDepth 100000 in
theorem canAdmit_k31 : ((Rows.fnExactCanAdmitRow).veiledFits Tryz.prog Tryz.f3.params.toList ((Tryz.f3.params.toList ++ (Rows.fnExactCanAdmitSpec).plain.varTypes Tryz.prog) ++ Tryz.f3.resultTypes.toList) : Bool) = true := by kernel_rfl
theorem and_t {a b : Bool} (h : a = true) (k : b = true) : (a && b) = true := by rw [h, k]; rfl
set_option maxRecDepth 100000 in
theorem canAdmit_joined : joinedFacts Tryz.prog 3 Tryz.f3 (Rows.fnExactCanAdmitSpec) (Rows.fnExactCanAdmitRow) = true := by
  unfold joinedFacts
  exact (and_t (and_t (and_t (and_t (and_t (and_t (and_t (and_t (and_t (and_t (and_t (and_t (and_t (and_t (and_t (and_t (and_t (and_t (and_t (and_t (and_t (and_t (and_t (and_t (and_t (and_t (and_t (and_t (and_t (and_t (and_t canAdmit_k0 canAdmit_k1) canAdmit_k2) canAdmit_k3) canAdmit_k4) canAdmit_k5) canAdmit_k6) canAdmit_k7) canAdmit_k8) canAdmit_k9) canAdmit_k10) canAdmit_k11) canAdmit_k12) canAdmit_k13) canAdmit_k14) canAdmit_k15) canAdmit_k16) canAdmit_k17) canAdmit_k18) canAdmit_k19) canAdmit_k20) canAdmit_k21) canAdmit_k22) canAdmit_k23) canAdmit_k24) canAdmit_k25) canAdmit_k26) canAdmit_k27) (by kernel_rfl)) canAdmit_k29) canAdmit_k30) canAdmit_k31)
set_option maxRecDepth 100000 in
theorem canAdmit_inst : Tryz.f3.isInstance Tryz.prog (Rows.fnExactCanAdmitRow).origin (Rows.fnExactCanAdmitRow).targs := of_decide_eq_true (by kernel_rfl)

theorem canAdmit_holds : Rows.FnExactCanAdmitSaid :=
  OpenClaim.holds_of_wide 3 Tryz.f3 rfl rfl rfl rfl rfl rfl rfl ⟨rfl, rfl, rfl, rfl, rfl⟩ rfl rfl rfl rfl rfl (by kernel_rfl) Tryz.func3 canAdmit_joined
    canAdmit_inst (by unfold Func.isWrapper; rw [if_neg (of_decide_eq_false (by kernel_rfl))]; exact ⟨rfl, rfl⟩)
    (fun os started H enc _ => canAdmit_lifted os started H enc)
end Go.Proofs.YtlnblljlkeokjaaGreat
