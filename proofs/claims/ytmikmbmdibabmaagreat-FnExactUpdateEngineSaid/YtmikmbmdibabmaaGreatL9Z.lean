/-
  UpdateEngine of the program and of the reference return the same, for every argument.
-/
import Derived.Test.YtmikmbmdibabmaaGreatArg
import Derived.Test.YtmikmbmdibabmaaGreatL9Eq
namespace Go.Proofs.YtmikmbmdibabmaaGreat
open Go.RowKit
open Go.ChangeShapes Go.WideShapes Go.ChangeAt
set_option maxRecDepth 100000 in
theorem Qavf (os : Os) (started : os.Started) (H : Type) (enc : TypeId × Value → H) :
    ReturnsInHanded {} Tryz.checked os 9 .any (Rows.fnExactUpdateEngineSpec.pre6 enc Tryz.prog Tryz.f9 Rows.fnExactUpdateEngineRow.domain false) (Rows.fnExactUpdateEngineSpec.post enc Tryz.prog Tryz.f9 false true false false) := by
  refine returnsInHanded_of_change (C := Tryz.checked) Qapv started (by kernel_rfl) Tryz.func9
    (ChangeSpec.witness6 (enc := enc) (C := Tryz.checked) false ⟨#[], #[.agg #[.slice none 0 0, .int .i64 0, .int .i64 0, .slice none 0 0, .slice none 0 0, .slice none 0 0, .slice none 0 0, .int .i64 0], .agg #[.int .i64 0, .int .i64 0, .slice none 0 0, .int .i64 0, .int .i64 0]], []⟩ 8 (by kernel_rfl) (by kernel_rfl) (by kernel_rfl) (by kernel_rfl)) ?_
  intro W base args ds gs before hval0 hW hcnd _
  have hval : ∀ (j : Nat) t v, Tryz.f9.params[j]? = some t → args[j]? = some v → Value.okWide Tryz.prog W .any base t v := hval0
  have hW' := hW
  obtain ⟨p, q, hA0, hV, rfl, hfz, hnd⟩ := hW
  have hA : DataW.TrodAll enc Tryz.prog W 0 (fun _ => true) true Tryz.f9.params.toList args.toList ds p := hA0
  rw [Tryz.params9] at hA hval
  obtain ⟨v0, v1, d0, d1, p0, p1, rfl, rfl, rfl, h0, h1⟩ := trodAll_two hA
  obtain ⟨c0, x0, rfl, r0⟩ := Qye Qatn Tryz.underlying30 (hval 0 30 v0 rfl rfl) h0
  obtain ⟨c1, x1, rfl, r1⟩ := Qye Qats Tryz.underlying95 (hval 1 95 v1 rfl rfl) h1
  obtain ⟨rfl, rfl⟩ := trodVars_none hV
  refine (Qalp W c0 x0 c1 x1 r0 r1).mono fun e W' ⟨he, hw⟩ => ?_
  rw [Qaln x0 x1 (Qadc r0) (Qadj r1)] at he
  subst he
  exact ⟨_, rfl, Qalo Qalm (by kernel_rfl) rfl rfl Tryz.underlying4 hW' rfl hw⟩
set_option maxRecDepth 100000 in
theorem Qaua : ((Rows.fnExactUpdateEngineRow).wf (OpenSpec.ofChange (Rows.fnExactUpdateEngineSpec)) : Bool) = true := by kernel_rfl
set_option maxRecDepth 100000 in
theorem Qaub : (laidOutB Tryz.prog : Bool) = true := by kernel_rfl
set_option maxRecDepth 100000 in
theorem Qaum : (mapsRowed Tryz.prog : Bool) = true := by kernel_rfl
set_option maxRecDepth 100000 in
theorem Qauw : (Tryz.f9.params.all (Tryz.prog.readableRec ·) : Bool) = true := by kernel_rfl
set_option maxRecDepth 100000 in
theorem Qauz : (namedTie Tryz.prog (Rows.fnExactUpdateEngineRow).named (Rows.fnExactUpdateEngineSpec).vars : Bool) = true := by kernel_rfl
set_option maxRecDepth 100000 in
theorem Qava : ((Rows.fnExactUpdateEngineRow).stops == [] : Bool) = true := by kernel_rfl
set_option maxRecDepth 100000 in
theorem Qavb : (Tryz.prog.stops == [] : Bool) = true := by kernel_rfl
set_option maxRecDepth 100000 in
theorem Qavc : ((Rows.fnExactUpdateEngineRow).knobs == [] : Bool) = true := by kernel_rfl
set_option maxRecDepth 100000 in
theorem Qavd : (Tryz.prog.stopKnobs == [] : Bool) = true := by kernel_rfl
set_option maxRecDepth 100000 in
theorem Qave : ((Rows.fnExactUpdateEngineRow).inPlace == Tryz.prog.inPlace 9 : Bool) = true := by kernel_rfl
set_option maxRecDepth 100000 in
theorem Qauc : ((Rows.fnExactUpdateEngineRow).unfollowed == Tryz.prog.unfollowed 9 : Bool) = true := by kernel_rfl
set_option maxRecDepth 100000 in
theorem Qaud : ((Rows.fnExactUpdateEngineRow).recurses == Tryz.prog.recurses 9 : Bool) = true := by kernel_rfl
set_option maxRecDepth 100000 in
theorem Qaue : ((Rows.fnExactUpdateEngineRow).named == Tryz.prog.varsNamed 9 : Bool) = true := by kernel_rfl
set_option maxRecDepth 100000 in
theorem Qauf : ((Rows.fnExactUpdateEngineRow).maps == (Tryz.f9.params.toList ++ (Rows.fnExactUpdateEngineSpec).plain.varTypes Tryz.prog).any (Tryz.prog.mapsRec ·) : Bool) = true := by kernel_rfl
set_option maxRecDepth 100000 in
theorem Qaug : ((Rows.fnExactUpdateEngineRow).ifaces == (Tryz.f9.params.toList ++ (Rows.fnExactUpdateEngineSpec).plain.varTypes Tryz.prog).any (Tryz.prog.ifacesRec ·) : Bool) = true := by kernel_rfl
set_option maxRecDepth 100000 in
theorem Qauh : ((Rows.fnExactUpdateEngineRow).mapsOut == Tryz.prog.mapsAmong Tryz.f9.resultTypes.toList : Bool) = true := by kernel_rfl
set_option maxRecDepth 100000 in
theorem Qaui : ((Rows.fnExactUpdateEngineRow).loops == (Tryz.f9.params.toList ++ (Rows.fnExactUpdateEngineSpec).plain.varTypes Tryz.prog).any (Tryz.prog.loopsFrom ·) : Bool) = true := by kernel_rfl
set_option maxRecDepth 100000 in
theorem Qauj : ((Rows.fnExactUpdateEngineRow).wideKeys == ((Tryz.f9.params.toList ++ (Rows.fnExactUpdateEngineSpec).plain.varTypes Tryz.prog) ++ Tryz.f9.resultTypes.toList).any (Tryz.prog.wideKeysFrom ·) : Bool) = true := by kernel_rfl
set_option maxRecDepth 100000 in
theorem Qauk : ((Rows.fnExactUpdateEngineSpec).vars.all (Tryz.prog.varReadable ·) : Bool) = true := by kernel_rfl
set_option maxRecDepth 100000 in
theorem Qaul : (Tryz.f9.resultTypes.all (fun t => Tryz.prog.readableRec t && decide (t < Tryz.prog.types.size)) : Bool) = true := by kernel_rfl
set_option maxRecDepth 100000 in
theorem Qaun : ((Rows.fnExactUpdateEngineRow).ifacesOut == Tryz.f9.resultTypes.toList.any (Tryz.prog.ifacesRec ·) : Bool) = true := by kernel_rfl
set_option maxRecDepth 100000 in
theorem Qauo : ((Rows.fnExactUpdateEngineRow).loopsOut == Tryz.f9.resultTypes.toList.any (Tryz.prog.loopsFrom ·) : Bool) = true := by kernel_rfl
set_option maxRecDepth 100000 in
theorem Qaup : ((Rows.fnExactUpdateEngineRow).plainKeys == Tryz.prog.plainKeys : Bool) = true := by kernel_rfl
set_option maxRecDepth 100000 in
theorem Qauq : ((Rows.fnExactUpdateEngineRow).shortTexts.isNone : Bool) = true := by kernel_rfl
set_option maxRecDepth 100000 in
theorem Qaur : (Tryz.prog.stopsHeard : Bool) = true := by kernel_rfl
set_option maxRecDepth 100000 in
theorem Qaus : (Tryz.prog.mayEnter : Bool) = true := by kernel_rfl
set_option maxRecDepth 100000 in
theorem Qaut : ((Rows.fnExactUpdateEngineRow).lifted == Tryz.prog.liftsFinal : Bool) = true := by kernel_rfl
set_option maxRecDepth 100000 in
theorem Qauu : (Tryz.prog.make == some (Rows.fnExactUpdateEngineRow).make : Bool) = true := by kernel_rfl
set_option maxRecDepth 100000 in
theorem Qauv : ((Rows.fnExactUpdateEngineRow).pinned == (Rows.fnExactUpdateEngineRow).pinnedBy : Bool) = true := by kernel_rfl
set_option maxRecDepth 100000 in
theorem Qaux : ((Rows.fnExactUpdateEngineRow).veiled == ((Tryz.f9.params.toList ++ (Rows.fnExactUpdateEngineSpec).plain.varTypes Tryz.prog) ++ Tryz.f9.resultTypes.toList).any (Tryz.prog.veiledRec ·) : Bool) = true := by kernel_rfl
set_option maxRecDepth 100000 in
theorem Qauy : ((Rows.fnExactUpdateEngineRow).veiledFits Tryz.prog Tryz.f9.params.toList ((Tryz.f9.params.toList ++ (Rows.fnExactUpdateEngineSpec).plain.varTypes Tryz.prog) ++ Tryz.f9.resultTypes.toList) : Bool) = true := by kernel_rfl
theorem Qeo {a b : Bool} (h : a = true) (k : b = true) : (a && b) = true := by rw [h, k]; rfl
set_option maxRecDepth 100000 in
theorem Qatz : joinedFacts Tryz.prog 9 Tryz.f9 (Rows.fnExactUpdateEngineSpec) (Rows.fnExactUpdateEngineRow) = true := by
  unfold joinedFacts
  exact (Qeo (Qeo (Qeo (Qeo (Qeo (Qeo (Qeo (Qeo (Qeo (Qeo (Qeo (Qeo (Qeo (Qeo (Qeo (Qeo (Qeo (Qeo (Qeo (Qeo (Qeo (Qeo (Qeo (Qeo (Qeo (Qeo (Qeo (Qeo (Qeo (Qeo (Qeo Qaua Qaub) Qaum) Qauw) Qauz) Qava) Qavb) Qavc) Qavd) Qave) Qauc) Qaud) Qaue) Qauf) Qaug) Qauh) Qaui) Qauj) Qauk) Qaul) Qaun) Qauo) Qaup) Qauq) Qaur) Qaus) Qaut) Qauu) (by kernel_rfl)) Qauv) Qaux) Qauy)
set_option maxRecDepth 100000 in
theorem Qaty : Tryz.f9.isInstance Tryz.prog (Rows.fnExactUpdateEngineRow).origin (Rows.fnExactUpdateEngineRow).targs := of_decide_eq_true (by kernel_rfl)

theorem updateEngine_holds : Rows.FnExactUpdateEngineSaid :=
  OpenClaim.holds_of_wide 9 Tryz.f9 rfl rfl rfl rfl rfl rfl rfl ⟨rfl, rfl, rfl, rfl, rfl⟩ rfl rfl rfl rfl rfl (by kernel_rfl) Tryz.func9 Qatz
    Qaty (by unfold Func.isWrapper; rw [if_neg (of_decide_eq_false (by kernel_rfl))]; exact ⟨rfl, rfl⟩)
    (fun os started H enc _ => Qavf os started H enc)
end Go.Proofs.YtmikmbmdibabmaaGreat
