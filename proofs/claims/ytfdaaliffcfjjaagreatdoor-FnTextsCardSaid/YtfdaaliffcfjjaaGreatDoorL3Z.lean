/-
  Texts of the program and of the reference return the same, for every argument.
-/
import Derived.Test.YtfdaaliffcfjjaaGreatDoorArg
import Derived.Test.YtfdaaliffcfjjaaGreatDoorL3Eq
namespace Go.Proofs.YtfdaaliffcfjjaaGreatDoor
open Go.RowKit
open Go.ChangeShapes Go.WideShapes Go.ChangeAt
set_option maxRecDepth 100000 in
theorem texts_lifted (os : Os) (started : os.Started) (H : Type) (enc : TypeId × Value → H) :
    ReturnsInHanded {} Tryz.checked os 3 .any (fun w args => (Rows.fnTextsSpec.pre enc Tryz.prog Tryz.f3 [] false w args ∧ laidMetH Tryz.prog laid3 w) ∧ sizedMet enc Tryz.prog Tryz.f3 (OpenSpec.ofChange Rows.fnTextsSpec) false w args) (Rows.fnTextsSpec.post enc Tryz.prog Tryz.f3 false true false false) := by
  refine ret_shaped (C := Tryz.checked) (X := fun w _ => laidMetH Tryz.prog laid3 w) (fun _ _ _ hh h => h.of_heap hh) own_z started (by kernel_rfl) Tryz.func3
    (ChangeSpec.witness_shaped (enc := enc) (C := Tryz.checked) (os := os) (X := fun w _ => laidMetH Tryz.prog laid3 w) false (World.laidAll Tryz.prog os laid3) #[.slice none 0 0] 8 (World.laidAll_os _ _ _) (door_shaped os _) (by kernel_rfl) (by kernel_rfl) (by kernel_rfl) (door_met os _)) ?_
  intro W base args ds gs before hval0 hW hL hS
  have hval : ∀ (j : Nat) t v, Tryz.f3.params[j]? = some t → args[j]? = some v → Value.okWide Tryz.prog W .any base t v := hval0
  have hW' := hW
  obtain ⟨p, q, hA0, hV, rfl, hfz, hnd⟩ := hW
  have hA : DataW.TrodAll enc Tryz.prog W 0 (fun _ => true) true Tryz.f3.params.toList args.toList ds p := hA0
  rw [Tryz.params3] at hA hval
  obtain ⟨v0, d0, rfl, rfl, h0⟩ := trodAll_one hA
  obtain ⟨x0, r0⟩ := arg_slice (Rds_slice Tryz.underlying22 (by kernel_rfl) (by decide) (Rds_u8 Tryz.underlying5)) Tryz.underlying22 (hval 0 22 v0 rfl rfl) h0
  obtain ⟨rfl, rfl⟩ := trodVars_none hV
  refine (laws_FnTexts_c W v0 x0 r0 (tabOK_of_laid hL hS)).mono fun e W' ⟨he, hw⟩ => ?_
  rw [law_Texts x0] at he
  subst he
  exact ⟨_, rfl, law_post laidOut_z (by kernel_rfl) rfl rfl Tryz.underlying4 hW' rfl hw⟩
set_option maxRecDepth 100000 in
theorem texts_k0 : ((Rows.fnTextsRow).wf (OpenSpec.ofChange (Rows.fnTextsSpec)) : Bool) = true := by kernel_rfl
set_option maxRecDepth 100000 in
theorem texts_k1 : (laidOutB Tryz.prog : Bool) = true := by kernel_rfl
set_option maxRecDepth 100000 in
theorem texts_k2 : (mapsRowed Tryz.prog : Bool) = true := by kernel_rfl
set_option maxRecDepth 100000 in
theorem texts_k3 : (Tryz.f3.params.all (Tryz.prog.readableRec ·) : Bool) = true := by kernel_rfl
set_option maxRecDepth 100000 in
theorem texts_k4 : (namedTie Tryz.prog (Rows.fnTextsRow).named (Rows.fnTextsSpec).vars : Bool) = true := by kernel_rfl
set_option maxRecDepth 100000 in
theorem texts_k5 : ((Rows.fnTextsRow).stops == [] : Bool) = true := by kernel_rfl
set_option maxRecDepth 100000 in
theorem texts_k6 : (Tryz.prog.stops == [] : Bool) = true := by kernel_rfl
set_option maxRecDepth 100000 in
theorem texts_k7 : ((Rows.fnTextsRow).knobs == [] : Bool) = true := by kernel_rfl
set_option maxRecDepth 100000 in
theorem texts_k8 : (Tryz.prog.stopKnobs == [] : Bool) = true := by kernel_rfl
set_option maxRecDepth 100000 in
theorem texts_k9 : ((Rows.fnTextsRow).inPlace == Tryz.prog.inPlace 3 : Bool) = true := by kernel_rfl
set_option maxRecDepth 100000 in
theorem texts_k10 : ((Rows.fnTextsRow).unfollowed == Tryz.prog.unfollowed 3 : Bool) = true := by kernel_rfl
set_option maxRecDepth 100000 in
theorem texts_k11 : ((Rows.fnTextsRow).recurses == Tryz.prog.recurses 3 : Bool) = true := by kernel_rfl
set_option maxRecDepth 100000 in
theorem texts_k12 : ((Rows.fnTextsRow).named == Tryz.prog.varsNamed 3 : Bool) = true := by kernel_rfl
set_option maxRecDepth 100000 in
theorem texts_k13 : ((Rows.fnTextsRow).maps == (Tryz.f3.params.toList ++ (Rows.fnTextsSpec).plain.varTypes Tryz.prog).any (Tryz.prog.mapsRec ·) : Bool) = true := by kernel_rfl
set_option maxRecDepth 100000 in
theorem texts_k14 : ((Rows.fnTextsRow).ifaces == (Tryz.f3.params.toList ++ (Rows.fnTextsSpec).plain.varTypes Tryz.prog).any (Tryz.prog.ifacesRec ·) : Bool) = true := by kernel_rfl
set_option maxRecDepth 100000 in
theorem texts_k15 : ((Rows.fnTextsRow).mapsOut == Tryz.prog.mapsAmong Tryz.f3.resultTypes.toList : Bool) = true := by kernel_rfl
set_option maxRecDepth 100000 in
theorem texts_k16 : ((Rows.fnTextsRow).loops == (Tryz.f3.params.toList ++ (Rows.fnTextsSpec).plain.varTypes Tryz.prog).any (Tryz.prog.loopsFrom ·) : Bool) = true := by kernel_rfl
set_option maxRecDepth 100000 in
theorem texts_k17 : ((Rows.fnTextsRow).wideKeys == ((Tryz.f3.params.toList ++ (Rows.fnTextsSpec).plain.varTypes Tryz.prog) ++ Tryz.f3.resultTypes.toList).any (Tryz.prog.wideKeysFrom ·) : Bool) = true := by kernel_rfl
set_option maxRecDepth 100000 in
theorem texts_k18 : ((Rows.fnTextsSpec).vars.all (Tryz.prog.varReadable ·) : Bool) = true := by kernel_rfl
set_option maxRecDepth 100000 in
theorem texts_k19 : (Tryz.f3.resultTypes.all (fun t => Tryz.prog.readableRec t && decide (t < Tryz.prog.types.size)) : Bool) = true := by kernel_rfl
set_option maxRecDepth 100000 in
theorem texts_k20 : ((Rows.fnTextsRow).ifacesOut == Tryz.f3.resultTypes.toList.any (Tryz.prog.ifacesRec ·) : Bool) = true := by kernel_rfl
set_option maxRecDepth 100000 in
theorem texts_k21 : ((Rows.fnTextsRow).loopsOut == Tryz.f3.resultTypes.toList.any (Tryz.prog.loopsFrom ·) : Bool) = true := by kernel_rfl
set_option maxRecDepth 100000 in
theorem texts_k22 : ((Rows.fnTextsRow).plainKeys == Tryz.prog.plainKeys : Bool) = true := by kernel_rfl
set_option maxRecDepth 100000 in
theorem texts_k23 : ((Rows.fnTextsRow).shortTexts.isNone : Bool) = true := by kernel_rfl
set_option maxRecDepth 100000 in
theorem texts_k24 : (Tryz.prog.stopsHeard : Bool) = true := by kernel_rfl
set_option maxRecDepth 100000 in
theorem texts_k25 : (Tryz.prog.mayEnter : Bool) = true := by kernel_rfl
set_option maxRecDepth 100000 in
theorem texts_k26 : ((Rows.fnTextsRow).lifted == Tryz.prog.liftsFinal : Bool) = true := by kernel_rfl
set_option maxRecDepth 100000 in
theorem texts_k27 : (Tryz.prog.make == some (Rows.fnTextsRow).make : Bool) = true := by kernel_rfl
set_option maxRecDepth 100000 in
theorem texts_k29 : ((Rows.fnTextsRow).pinned == (Rows.fnTextsRow).pinnedBy : Bool) = true := by kernel_rfl
set_option maxRecDepth 100000 in
theorem texts_k30 : ((Rows.fnTextsRow).veiled == ((Tryz.f3.params.toList ++ (Rows.fnTextsSpec).plain.varTypes Tryz.prog) ++ Tryz.f3.resultTypes.toList).any (Tryz.prog.veiledRec ·) : Bool) = true := by kernel_rfl
set_option maxRecDepth 100000 in
theorem texts_k31 : ((Rows.fnTextsRow).veiledFits Tryz.prog Tryz.f3.params.toList ((Tryz.f3.params.toList ++ (Rows.fnTextsSpec).plain.varTypes Tryz.prog) ++ Tryz.f3.resultTypes.toList) : Bool) = true := by kernel_rfl
theorem and_t {a b : Bool} (h : a = true) (k : b = true) : (a && b) = true := by rw [h, k]; rfl
set_option maxRecDepth 100000 in
theorem texts_joined : joinedFacts Tryz.prog 3 Tryz.f3 (Rows.fnTextsSpec) (Rows.fnTextsRow) = true := by
  unfold joinedFacts
  exact (and_t (and_t (and_t (and_t (and_t (and_t (and_t (and_t (and_t (and_t (and_t (and_t (and_t (and_t (and_t (and_t (and_t (and_t (and_t (and_t (and_t (and_t (and_t (and_t (and_t (and_t (and_t (and_t (and_t (and_t (and_t texts_k0 texts_k1) texts_k2) texts_k3) texts_k4) texts_k5) texts_k6) texts_k7) texts_k8) texts_k9) texts_k10) texts_k11) texts_k12) texts_k13) texts_k14) texts_k15) texts_k16) texts_k17) texts_k18) texts_k19) texts_k20) texts_k21) texts_k22) texts_k23) texts_k24) texts_k25) texts_k26) texts_k27) (by kernel_rfl)) texts_k29) texts_k30) texts_k31)
set_option maxRecDepth 100000 in
theorem texts_inst : Tryz.f3.isInstance Tryz.prog (Rows.fnTextsRow).origin (Rows.fnTextsRow).targs := of_decide_eq_true (by kernel_rfl)

theorem texts_row : Rows.FnTextsSaid :=
  OpenClaim.holds_of_wide 3 Tryz.f3 rfl rfl rfl rfl rfl rfl rfl ⟨rfl, rfl, rfl, rfl, rfl⟩ rfl rfl rfl rfl rfl (by kernel_rfl) Tryz.func3 texts_joined
    texts_inst (by unfold Func.isWrapper; rw [if_neg (of_decide_eq_false (by kernel_rfl))]; exact ⟨rfl, rfl⟩)
    (fun os started H enc _ => texts_lifted os started H enc)
theorem texts_holds : Rows.FnTextsCardSaid :=
  Claim7.holds_tied_plain_at .later [] [.data, .data, .data, .data, .sentinel, .sentinel, .pinned] true Rows.fnTextsCard.stood.harness true
    texts_row (fun _ h => by cases h) (by kernel_rfl) (fun _ h => by cases h) fnTexts_row_tie rfl ⟨rfl, rfl⟩ (by kernel_rfl) (by kernel_rfl)
    (fun f fn hf hfn => by
      obtain rfl : f = 3 := Option.some.inj ((show Tryz.prog.funcNamed Rows.fnTextsRow.func = some 3 by kernel_rfl).symm.trans hf) |>.symm
      obtain rfl : fn = Tryz.f3 := (Option.some.inj (Tryz.func3.symm.trans hfn)).symm
      exact ⟨by kernel_rfl, fun j t ht => by
        rw [Tryz.params3] at ht
        have hm : t ∈ [22] := by simpa using Array.mem_of_getElem? ht
        have hall : ([22].all fun u => !Tryz.prog.wantsStandIn u) = true := by kernel_rfl
        exact (show Tryz.prog.wantsStandIn t = false by simpa using List.all_eq_true.1 hall t hm)⟩)
    (by kernel_rfl)

end Go.Proofs.YtfdaaliffcfjjaaGreatDoor
