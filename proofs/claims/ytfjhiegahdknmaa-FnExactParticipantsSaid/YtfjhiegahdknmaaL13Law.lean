/-
  The contract of the law.
-/
import Derived.Test.YtfjhiegahdknmaaL13Pl
namespace Go.Proofs.Ytfjhiegahdknmaa
open Go.RowKit
def laws_FnExactParticipants_m (x0 : DEngine) : Bool :=
  cond (decide ((laws_szEngine_m x0 1048576) < 0)) true (cond (laws_eqIntS_m (impl_Participants_m (laws_toEngine_m x0)) (spec_Participants_m (laws_toEngine_m x0))) (cond (laws_eqEngine_m (laws_toEngine_m x0) (laws_toEngine_m x0)) (cond (decide (((laws_markEngine_m (laws_toEngine_m x0) 1).1) < 0)) false (cond (decide ((laws_heldIntS_m ((laws_markIntS_m (impl_Participants_m (laws_toEngine_m x0)) 1).2) 1) < 0)) false (cond ((laws_heldIntS_m ((laws_markIntS_m (impl_Participants_m (laws_toEngine_m x0)) 1).2) 1) != ((laws_markIntS_m (impl_Participants_m (laws_toEngine_m x0)) 1).1)) false true))) false) false)
set_option maxRecDepth 100000 in
theorem cb13 : Cb Try.prog 13 := ⟨Try.f13, _, Try.func13, rfl, by decide⟩
set_option maxRecDepth 10000 in
set_option maxHeartbeats 4000000 in
theorem laws_FnExactParticipants_c (w : World) (z0 : List Value) (x0 : DEngine) (r_0 : tyLEngine.rd w w.heap.size z0 x0) :
    Calls Try.prog 13 #[.agg z0.toArray] w fun e w' => e = .returned (.bool (laws_FnExactParticipants_m x0)) ∧ Below w.heap.size w w' := by
  have ok0 := (tyLEngine_sm r_0)
  obtain ⟨v1, v3, v5, v7, v9, rfl, r2, r4, r6, r8, r10⟩ := tyLEngine_rd r_0
  have r15 := r2
  obtain ⟨m11, A12, c13, rfl, q14⟩ := r2
  have r20 := r4
  obtain ⟨m16, A17, c18, rfl, q19⟩ := r4
  have r25 := r6
  obtain ⟨m21, A22, c23, rfl, q24⟩ := r6
  have r30 := r8
  obtain ⟨m26, A27, c28, rfl, q29⟩ := r8
  have r35 := r10
  obtain ⟨m31, A32, c33, rfl, q34⟩ := r10
  refine call_enterM (L := [(0, .agg #[.slice A12 x0.Store.Segments.length c13, .int .i64 x0.Store.Now, .int .i64 x0.Cursor, .slice A17 x0.Order.length c18, .slice A22 x0.Active.length c23, .slice A27 x0.Done.length c28, .slice A32 x0.Ledger.length c33, .int .i64 x0.Steps])]) (N := 69) Try.func13 rfl rfl (Nat.le_of_ble_eq_true rfl) (argsL_cons rfl argsL_nil) ?_
  refine sr ?_
  refine WM_box rfl (Wd_none rfl) (by decide) (fun p36 => ?_)
  refine wa ?_
  refine nt' ?_
  refine sr ?_
  refine wa ?_
  refine nt' ?_
  refine sr ?_
  refine wv (fun W hm => rv_loadN (cs := [.slice A12 x0.Store.Segments.length c13, .int .i64 x0.Store.Now, .int .i64 x0.Cursor, .slice A17 x0.Order.length c18, .slice A22 x0.Active.length c23, .slice A27 x0.Done.length c28, .slice A32 x0.Ledger.length c33, .int .i64 x0.Steps]) Try.underlying70 Try.type70 rfl rfl (hm.boxCells (n := 0) rfl)) ?_
  refine wm ?_
  refine WM_callV (cl_fn cb42 rfl) (fun W hm => laws_szEngine_c W _ x0 1048576 (tyLEngine_mk (x := x0) (hm.rdS0 r15) (hm.rdS0 r20) (hm.rdS0 r25) (hm.rdS0 r30) (hm.rdS0 r35))) (Wd_none rfl) (by decide) ?_
  refine wa ?_
  refine nt' ?_
  refine CM_seq ?_
  refine sr ?_
  refine wm ?_
  refine wv (fun W hm => rv_lss rfl rfl) ?_
  refine nt' ?_
  by_cases h37 : (laws_szEngine_m x0 1048576) < 0
  · have g38 : (decide ((laws_szEngine_m x0 1048576) < 0)) = true := decide_eq_true h37
    refine CM_condT rfl g38 ?_
    refine sr ?_
    refine wa ?_
    refine nt' ?_
    refine CM_ret ?_
    refine QM_then_ret ?_
    exact QM_ret1 rfl rfl (fun W hm => ⟨ret_b (show laws_FnExactParticipants_m x0 = true from by unfold laws_FnExactParticipants_m; exact cond_t g38 (rfl)), hm.below⟩)
  · have g38 : (decide ((laws_szEngine_m x0 1048576) < 0)) = false := decide_eq_false h37
    obtain ⟨hz0, hy0, hw0⟩ := sz_small laws_szEngine_ok ok0 (by omega) (by omega) g38
    refine CM_condF rfl g38 ?_
    refine CM_skip ?_
    refine QM_then ?_
    refine sr ?_
    refine wv (fun W hm => rv_loadN (cs := [.slice A12 x0.Store.Segments.length c13, .int .i64 x0.Store.Now, .int .i64 x0.Cursor, .slice A17 x0.Order.length c18, .slice A22 x0.Active.length c23, .slice A27 x0.Done.length c28, .slice A32 x0.Ledger.length c33, .int .i64 x0.Steps]) Try.underlying70 Try.type70 rfl rfl (hm.boxCells (n := 0) rfl)) ?_
    refine WM_call (χ := List Value) (val := fun x => .agg x.toArray) (js := fun x => [iOwn tyEngine x (laws_toEngine_m x0)]) (cl_fn cb44 rfl) (fun W hm => laws_toEngine_c W _ x0 (tyLEngine_mk (x := x0) (hm.rdS0 r15) (hm.rdS0 r20) (hm.rdS0 r25) (hm.rdS0 r30) (hm.rdS0 r35)) (smEngine_wt (by omega))) (Wd_none rfl) (by decide) (fun z39 => ?_)
    refine WM_split (γ := Value × Value × Value × Value × Value) (js := fun g => [iOwn (tSl (tSl tyVersion 51) 102) [g.1] ((laws_toEngine_m x0).Store.Segments), iOwn (tSl tInt 3) [g.2.1] ((laws_toEngine_m x0).Order), iOwn (tSl tyActive 127) [g.2.2.1] ((laws_toEngine_m x0).Active), iOwn (tSl tyFinished 136) [g.2.2.2.1] ((laws_toEngine_m x0).Done), iOwn (tSl tyCharge 140) [g.2.2.2.2] ((laws_toEngine_m x0).Ledger)]) (C := fun g => z39 = [g.1, .int .i64 ((laws_toEngine_m x0).Store.Now), .int .i64 ((laws_toEngine_m x0).Cursor), g.2.1, g.2.2.1, g.2.2.2.1, g.2.2.2.2, .int .i64 ((laws_toEngine_m x0).Steps)]) (fun _ _ h => tyEngine_split h) ?_
    rintro ⟨v40, v41, v42, v43, v44⟩ rfl
    refine WM_form (n := 0) rfl ?_
    rintro A45 c46 rfl m47
    refine WM_form (n := 1) rfl ?_
    rintro A49 c50 rfl m51
    refine WM_form (n := 2) rfl ?_
    rintro A53 c54 rfl m55
    refine WM_form (n := 3) rfl ?_
    rintro A57 c58 rfl m59
    refine WM_form (n := 4) rfl ?_
    rintro A61 c62 rfl m63
    refine WM_call (χ := Value) (val := fun x => x) (js := fun x => [iOwn (tSl tInt 3) [x] (spec_Participants_m (laws_toEngine_m x0))]) (cl_fn cb65 rfl) (fun W hm => spec_Participants_c W _ (laws_toEngine_m x0) (tyEngine_mk (x := (laws_toEngine_m x0)) (hm.rdSI (n := 0) rfl) (hm.rdSI (n := 1) rfl) (hm.rdSI (n := 2) rfl) (hm.rdSI (n := 3) rfl) (hm.rdSI (n := 4) rfl)) (by rw [laws_toEngine_eq]; exact (smEngine_wt (by omega)))) (Wd_none rfl) (by decide) (fun z65 => ?_)
    refine WM_form (n := 0) rfl ?_
    rintro A66 c67 rfl m68
    refine wa ?_
    refine nt' ?_
    refine CM_seq ?_
    refine CM_items (fun W hm => (hm.pick [0, 6] (by decide))) ?_
    refine CM_region ?_
    refine wv (fun W hm => rv_loadN (cs := [.slice A12 x0.Store.Segments.length c13, .int .i64 x0.Store.Now, .int .i64 x0.Cursor, .slice A17 x0.Order.length c18, .slice A22 x0.Active.length c23, .slice A27 x0.Done.length c28, .slice A32 x0.Ledger.length c33, .int .i64 x0.Steps]) Try.underlying70 Try.type70 rfl rfl (hm.boxCells (n := 1) rfl)) ?_
    refine WM_call (χ := List Value) (val := fun x => .agg x.toArray) (js := fun x => [iOwn tyEngine x (laws_toEngine_m x0)]) (cl_fn cb44 rfl) (fun W hm => laws_toEngine_c W _ x0 (tyLEngine_mk (x := x0) (hm.rdS0 r15) (hm.rdS0 r20) (hm.rdS0 r25) (hm.rdS0 r30) (hm.rdS0 r35)) (smEngine_wt (by omega))) (Wd_none rfl) (by decide) (fun z70 => ?_)
    refine WM_split (γ := Value × Value × Value × Value × Value) (js := fun g => [iOwn (tSl (tSl tyVersion 51) 102) [g.1] ((laws_toEngine_m x0).Store.Segments), iOwn (tSl tInt 3) [g.2.1] ((laws_toEngine_m x0).Order), iOwn (tSl tyActive 127) [g.2.2.1] ((laws_toEngine_m x0).Active), iOwn (tSl tyFinished 136) [g.2.2.2.1] ((laws_toEngine_m x0).Done), iOwn (tSl tyCharge 140) [g.2.2.2.2] ((laws_toEngine_m x0).Ledger)]) (C := fun g => z70 = [g.1, .int .i64 ((laws_toEngine_m x0).Store.Now), .int .i64 ((laws_toEngine_m x0).Cursor), g.2.1, g.2.2.1, g.2.2.2.1, g.2.2.2.2, .int .i64 ((laws_toEngine_m x0).Steps)]) (fun _ _ h => tyEngine_split h) ?_
    rintro ⟨v71, v72, v73, v74, v75⟩ rfl
    refine WM_form (n := 0) rfl ?_
    rintro A76 c77 rfl m78
    refine WM_form (n := 1) rfl ?_
    rintro A80 c81 rfl m82
    refine WM_form (n := 2) rfl ?_
    rintro A84 c85 rfl m86
    refine WM_form (n := 3) rfl ?_
    rintro A88 c89 rfl m90
    refine WM_form (n := 4) rfl ?_
    rintro A92 c93 rfl m94
    refine WM_alloc Try.type77 rfl (Wd_none rfl) (by decide) (fun p96 => ?_)
    refine WM_storeBox (p := p96) (o := 0) (cs := [.slice none 0 0, .int .i64 0, .int .i64 0, .slice none 0 0, .slice none 0 0, .slice none 0 0, .slice none 0 0, .int .i64 0]) (cs' := [.slice A76 ((laws_toEngine_m x0).Store.Segments).length c77, .int .i64 ((laws_toEngine_m x0).Store.Now), .int .i64 ((laws_toEngine_m x0).Cursor), .slice A80 ((laws_toEngine_m x0).Order).length c81, .slice A84 ((laws_toEngine_m x0).Active).length c85, .slice A88 ((laws_toEngine_m x0).Done).length c89, .slice A92 ((laws_toEngine_m x0).Ledger).length c93, .int .i64 ((laws_toEngine_m x0).Steps)]) (js := [iOwn (tSl (tSl tyVersion 51) 102) [.slice A76 ((laws_toEngine_m x0).Store.Segments).length c77] ((laws_toEngine_m x0).Store.Segments), iOwn (tSl tInt 3) [.slice A80 ((laws_toEngine_m x0).Order).length c81] ((laws_toEngine_m x0).Order), iOwn (tSl tyActive 127) [.slice A84 ((laws_toEngine_m x0).Active).length c85] ((laws_toEngine_m x0).Active), iOwn (tSl tyFinished 136) [.slice A88 ((laws_toEngine_m x0).Done).length c89] ((laws_toEngine_m x0).Done), iOwn (tSl tyCharge 140) [.slice A92 ((laws_toEngine_m x0).Ledger).length c93] ((laws_toEngine_m x0).Ledger), iOwn (tSl tInt 3) [.slice A66 (spec_Participants_m (laws_toEngine_m x0)).length c67] (spec_Participants_m (laws_toEngine_m x0)), iBox p36 70 [.slice A12 x0.Store.Segments.length c13, .int .i64 x0.Store.Now, .int .i64 x0.Cursor, .slice A17 x0.Order.length c18, .slice A22 x0.Active.length c23, .slice A27 x0.Done.length c28, .slice A32 x0.Ledger.length c33, .int .i64 x0.Steps]]) (fun W hm => hm) Try.type77 rfl (Nat.le_of_ble_eq_true rfl) rfl rfl rfl rfl (Wd_none rfl) ?_
    refine nt' ?_
    refine sr ?_
    refine wv (fun W hm => rv_loadN (cs := [.slice A76 ((laws_toEngine_m x0).Store.Segments).length c77, .int .i64 ((laws_toEngine_m x0).Store.Now), .int .i64 ((laws_toEngine_m x0).Cursor), .slice A80 ((laws_toEngine_m x0).Order).length c81, .slice A84 ((laws_toEngine_m x0).Active).length c85, .slice A88 ((laws_toEngine_m x0).Done).length c89, .slice A92 ((laws_toEngine_m x0).Ledger).length c93, .int .i64 ((laws_toEngine_m x0).Steps)]) Try.underlying77 Try.type77 rfl rfl (hm.boxCells (n := 0) rfl)) ?_
    refine WM_call (χ := Value) (val := fun x => x) (js := fun x => [iOwn (tSl tInt 3) [x] (impl_Participants_m (laws_toEngine_m x0))]) (cl_fn cb66 rfl) (fun W hm => impl_Participants_c W _ (laws_toEngine_m x0) (tyEngine_mk (x := (laws_toEngine_m x0)) (hm.rdSI (n := 1) rfl) (hm.rdSI (n := 2) rfl) (hm.rdSI (n := 3) rfl) (hm.rdSI (n := 4) rfl) (hm.rdSI (n := 5) rfl)) (by rw [laws_toEngine_eq]; exact (smEngine_wt (by omega)))) (Wd_none rfl) (by decide) (fun z97 => ?_)
    refine WM_form (n := 0) rfl ?_
    rintro A98 c99 rfl m100
    refine wa ?_
    refine nt' ?_
    refine CM_seq ?_
    refine sr ?_
    refine wm ?_
    refine wm ?_
    refine WM_callV (cl_fn cb67 rfl) (fun W hm => laws_eqIntS_c W _ (impl_Participants_m (laws_toEngine_m x0)) _ (spec_Participants_m (laws_toEngine_m x0)) (hm.rdSI (n := 0) rfl) (hm.rdSI (n := 7) rfl)) (Wd_none rfl) (by decide) ?_
    refine wv (fun W hm => rv_not rfl) ?_
    refine nt' ?_
    rcases Bool.eq_false_or_eq_true (laws_eqIntS_m (impl_Participants_m (laws_toEngine_m x0)) (spec_Participants_m (laws_toEngine_m x0))) with g103 | g103
    ·
      refine CM_condF rfl (nt g103) ?_
      refine CM_skip ?_
      refine QM_then ?_
      refine CM_seq ?_
      refine CM_seq ?_
      refine CM_regionB (n := 5) (listed := #[false, false, false, false, false]) (s := [iOwn (tSl tInt 3) [.slice A98 (impl_Participants_m (laws_toEngine_m x0)).length c99] (impl_Participants_m (laws_toEngine_m x0)), iBox p96 77 [.slice A76 ((laws_toEngine_m x0).Store.Segments).length c77, .int .i64 ((laws_toEngine_m x0).Store.Now), .int .i64 ((laws_toEngine_m x0).Cursor), .slice A80 ((laws_toEngine_m x0).Order).length c81, .slice A84 ((laws_toEngine_m x0).Active).length c85, .slice A88 ((laws_toEngine_m x0).Done).length c89, .slice A92 ((laws_toEngine_m x0).Ledger).length c93, .int .i64 ((laws_toEngine_m x0).Steps)], iOwn (tSl (tSl tyVersion 51) 102) [.slice A76 ((laws_toEngine_m x0).Store.Segments).length c77] ((laws_toEngine_m x0).Store.Segments), iOwn (tSl tInt 3) [.slice A80 ((laws_toEngine_m x0).Order).length c81] ((laws_toEngine_m x0).Order), iOwn (tSl tyActive 127) [.slice A84 ((laws_toEngine_m x0).Active).length c85] ((laws_toEngine_m x0).Active), iOwn (tSl tyFinished 136) [.slice A88 ((laws_toEngine_m x0).Done).length c89] ((laws_toEngine_m x0).Done), iOwn (tSl tyCharge 140) [.slice A92 ((laws_toEngine_m x0).Ledger).length c93] ((laws_toEngine_m x0).Ledger), iOwn (tSl tInt 3) [.slice A66 (spec_Participants_m (laws_toEngine_m x0)).length c67] (spec_Participants_m (laws_toEngine_m x0)), iBox p36 70 [.slice A12 x0.Store.Segments.length c13, .int .i64 x0.Store.Now, .int .i64 x0.Cursor, .slice A17 x0.Order.length c18, .slice A22 x0.Active.length c23, .slice A27 x0.Done.length c28, .slice A32 x0.Ledger.length c33, .int .i64 x0.Steps]]) (by kernel_rfl) rfl (by kernel_rfl) (fun W hm => hm) ?_
      refine QB_take 0 (listed' := #[true, false, false, false, false]) (by kernel_rfl) rfl (by kernel_rfl) (by kernel_rfl) (by kernel_rfl) (fun _ _ _ h => h) (fun W hm => rv_loadN (cs := [.slice A76 ((laws_toEngine_m x0).Store.Segments).length c77, .int .i64 ((laws_toEngine_m x0).Store.Now), .int .i64 ((laws_toEngine_m x0).Cursor), .slice A80 ((laws_toEngine_m x0).Order).length c81, .slice A84 ((laws_toEngine_m x0).Active).length c85, .slice A88 ((laws_toEngine_m x0).Done).length c89, .slice A92 ((laws_toEngine_m x0).Ledger).length c93, .int .i64 ((laws_toEngine_m x0).Steps)]) Try.underlying77 Try.type77 rfl rfl (hm.boxCells (n := 1) rfl)) (Wd_none rfl) rfl (by decide) ?_
      refine QB_take 1 (listed' := #[true, true, false, false, false]) (by kernel_rfl) rfl (by kernel_rfl) (by kernel_rfl) (by kernel_rfl) (fun _ _ _ h => h) (fun W hm => rv_loadN (cs := [.slice A12 x0.Store.Segments.length c13, .int .i64 x0.Store.Now, .int .i64 x0.Cursor, .slice A17 x0.Order.length c18, .slice A22 x0.Active.length c23, .slice A27 x0.Done.length c28, .slice A32 x0.Ledger.length c33, .int .i64 x0.Steps]) Try.underlying70 Try.type70 rfl rfl (hm.boxCells (n := 8) rfl)) (Wd_none rfl) rfl (by decide) ?_
      refine QB_one 2 (listed' := #[true, true, true, false, false]) (by kernel_rfl) rfl (by kernel_rfl) ?_
      refine WM_call (χ := List Value) (val := fun x => .agg x.toArray) (js := fun x => [iOwn tyEngine x (laws_toEngine_m x0)]) (cl_fn cb44 rfl) (fun W hm => laws_toEngine_c W _ x0 (tyLEngine_mk (x := x0) (hm.rdS0 r15) (hm.rdS0 r20) (hm.rdS0 r25) (hm.rdS0 r30) (hm.rdS0 r35)) (smEngine_wt (by omega))) (Wd_none rfl) (by decide) (fun z104 => ?_)
      refine WM_split (γ := Value × Value × Value × Value × Value) (js := fun g => [iOwn (tSl (tSl tyVersion 51) 102) [g.1] ((laws_toEngine_m x0).Store.Segments), iOwn (tSl tInt 3) [g.2.1] ((laws_toEngine_m x0).Order), iOwn (tSl tyActive 127) [g.2.2.1] ((laws_toEngine_m x0).Active), iOwn (tSl tyFinished 136) [g.2.2.2.1] ((laws_toEngine_m x0).Done), iOwn (tSl tyCharge 140) [g.2.2.2.2] ((laws_toEngine_m x0).Ledger)]) (C := fun g => z104 = [g.1, .int .i64 ((laws_toEngine_m x0).Store.Now), .int .i64 ((laws_toEngine_m x0).Cursor), g.2.1, g.2.2.1, g.2.2.2.1, g.2.2.2.2, .int .i64 ((laws_toEngine_m x0).Steps)]) (fun _ _ h => tyEngine_split h) ?_
      rintro ⟨v105, v106, v107, v108, v109⟩ rfl
      refine WM_form (n := 0) rfl ?_
      rintro A110 c111 rfl m112
      refine WM_form (n := 1) rfl ?_
      rintro A114 c115 rfl m116
      refine WM_form (n := 2) rfl ?_
      rintro A118 c119 rfl m120
      refine WM_form (n := 3) rfl ?_
      rintro A122 c123 rfl m124
      refine WM_form (n := 4) rfl ?_
      rintro A126 c127 rfl m128
      refine WM_nil ?_
      refine QB_next (fun W hm => (hm.pick [5, 6, 7, 8, 9, 10, 11, 12, 13] (by decide))) ?_
      refine QB_one 3 (listed' := #[true, true, true, true, false]) (by kernel_rfl) rfl (by kernel_rfl) ?_
      refine WM_callV (cl_fn cb46 rfl) (fun W hm => laws_eqEngine_c W _ (laws_toEngine_m x0) _ (laws_toEngine_m x0) (tyEngine_mk (x := (laws_toEngine_m x0)) (hm.rdSI (n := 7) rfl) (hm.rdSI (n := 8) rfl) (hm.rdSI (n := 9) rfl) (hm.rdSI (n := 10) rfl) (hm.rdSI (n := 11) rfl)) (tyEngine_mk (x := (laws_toEngine_m x0)) (hm.rdSI (n := 0) rfl) (hm.rdSI (n := 1) rfl) (hm.rdSI (n := 2) rfl) (hm.rdSI (n := 3) rfl) (hm.rdSI (n := 4) rfl))) (Wd_none rfl) (by decide) ?_
      refine WM_nil ?_
      refine QB_next (fun W hm => (hm.pick [5, 6, 7, 8, 9, 10, 11, 12, 13] (by decide))) ?_
      refine QB_take 4 (listed' := #[true, true, true, true, true]) (by kernel_rfl) rfl (by kernel_rfl) (by kernel_rfl) (by kernel_rfl) (fun _ _ _ h => h) (fun W hm => rv_not rfl) (Wd_none rfl) rfl (by decide) ?_
      refine QB_done (by kernel_rfl) ?_
      refine QM_then ?_
      rcases Bool.eq_false_or_eq_true (laws_eqEngine_m (laws_toEngine_m x0) (laws_toEngine_m x0)) with g131 | g131
      ·
        refine CM_condF rfl (nt g131) ?_
        refine CM_skip ?_
        refine QM_then ?_
        refine CM_seq ?_
        refine CM_items (fun W hm => (hm.pick [5, 6, 7, 8, 9, 10, 11, 12, 13] (by decide))) ?_
        refine CM_region ?_
        refine wa ?_
        refine nt' ?_
        refine sr ?_
        refine wv (fun W hm => rv_loadN (cs := [.slice A76 ((laws_toEngine_m x0).Store.Segments).length c77, .int .i64 ((laws_toEngine_m x0).Store.Now), .int .i64 ((laws_toEngine_m x0).Cursor), .slice A80 ((laws_toEngine_m x0).Order).length c81, .slice A84 ((laws_toEngine_m x0).Active).length c85, .slice A88 ((laws_toEngine_m x0).Done).length c89, .slice A92 ((laws_toEngine_m x0).Ledger).length c93, .int .i64 ((laws_toEngine_m x0).Steps)]) Try.underlying77 Try.type77 rfl rfl (hm.boxCells (n := 1) rfl)) ?_
        refine wm ?_
        refine WM_items (js := (iOwn tyEngine [.slice A76 ((laws_toEngine_m x0).Store.Segments).length c77, .int .i64 ((laws_toEngine_m x0).Store.Now), .int .i64 ((laws_toEngine_m x0).Cursor), .slice A80 ((laws_toEngine_m x0).Order).length c81, .slice A84 ((laws_toEngine_m x0).Active).length c85, .slice A88 ((laws_toEngine_m x0).Done).length c89, .slice A92 ((laws_toEngine_m x0).Ledger).length c93, .int .i64 ((laws_toEngine_m x0).Steps)] (laws_toEngine_m x0) :: [iOwn (tSl tInt 3) [.slice A98 (impl_Participants_m (laws_toEngine_m x0)).length c99] (impl_Participants_m (laws_toEngine_m x0)), iBox p96 77 [.slice A76 ((laws_toEngine_m x0).Store.Segments).length c77, .int .i64 ((laws_toEngine_m x0).Store.Now), .int .i64 ((laws_toEngine_m x0).Cursor), .slice A80 ((laws_toEngine_m x0).Order).length c81, .slice A84 ((laws_toEngine_m x0).Active).length c85, .slice A88 ((laws_toEngine_m x0).Done).length c89, .slice A92 ((laws_toEngine_m x0).Ledger).length c93, .int .i64 ((laws_toEngine_m x0).Steps)], iOwn (tSl tInt 3) [.slice A66 (spec_Participants_m (laws_toEngine_m x0)).length c67] (spec_Participants_m (laws_toEngine_m x0)), iBox p36 70 [.slice A12 x0.Store.Segments.length c13, .int .i64 x0.Store.Now, .int .i64 x0.Cursor, .slice A17 x0.Order.length c18, .slice A22 x0.Active.length c23, .slice A27 x0.Done.length c28, .slice A32 x0.Ledger.length c33, .int .i64 x0.Steps]])) (fun W hm => Mem.join (is := [iOwn (tSl (tSl tyVersion 51) 102) [.slice A76 ((laws_toEngine_m x0).Store.Segments).length c77] ((laws_toEngine_m x0).Store.Segments), iOwn (tSl tInt 3) [.slice A80 ((laws_toEngine_m x0).Order).length c81] ((laws_toEngine_m x0).Order), iOwn (tSl tyActive 127) [.slice A84 ((laws_toEngine_m x0).Active).length c85] ((laws_toEngine_m x0).Active), iOwn (tSl tyFinished 136) [.slice A88 ((laws_toEngine_m x0).Done).length c89] ((laws_toEngine_m x0).Done), iOwn (tSl tyCharge 140) [.slice A92 ((laws_toEngine_m x0).Ledger).length c93] ((laws_toEngine_m x0).Ledger)]) (js := [iOwn (tSl tInt 3) [.slice A98 (impl_Participants_m (laws_toEngine_m x0)).length c99] (impl_Participants_m (laws_toEngine_m x0)), iBox p96 77 [.slice A76 ((laws_toEngine_m x0).Store.Segments).length c77, .int .i64 ((laws_toEngine_m x0).Store.Now), .int .i64 ((laws_toEngine_m x0).Cursor), .slice A80 ((laws_toEngine_m x0).Order).length c81, .slice A84 ((laws_toEngine_m x0).Active).length c85, .slice A88 ((laws_toEngine_m x0).Done).length c89, .slice A92 ((laws_toEngine_m x0).Ledger).length c93, .int .i64 ((laws_toEngine_m x0).Steps)], iOwn (tSl tInt 3) [.slice A66 (spec_Participants_m (laws_toEngine_m x0)).length c67] (spec_Participants_m (laws_toEngine_m x0)), iBox p36 70 [.slice A12 x0.Store.Segments.length c13, .int .i64 x0.Store.Now, .int .i64 x0.Cursor, .slice A17 x0.Order.length c18, .slice A22 x0.Active.length c23, .slice A27 x0.Done.length c28, .slice A32 x0.Ledger.length c33, .int .i64 x0.Steps]]) (fun _ _ hs => tyEngine_join (x := (laws_toEngine_m x0)) hs) (hm.pick [2, 3, 4, 5, 6, 0, 1, 7, 8] (by decide))) ?_
        refine WM_callW (χ := Unit) (val := fun _ => .int .i64 (laws_markEngine_m (laws_toEngine_m x0) 1).1) (js := fun _ => (iOwn tyEngine [.slice A76 ((laws_toEngine_m x0).Store.Segments).length c77, .int .i64 ((laws_toEngine_m x0).Store.Now), .int .i64 ((laws_toEngine_m x0).Cursor), .slice A80 ((laws_toEngine_m x0).Order).length c81, .slice A84 ((laws_toEngine_m x0).Active).length c85, .slice A88 ((laws_toEngine_m x0).Done).length c89, .slice A92 ((laws_toEngine_m x0).Ledger).length c93, .int .i64 ((laws_toEngine_m x0).Steps)] (laws_markEngine_m (laws_toEngine_m x0) 1).2 :: [iOwn (tSl tInt 3) [.slice A98 (impl_Participants_m (laws_toEngine_m x0)).length c99] (impl_Participants_m (laws_toEngine_m x0)), iBox p96 77 [.slice A76 ((laws_toEngine_m x0).Store.Segments).length c77, .int .i64 ((laws_toEngine_m x0).Store.Now), .int .i64 ((laws_toEngine_m x0).Cursor), .slice A80 ((laws_toEngine_m x0).Order).length c81, .slice A84 ((laws_toEngine_m x0).Active).length c85, .slice A88 ((laws_toEngine_m x0).Done).length c89, .slice A92 ((laws_toEngine_m x0).Ledger).length c93, .int .i64 ((laws_toEngine_m x0).Steps)], iOwn (tSl tInt 3) [.slice A66 (spec_Participants_m (laws_toEngine_m x0)).length c67] (spec_Participants_m (laws_toEngine_m x0)), iBox p36 70 [.slice A12 x0.Store.Segments.length c13, .int .i64 x0.Store.Now, .int .i64 x0.Cursor, .slice A17 x0.Order.length c18, .slice A22 x0.Active.length c23, .slice A27 x0.Done.length c28, .slice A32 x0.Ledger.length c33, .int .i64 x0.Steps]])) (cl_fn cb55 rfl) (fun W hm => (laws_markEngine_c w.heap.size w [iOwn (tSl tInt 3) [.slice A98 (impl_Participants_m (laws_toEngine_m x0)).length c99] (impl_Participants_m (laws_toEngine_m x0)), iBox p96 77 [.slice A76 ((laws_toEngine_m x0).Store.Segments).length c77, .int .i64 ((laws_toEngine_m x0).Store.Now), .int .i64 ((laws_toEngine_m x0).Cursor), .slice A80 ((laws_toEngine_m x0).Order).length c81, .slice A84 ((laws_toEngine_m x0).Active).length c85, .slice A88 ((laws_toEngine_m x0).Done).length c89, .slice A92 ((laws_toEngine_m x0).Ledger).length c93, .int .i64 ((laws_toEngine_m x0).Steps)], iOwn (tSl tInt 3) [.slice A66 (spec_Participants_m (laws_toEngine_m x0)).length c67] (spec_Participants_m (laws_toEngine_m x0)), iBox p36 70 [.slice A12 x0.Store.Segments.length c13, .int .i64 x0.Store.Now, .int .i64 x0.Cursor, .slice A17 x0.Order.length c18, .slice A22 x0.Active.length c23, .slice A27 x0.Done.length c28, .slice A32 x0.Ledger.length c33, .int .i64 x0.Steps]] W [.slice A76 ((laws_toEngine_m x0).Store.Segments).length c77, .int .i64 ((laws_toEngine_m x0).Store.Now), .int .i64 ((laws_toEngine_m x0).Cursor), .slice A80 ((laws_toEngine_m x0).Order).length c81, .slice A84 ((laws_toEngine_m x0).Active).length c85, .slice A88 ((laws_toEngine_m x0).Done).length c89, .slice A92 ((laws_toEngine_m x0).Ledger).length c93, .int .i64 ((laws_toEngine_m x0).Steps)] (laws_toEngine_m x0) 1 hm).mono (fun _ _ h => ⟨(), h.1, h.2⟩)) (Wd_none rfl) (by decide) (fun _ => ?_)
        refine WM_split (γ := Value × Value × Value × Value × Value) (js := fun g => [iOwn (tSl (tSl tyVersion 51) 102) [g.1] ((laws_markEngine_m (laws_toEngine_m x0) 1).2.Store.Segments), iOwn (tSl tInt 3) [g.2.1] ((laws_markEngine_m (laws_toEngine_m x0) 1).2.Order), iOwn (tSl tyActive 127) [g.2.2.1] ((laws_markEngine_m (laws_toEngine_m x0) 1).2.Active), iOwn (tSl tyFinished 136) [g.2.2.2.1] ((laws_markEngine_m (laws_toEngine_m x0) 1).2.Done), iOwn (tSl tyCharge 140) [g.2.2.2.2] ((laws_markEngine_m (laws_toEngine_m x0) 1).2.Ledger)]) (C := fun g => [.slice A76 ((laws_toEngine_m x0).Store.Segments).length c77, .int .i64 ((laws_toEngine_m x0).Store.Now), .int .i64 ((laws_toEngine_m x0).Cursor), .slice A80 ((laws_toEngine_m x0).Order).length c81, .slice A84 ((laws_toEngine_m x0).Active).length c85, .slice A88 ((laws_toEngine_m x0).Done).length c89, .slice A92 ((laws_toEngine_m x0).Ledger).length c93, .int .i64 ((laws_toEngine_m x0).Steps)] = [g.1, .int .i64 ((laws_markEngine_m (laws_toEngine_m x0) 1).2.Store.Now), .int .i64 ((laws_markEngine_m (laws_toEngine_m x0) 1).2.Cursor), g.2.1, g.2.2.1, g.2.2.2.1, g.2.2.2.2, .int .i64 ((laws_markEngine_m (laws_toEngine_m x0) 1).2.Steps)]) (fun _ _ h => tyEngine_split h) ?_
        rintro ⟨v133, v134, v135, v136, v137⟩ h132
        simp only [List.cons.injEq] at h132
        obtain ⟨rfl, -, -, rfl, rfl, rfl, rfl, -, -⟩ := h132
        refine wa ?_
        refine nt' ?_
        refine CM_seq ?_
        refine CM_seq ?_
        refine CM_items (fun W hm => (hm.pick [5, 7, 8] (by decide))) ?_
        refine CM_region ?_
        refine wm ?_
        refine wv (fun W hm => rv_lss rfl rfl) ?_
        refine wm ?_
        by_cases h138 : ((laws_markEngine_m (laws_toEngine_m x0) 1).1) < 0
        · have g139 : (decide (((laws_markEngine_m (laws_toEngine_m x0) 1).1) < 0)) = true := decide_eq_true h138
          refine ws g139 ?_
          refine ws g139 ?_
          refine ws g139 ?_
          refine ws g139 ?_
          refine wv (fun W hm => rv_pickT rfl g139 rfl) ?_
          refine nt' ?_
          refine CM_condT rfl rfl ?_
          refine sr ?_
          refine wa ?_
          refine nt' ?_
          refine CM_ret ?_
          refine QM_then_ret ?_
          exact QM_ret1 rfl rfl (fun W hm => ⟨ret_b (show laws_FnExactParticipants_m x0 = false from by unfold laws_FnExactParticipants_m; exact cond_f g38 (cond_t g103 (cond_t g131 (cond_t g139 (rfl))))), hm.below⟩)
        · have g139 : (decide (((laws_markEngine_m (laws_toEngine_m x0) 1).1) < 0)) = false := decide_eq_false h138
          refine wg (fun W hm => rv_move rfl) g139 ?_
          refine wg (fun W hm => rv_move rfl) g139 ?_
          refine WM_callV (cl_fn cb67 rfl) (fun W hm => laws_eqIntS_c W _ (impl_Participants_m (laws_toEngine_m x0)) _ (spec_Participants_m (laws_toEngine_m x0)) (hm.rdSI (n := 0) rfl) (hm.rdSI (n := 1) rfl)) (Wd_some rfl rfl rfl (bw g139 rfl)) (by decide) ?_
          refine wg (fun W hm => rv_not rfl) g139 ?_
          refine wv (fun W hm => rv_pickF rfl g139 rfl) ?_
          refine nt' ?_
          refine CM_condF rfl (nt g103) ?_
          refine CM_skip ?_
          refine QM_then ?_
          refine sr ?_
          refine wa ?_
          refine nt' ?_
          refine sr ?_
          refine wm ?_
          refine wm ?_
          refine WM_callW (χ := Unit) (val := fun _ => .int .i64 (laws_markIntS_m (impl_Participants_m (laws_toEngine_m x0)) 1).1) (js := fun _ => (iOwn (tSl tInt 3) [.slice A98 (impl_Participants_m (laws_toEngine_m x0)).length c99] (laws_markIntS_m (impl_Participants_m (laws_toEngine_m x0)) 1).2 :: [iOwn (tSl tInt 3) [.slice A66 (spec_Participants_m (laws_toEngine_m x0)).length c67] (spec_Participants_m (laws_toEngine_m x0)), iBox p36 70 [.slice A12 x0.Store.Segments.length c13, .int .i64 x0.Store.Now, .int .i64 x0.Cursor, .slice A17 x0.Order.length c18, .slice A22 x0.Active.length c23, .slice A27 x0.Done.length c28, .slice A32 x0.Ledger.length c33, .int .i64 x0.Steps]])) (cl_fn cb68 rfl) (fun W hm => (laws_markIntS_c w.heap.size w [iOwn (tSl tInt 3) [.slice A66 (spec_Participants_m (laws_toEngine_m x0)).length c67] (spec_Participants_m (laws_toEngine_m x0)), iBox p36 70 [.slice A12 x0.Store.Segments.length c13, .int .i64 x0.Store.Now, .int .i64 x0.Cursor, .slice A17 x0.Order.length c18, .slice A22 x0.Active.length c23, .slice A27 x0.Done.length c28, .slice A32 x0.Ledger.length c33, .int .i64 x0.Steps]] W (.slice A98 (impl_Participants_m (laws_toEngine_m x0)).length c99) (impl_Participants_m (laws_toEngine_m x0)) 1 hm).mono (fun _ _ h => ⟨(), h.1, h.2⟩)) (Wd_none rfl) (by decide) (fun _ => ?_)
          refine wa ?_
          refine nt' ?_
          refine sr ?_
          refine wa ?_
          refine nt' ?_
          refine sr ?_
          refine wm ?_
          refine wm ?_
          refine WM_callV (cl_fn cb69 rfl) (fun W hm => laws_heldIntS_c W _ ((laws_markIntS_m (impl_Participants_m (laws_toEngine_m x0)) 1).2) 1 (hm.rdSI (n := 0) rfl)) (Wd_none rfl) (by decide) ?_
          refine wa ?_
          refine nt' ?_
          refine CM_seq ?_
          refine sr ?_
          refine wm ?_
          refine wv (fun W hm => rv_lss rfl rfl) ?_
          refine nt' ?_
          by_cases h140 : (laws_heldIntS_m ((laws_markIntS_m (impl_Participants_m (laws_toEngine_m x0)) 1).2) 1) < 0
          · have g141 : (decide ((laws_heldIntS_m ((laws_markIntS_m (impl_Participants_m (laws_toEngine_m x0)) 1).2) 1) < 0)) = true := decide_eq_true h140
            refine CM_condT rfl g141 ?_
            refine sr ?_
            refine wa ?_
            refine nt' ?_
            refine CM_ret ?_
            refine QM_then_ret ?_
            exact QM_ret1 rfl rfl (fun W hm => ⟨ret_b (show laws_FnExactParticipants_m x0 = false from by unfold laws_FnExactParticipants_m; exact cond_f g38 (cond_t g103 (cond_t g131 (cond_f g139 (cond_t g141 (rfl)))))), hm.below⟩)
          · have g141 : (decide ((laws_heldIntS_m ((laws_markIntS_m (impl_Participants_m (laws_toEngine_m x0)) 1).2) 1) < 0)) = false := decide_eq_false h140
            refine CM_condF rfl g141 ?_
            refine CM_skip ?_
            refine QM_then ?_
            refine CM_seq ?_
            refine sr ?_
            refine wm ?_
            refine wm ?_
            refine wv (fun W hm => rv_neq rfl rfl) ?_
            refine nt' ?_
            by_cases h142 : (laws_heldIntS_m ((laws_markIntS_m (impl_Participants_m (laws_toEngine_m x0)) 1).2) 1) = ((laws_markIntS_m (impl_Participants_m (laws_toEngine_m x0)) 1).1)
            · have g143 : ((laws_heldIntS_m ((laws_markIntS_m (impl_Participants_m (laws_toEngine_m x0)) 1).2) 1) != ((laws_markIntS_m (impl_Participants_m (laws_toEngine_m x0)) 1).1)) = false := by rw [h142]; exact bne_self_eq_false _
              refine CM_condF rfl g143 ?_
              refine CM_skip ?_
              refine QM_then ?_
              refine sr ?_
              refine wv (fun W hm => rv_loadN (cs := [.slice A12 x0.Store.Segments.length c13, .int .i64 x0.Store.Now, .int .i64 x0.Cursor, .slice A17 x0.Order.length c18, .slice A22 x0.Active.length c23, .slice A27 x0.Done.length c28, .slice A32 x0.Ledger.length c33, .int .i64 x0.Steps]) Try.underlying70 Try.type70 rfl rfl (hm.boxCells (n := 2) rfl)) ?_
              refine WM_call (χ := List Value) (val := fun x => .agg x.toArray) (js := fun x => [iOwn tyEngine x (laws_toEngine_m x0)]) (cl_fn cb44 rfl) (fun W hm => laws_toEngine_c W _ x0 (tyLEngine_mk (x := x0) (hm.rdS0 r15) (hm.rdS0 r20) (hm.rdS0 r25) (hm.rdS0 r30) (hm.rdS0 r35)) (smEngine_wt (by omega))) (Wd_none rfl) (by decide) (fun z144 => ?_)
              refine WM_split (γ := Value × Value × Value × Value × Value) (js := fun g => [iOwn (tSl (tSl tyVersion 51) 102) [g.1] ((laws_toEngine_m x0).Store.Segments), iOwn (tSl tInt 3) [g.2.1] ((laws_toEngine_m x0).Order), iOwn (tSl tyActive 127) [g.2.2.1] ((laws_toEngine_m x0).Active), iOwn (tSl tyFinished 136) [g.2.2.2.1] ((laws_toEngine_m x0).Done), iOwn (tSl tyCharge 140) [g.2.2.2.2] ((laws_toEngine_m x0).Ledger)]) (C := fun g => z144 = [g.1, .int .i64 ((laws_toEngine_m x0).Store.Now), .int .i64 ((laws_toEngine_m x0).Cursor), g.2.1, g.2.2.1, g.2.2.2.1, g.2.2.2.2, .int .i64 ((laws_toEngine_m x0).Steps)]) (fun _ _ h => tyEngine_split h) ?_
              rintro ⟨v145, v146, v147, v148, v149⟩ rfl
              refine WM_form (n := 0) rfl ?_
              rintro A150 c151 rfl m152
              refine WM_form (n := 1) rfl ?_
              rintro A154 c155 rfl m156
              refine WM_form (n := 2) rfl ?_
              rintro A158 c159 rfl m160
              refine WM_form (n := 3) rfl ?_
              rintro A162 c163 rfl m164
              refine WM_form (n := 4) rfl ?_
              rintro A166 c167 rfl m168
              refine WM_call (χ := Value) (val := fun x => x) (js := fun x => [iOwn (tSl tInt 3) [x] (impl_Participants_m (laws_toEngine_m x0))]) (cl_fn cb66 rfl) (fun W hm => impl_Participants_c W _ (laws_toEngine_m x0) (tyEngine_mk (x := (laws_toEngine_m x0)) (hm.rdSI (n := 0) rfl) (hm.rdSI (n := 1) rfl) (hm.rdSI (n := 2) rfl) (hm.rdSI (n := 3) rfl) (hm.rdSI (n := 4) rfl)) (by rw [laws_toEngine_eq]; exact (smEngine_wt (by omega)))) (Wd_none rfl) (by decide) (fun z170 => ?_)
              refine WM_form (n := 0) rfl ?_
              rintro A171 c172 rfl m173
              refine wa ?_
              refine nt' ?_
              refine CM_seq ?_
              refine CM_seq ?_
              refine CM_items (fun W hm => (hm.pick [0, 6, 7] (by decide))) ?_
              refine CM_region ?_
              refine wm ?_
              refine wm ?_
              refine WM_callV (cl_fn cb67 rfl) (fun W hm => laws_eqIntS_c W _ (impl_Participants_m (laws_toEngine_m x0)) _ (spec_Participants_m (laws_toEngine_m x0)) (hm.rdSI (n := 0) rfl) (hm.rdSI (n := 2) rfl)) (Wd_none rfl) (by decide) ?_
              refine wv (fun W hm => rv_not rfl) ?_
              refine nt' ?_
              refine CM_condF rfl (nt g103) ?_
              refine CM_skip ?_
              refine QM_then ?_
              refine sr ?_
              refine wa ?_
              refine nt' ?_
              refine sr ?_
              refine wm ?_
              refine wm ?_
              refine WM_callV (cl_fn cb69 rfl) (fun W hm => laws_heldIntS_c W _ ((laws_markIntS_m (impl_Participants_m (laws_toEngine_m x0)) 1).2) 1 (hm.rdSI (n := 1) rfl)) (Wd_none rfl) (by decide) ?_
              refine wa ?_
              refine nt' ?_
              refine CM_seq ?_
              refine sr ?_
              refine wm ?_
              refine wv (fun W hm => rv_lss rfl rfl) ?_
              refine nt' ?_
              refine CM_condF rfl g141 ?_
              refine CM_skip ?_
              refine QM_then ?_
              refine CM_seq ?_
              refine sr ?_
              refine wm ?_
              refine wm ?_
              refine wv (fun W hm => rv_neq rfl rfl) ?_
              refine nt' ?_
              refine CM_condF rfl g143 ?_
              refine CM_skip ?_
              refine QM_then ?_
              refine sr ?_
              refine wa ?_
              refine nt' ?_
              refine CM_ret ?_
              exact QM_ret1 rfl rfl (fun W hm => ⟨ret_b (show laws_FnExactParticipants_m x0 = true from by unfold laws_FnExactParticipants_m; exact cond_f g38 (cond_t g103 (cond_t g131 (cond_f g139 (cond_f g141 (cond_f g143 (rfl))))))), hm.below⟩)
            · have g143 : ((laws_heldIntS_m ((laws_markIntS_m (impl_Participants_m (laws_toEngine_m x0)) 1).2) 1) != ((laws_markIntS_m (impl_Participants_m (laws_toEngine_m x0)) 1).1)) = true := bne_iff_ne.2 h142
              refine CM_condT rfl g143 ?_
              refine sr ?_
              refine wa ?_
              refine nt' ?_
              refine CM_ret ?_
              refine QM_then_ret ?_
              exact QM_ret1 rfl rfl (fun W hm => ⟨ret_b (show laws_FnExactParticipants_m x0 = false from by unfold laws_FnExactParticipants_m; exact cond_f g38 (cond_t g103 (cond_t g131 (cond_f g139 (cond_f g141 (cond_t g143 (rfl))))))), hm.below⟩)
      ·
        refine CM_condT rfl (nf g131) ?_
        refine CM_seq ?_
        refine CM_items (fun W hm => (hm.pick [] (by decide))) ?_
        refine CM_region ?_
        refine wa ?_
        refine nt' ?_
        refine CM_ret ?_
        refine QM_then_ret ?_
        exact QM_ret1 rfl rfl (fun W hm => ⟨ret_b (show laws_FnExactParticipants_m x0 = false from by unfold laws_FnExactParticipants_m; exact cond_f g38 (cond_t g103 (cond_f g131 (rfl)))), hm.below⟩)
    ·
      refine CM_condT rfl (nf g103) ?_
      refine CM_seq ?_
      refine CM_items (fun W hm => (hm.pick [] (by decide))) ?_
      refine CM_region ?_
      refine wa ?_
      refine nt' ?_
      refine CM_ret ?_
      refine QM_then_ret ?_
      exact QM_ret1 rfl rfl (fun W hm => ⟨ret_b (show laws_FnExactParticipants_m x0 = false from by unfold laws_FnExactParticipants_m; exact cond_f g38 (cond_f g103 (rfl))), hm.below⟩)

end Go.Proofs.Ytfjhiegahdknmaa
