/-
  The contract of the law.
-/
import Derived.Test.YtfjhiegahdknmaaL10Pl
namespace Go.Proofs.Ytfjhiegahdknmaa
open Go.RowKit
def laws_FnExactIsAwake_m (x0 : DEngine) (x1 : Int) : Bool :=
  cond (decide ((laws_szEngine_m x0 1048576) < 0)) true (cond ((impl_IsAwake_m (laws_toEngine_m x0) x1) != (spec_IsAwake_m (laws_toEngine_m x0) x1)) false (cond (laws_eqEngine_m (laws_toEngine_m x0) (laws_toEngine_m x0)) true false))
set_option maxRecDepth 100000 in
theorem cb10 : Cb Try.prog 10 := ⟨Try.f10, _, Try.func10, rfl, by decide⟩
set_option maxRecDepth 10000 in
set_option maxHeartbeats 4000000 in
theorem laws_FnExactIsAwake_c (w : World) (z0 : List Value) (x0 : DEngine) (x1 : Int) (r_0 : tyLEngine.rd w w.heap.size z0 x0) :
    Calls Try.prog 10 #[.agg z0.toArray, .int .i64 x1] w fun e w' => e = .returned (.bool (laws_FnExactIsAwake_m x0 x1)) ∧ Below w.heap.size w w' := by
  have ok0 := (tyLEngine_sm r_0)
  obtain ⟨v1, v3, v5, v7, v9, rfl, r2, r4, r6, r8, r10⟩ := tyLEngine_rd r_0
  have r15 := r2
  obtain ⟨m11, A12, c13, rfl, q14⟩ := r2
  have r20 := r4
  obtain ⟨m16, A17, c18, rfl, q19⟩ := r4
  have r25 := r6
  obtain ⟨m21, A22, c23, rfl, q24⟩ := r6
  have r30 := r8
  obtain ⟨m26, A27, c28, rfl, q29⟩ := r8
  have r35 := r10
  obtain ⟨m31, A32, c33, rfl, q34⟩ := r10
  refine call_enterM (L := [(0, .agg #[.slice A12 x0.Store.Segments.length c13, .int .i64 x0.Store.Now, .int .i64 x0.Cursor, .slice A17 x0.Order.length c18, .slice A22 x0.Active.length c23, .slice A27 x0.Done.length c28, .slice A32 x0.Ledger.length c33, .int .i64 x0.Steps]), (1, .int .i64 x1)]) (N := 31) Try.func10 rfl rfl (Nat.le_of_ble_eq_true rfl) (argsL_cons rfl (argsL_cons rfl argsL_nil)) ?_
  refine sr ?_
  refine WM_box rfl (Wd_none rfl) (by decide) (fun p36 => ?_)
  refine wa ?_
  refine nt' ?_
  refine sr ?_
  refine wa ?_
  refine nt' ?_
  refine sr ?_
  refine wv (fun W hm => rv_loadN (cs := [.slice A12 x0.Store.Segments.length c13, .int .i64 x0.Store.Now, .int .i64 x0.Cursor, .slice A17 x0.Order.length c18, .slice A22 x0.Active.length c23, .slice A27 x0.Done.length c28, .slice A32 x0.Ledger.length c33, .int .i64 x0.Steps]) Try.underlying70 Try.type70 rfl rfl (hm.boxCells (n := 0) rfl)) ?_
  refine wm ?_
  refine WM_callV (cl_fn cb42 rfl) (fun W hm => laws_szEngine_c W _ x0 1048576 (tyLEngine_mk (x := x0) (hm.rdS0 r15) (hm.rdS0 r20) (hm.rdS0 r25) (hm.rdS0 r30) (hm.rdS0 r35))) (Wd_none rfl) (by decide) ?_
  refine wa ?_
  refine nt' ?_
  refine CM_seq ?_
  refine sr ?_
  refine wm ?_
  refine wv (fun W hm => rv_lss rfl rfl) ?_
  refine nt' ?_
  by_cases h37 : (laws_szEngine_m x0 1048576) < 0
  · have g38 : (decide ((laws_szEngine_m x0 1048576) < 0)) = true := decide_eq_true h37
    refine CM_condT rfl g38 ?_
    refine sr ?_
    refine wa ?_
    refine nt' ?_
    refine CM_ret ?_
    refine QM_then_ret ?_
    exact QM_ret1 rfl rfl (fun W hm => ⟨ret_b (show laws_FnExactIsAwake_m x0 x1 = true from by unfold laws_FnExactIsAwake_m; exact cond_t g38 (rfl)), hm.below⟩)
  · have g38 : (decide ((laws_szEngine_m x0 1048576) < 0)) = false := decide_eq_false h37
    obtain ⟨hz0, hy0, hw0⟩ := sz_small laws_szEngine_ok ok0 (by omega) (by omega) g38
    refine CM_condF rfl g38 ?_
    refine CM_skip ?_
    refine QM_then ?_
    refine sr ?_
    refine wv (fun W hm => rv_loadN (cs := [.slice A12 x0.Store.Segments.length c13, .int .i64 x0.Store.Now, .int .i64 x0.Cursor, .slice A17 x0.Order.length c18, .slice A22 x0.Active.length c23, .slice A27 x0.Done.length c28, .slice A32 x0.Ledger.length c33, .int .i64 x0.Steps]) Try.underlying70 Try.type70 rfl rfl (hm.boxCells (n := 0) rfl)) ?_
    refine WM_call (χ := List Value) (val := fun x => .agg x.toArray) (js := fun x => [iOwn tyEngine x (laws_toEngine_m x0)]) (cl_fn cb44 rfl) (fun W hm => laws_toEngine_c W _ x0 (tyLEngine_mk (x := x0) (hm.rdS0 r15) (hm.rdS0 r20) (hm.rdS0 r25) (hm.rdS0 r30) (hm.rdS0 r35)) (smEngine_wt (by omega))) (Wd_none rfl) (by decide) (fun z39 => ?_)
    refine WM_split (γ := Value × Value × Value × Value × Value) (js := fun g => [iOwn (tSl (tSl tyVersion 51) 102) [g.1] ((laws_toEngine_m x0).Store.Segments), iOwn (tSl tInt 3) [g.2.1] ((laws_toEngine_m x0).Order), iOwn (tSl tyActive 127) [g.2.2.1] ((laws_toEngine_m x0).Active), iOwn (tSl tyFinished 136) [g.2.2.2.1] ((laws_toEngine_m x0).Done), iOwn (tSl tyCharge 140) [g.2.2.2.2] ((laws_toEngine_m x0).Ledger)]) (C := fun g => z39 = [g.1, .int .i64 ((laws_toEngine_m x0).Store.Now), .int .i64 ((laws_toEngine_m x0).Cursor), g.2.1, g.2.2.1, g.2.2.2.1, g.2.2.2.2, .int .i64 ((laws_toEngine_m x0).Steps)]) (fun _ _ h => tyEngine_split h) ?_
    rintro ⟨v40, v41, v42, v43, v44⟩ rfl
    refine WM_form (n := 0) rfl ?_
    rintro A45 c46 rfl m47
    refine WM_form (n := 1) rfl ?_
    rintro A49 c50 rfl m51
    refine WM_form (n := 2) rfl ?_
    rintro A53 c54 rfl m55
    refine WM_form (n := 3) rfl ?_
    rintro A57 c58 rfl m59
    refine WM_form (n := 4) rfl ?_
    rintro A61 c62 rfl m63
    refine wm ?_
    refine WM_callV (cl_fn cb59 rfl) (fun W hm => spec_IsAwake_c W _ (laws_toEngine_m x0) x1 (tyEngine_mk (x := (laws_toEngine_m x0)) (hm.rdSI (n := 0) rfl) (hm.rdSI (n := 1) rfl) (hm.rdSI (n := 2) rfl) (hm.rdSI (n := 3) rfl) (hm.rdSI (n := 4) rfl)) (by rw [laws_toEngine_eq]; exact (smEngine_wt (by omega)))) (Wd_none rfl) (by decide) ?_
    refine wa ?_
    refine nt' ?_
    refine CM_seq ?_
    refine CM_items (fun W hm => (hm.pick [5] (by decide))) ?_
    refine CM_region ?_
    refine wv (fun W hm => rv_loadN (cs := [.slice A12 x0.Store.Segments.length c13, .int .i64 x0.Store.Now, .int .i64 x0.Cursor, .slice A17 x0.Order.length c18, .slice A22 x0.Active.length c23, .slice A27 x0.Done.length c28, .slice A32 x0.Ledger.length c33, .int .i64 x0.Steps]) Try.underlying70 Try.type70 rfl rfl (hm.boxCells (n := 0) rfl)) ?_
    refine WM_call (χ := List Value) (val := fun x => .agg x.toArray) (js := fun x => [iOwn tyEngine x (laws_toEngine_m x0)]) (cl_fn cb44 rfl) (fun W hm => laws_toEngine_c W _ x0 (tyLEngine_mk (x := x0) (hm.rdS0 r15) (hm.rdS0 r20) (hm.rdS0 r25) (hm.rdS0 r30) (hm.rdS0 r35)) (smEngine_wt (by omega))) (Wd_none rfl) (by decide) (fun z65 => ?_)
    refine WM_split (γ := Value × Value × Value × Value × Value) (js := fun g => [iOwn (tSl (tSl tyVersion 51) 102) [g.1] ((laws_toEngine_m x0).Store.Segments), iOwn (tSl tInt 3) [g.2.1] ((laws_toEngine_m x0).Order), iOwn (tSl tyActive 127) [g.2.2.1] ((laws_toEngine_m x0).Active), iOwn (tSl tyFinished 136) [g.2.2.2.1] ((laws_toEngine_m x0).Done), iOwn (tSl tyCharge 140) [g.2.2.2.2] ((laws_toEngine_m x0).Ledger)]) (C := fun g => z65 = [g.1, .int .i64 ((laws_toEngine_m x0).Store.Now), .int .i64 ((laws_toEngine_m x0).Cursor), g.2.1, g.2.2.1, g.2.2.2.1, g.2.2.2.2, .int .i64 ((laws_toEngine_m x0).Steps)]) (fun _ _ h => tyEngine_split h) ?_
    rintro ⟨v66, v67, v68, v69, v70⟩ rfl
    refine WM_form (n := 0) rfl ?_
    rintro A71 c72 rfl m73
    refine WM_form (n := 1) rfl ?_
    rintro A75 c76 rfl m77
    refine WM_form (n := 2) rfl ?_
    rintro A79 c80 rfl m81
    refine WM_form (n := 3) rfl ?_
    rintro A83 c84 rfl m85
    refine WM_form (n := 4) rfl ?_
    rintro A87 c88 rfl m89
    refine WM_alloc Try.type77 rfl (Wd_none rfl) (by decide) (fun p91 => ?_)
    refine WM_storeBox (p := p91) (o := 0) (cs := [.slice none 0 0, .int .i64 0, .int .i64 0, .slice none 0 0, .slice none 0 0, .slice none 0 0, .slice none 0 0, .int .i64 0]) (cs' := [.slice A71 ((laws_toEngine_m x0).Store.Segments).length c72, .int .i64 ((laws_toEngine_m x0).Store.Now), .int .i64 ((laws_toEngine_m x0).Cursor), .slice A75 ((laws_toEngine_m x0).Order).length c76, .slice A79 ((laws_toEngine_m x0).Active).length c80, .slice A83 ((laws_toEngine_m x0).Done).length c84, .slice A87 ((laws_toEngine_m x0).Ledger).length c88, .int .i64 ((laws_toEngine_m x0).Steps)]) (js := [iOwn (tSl (tSl tyVersion 51) 102) [.slice A71 ((laws_toEngine_m x0).Store.Segments).length c72] ((laws_toEngine_m x0).Store.Segments), iOwn (tSl tInt 3) [.slice A75 ((laws_toEngine_m x0).Order).length c76] ((laws_toEngine_m x0).Order), iOwn (tSl tyActive 127) [.slice A79 ((laws_toEngine_m x0).Active).length c80] ((laws_toEngine_m x0).Active), iOwn (tSl tyFinished 136) [.slice A83 ((laws_toEngine_m x0).Done).length c84] ((laws_toEngine_m x0).Done), iOwn (tSl tyCharge 140) [.slice A87 ((laws_toEngine_m x0).Ledger).length c88] ((laws_toEngine_m x0).Ledger), iBox p36 70 [.slice A12 x0.Store.Segments.length c13, .int .i64 x0.Store.Now, .int .i64 x0.Cursor, .slice A17 x0.Order.length c18, .slice A22 x0.Active.length c23, .slice A27 x0.Done.length c28, .slice A32 x0.Ledger.length c33, .int .i64 x0.Steps]]) (fun W hm => hm) Try.type77 rfl (Nat.le_of_ble_eq_true rfl) rfl rfl rfl rfl (Wd_none rfl) ?_
    refine nt' ?_
    refine sr ?_
    refine wv (fun W hm => rv_loadN (cs := [.slice A71 ((laws_toEngine_m x0).Store.Segments).length c72, .int .i64 ((laws_toEngine_m x0).Store.Now), .int .i64 ((laws_toEngine_m x0).Cursor), .slice A75 ((laws_toEngine_m x0).Order).length c76, .slice A79 ((laws_toEngine_m x0).Active).length c80, .slice A83 ((laws_toEngine_m x0).Done).length c84, .slice A87 ((laws_toEngine_m x0).Ledger).length c88, .int .i64 ((laws_toEngine_m x0).Steps)]) Try.underlying77 Try.type77 rfl rfl (hm.boxCells (n := 0) rfl)) ?_
    refine wm ?_
    refine WM_callV (cl_fn cb60 rfl) (fun W hm => impl_IsAwake_c W _ (laws_toEngine_m x0) x1 (tyEngine_mk (x := (laws_toEngine_m x0)) (hm.rdSI (n := 1) rfl) (hm.rdSI (n := 2) rfl) (hm.rdSI (n := 3) rfl) (hm.rdSI (n := 4) rfl) (hm.rdSI (n := 5) rfl)) (by rw [laws_toEngine_eq]; exact (smEngine_wt (by omega)))) (Wd_none rfl) (by decide) ?_
    refine wa ?_
    refine nt' ?_
    refine CM_seq ?_
    refine sr ?_
    refine wm ?_
    refine wm ?_
    refine wv (fun W hm => rv_neqB Try.underlying4 rfl rfl) ?_
    refine nt' ?_
    rcases Bool.eq_false_or_eq_true ((impl_IsAwake_m (laws_toEngine_m x0) x1) != (spec_IsAwake_m (laws_toEngine_m x0) x1)) with g93 | g93
    ·
      refine CM_condT rfl g93 ?_
      refine CM_seq ?_
      refine CM_items (fun W hm => (hm.pick [] (by decide))) ?_
      refine CM_region ?_
      refine wa ?_
      refine nt' ?_
      refine CM_ret ?_
      refine QM_then_ret ?_
      exact QM_ret1 rfl rfl (fun W hm => ⟨ret_b (show laws_FnExactIsAwake_m x0 x1 = false from by unfold laws_FnExactIsAwake_m; exact cond_f g38 (cond_t g93 (rfl))), hm.below⟩)
    ·
      refine CM_condF rfl g93 ?_
      refine CM_skip ?_
      refine QM_then ?_
      refine CM_seq ?_
      refine CM_seq ?_
      refine CM_regionB (n := 5) (listed := #[false, false, false, false, false]) (s := [iBox p91 77 [.slice A71 ((laws_toEngine_m x0).Store.Segments).length c72, .int .i64 ((laws_toEngine_m x0).Store.Now), .int .i64 ((laws_toEngine_m x0).Cursor), .slice A75 ((laws_toEngine_m x0).Order).length c76, .slice A79 ((laws_toEngine_m x0).Active).length c80, .slice A83 ((laws_toEngine_m x0).Done).length c84, .slice A87 ((laws_toEngine_m x0).Ledger).length c88, .int .i64 ((laws_toEngine_m x0).Steps)], iOwn (tSl (tSl tyVersion 51) 102) [.slice A71 ((laws_toEngine_m x0).Store.Segments).length c72] ((laws_toEngine_m x0).Store.Segments), iOwn (tSl tInt 3) [.slice A75 ((laws_toEngine_m x0).Order).length c76] ((laws_toEngine_m x0).Order), iOwn (tSl tyActive 127) [.slice A79 ((laws_toEngine_m x0).Active).length c80] ((laws_toEngine_m x0).Active), iOwn (tSl tyFinished 136) [.slice A83 ((laws_toEngine_m x0).Done).length c84] ((laws_toEngine_m x0).Done), iOwn (tSl tyCharge 140) [.slice A87 ((laws_toEngine_m x0).Ledger).length c88] ((laws_toEngine_m x0).Ledger), iBox p36 70 [.slice A12 x0.Store.Segments.length c13, .int .i64 x0.Store.Now, .int .i64 x0.Cursor, .slice A17 x0.Order.length c18, .slice A22 x0.Active.length c23, .slice A27 x0.Done.length c28, .slice A32 x0.Ledger.length c33, .int .i64 x0.Steps]]) (by kernel_rfl) rfl (by kernel_rfl) (fun W hm => hm) ?_
      refine QB_take 0 (listed' := #[true, false, false, false, false]) (by kernel_rfl) rfl (by kernel_rfl) (by kernel_rfl) (by kernel_rfl) (fun _ _ _ h => h) (fun W hm => rv_loadN (cs := [.slice A71 ((laws_toEngine_m x0).Store.Segments).length c72, .int .i64 ((laws_toEngine_m x0).Store.Now), .int .i64 ((laws_toEngine_m x0).Cursor), .slice A75 ((laws_toEngine_m x0).Order).length c76, .slice A79 ((laws_toEngine_m x0).Active).length c80, .slice A83 ((laws_toEngine_m x0).Done).length c84, .slice A87 ((laws_toEngine_m x0).Ledger).length c88, .int .i64 ((laws_toEngine_m x0).Steps)]) Try.underlying77 Try.type77 rfl rfl (hm.boxCells (n := 0) rfl)) (Wd_none rfl) rfl (by decide) ?_
      refine QB_take 1 (listed' := #[true, true, false, false, false]) (by kernel_rfl) rfl (by kernel_rfl) (by kernel_rfl) (by kernel_rfl) (fun _ _ _ h => h) (fun W hm => rv_loadN (cs := [.slice A12 x0.Store.Segments.length c13, .int .i64 x0.Store.Now, .int .i64 x0.Cursor, .slice A17 x0.Order.length c18, .slice A22 x0.Active.length c23, .slice A27 x0.Done.length c28, .slice A32 x0.Ledger.length c33, .int .i64 x0.Steps]) Try.underlying70 Try.type70 rfl rfl (hm.boxCells (n := 6) rfl)) (Wd_none rfl) rfl (by decide) ?_
      refine QB_one 2 (listed' := #[true, true, true, false, false]) (by kernel_rfl) rfl (by kernel_rfl) ?_
      refine WM_call (χ := List Value) (val := fun x => .agg x.toArray) (js := fun x => [iOwn tyEngine x (laws_toEngine_m x0)]) (cl_fn cb44 rfl) (fun W hm => laws_toEngine_c W _ x0 (tyLEngine_mk (x := x0) (hm.rdS0 r15) (hm.rdS0 r20) (hm.rdS0 r25) (hm.rdS0 r30) (hm.rdS0 r35)) (smEngine_wt (by omega))) (Wd_none rfl) (by decide) (fun z94 => ?_)
      refine WM_split (γ := Value × Value × Value × Value × Value) (js := fun g => [iOwn (tSl (tSl tyVersion 51) 102) [g.1] ((laws_toEngine_m x0).Store.Segments), iOwn (tSl tInt 3) [g.2.1] ((laws_toEngine_m x0).Order), iOwn (tSl tyActive 127) [g.2.2.1] ((laws_toEngine_m x0).Active), iOwn (tSl tyFinished 136) [g.2.2.2.1] ((laws_toEngine_m x0).Done), iOwn (tSl tyCharge 140) [g.2.2.2.2] ((laws_toEngine_m x0).Ledger)]) (C := fun g => z94 = [g.1, .int .i64 ((laws_toEngine_m x0).Store.Now), .int .i64 ((laws_toEngine_m x0).Cursor), g.2.1, g.2.2.1, g.2.2.2.1, g.2.2.2.2, .int .i64 ((laws_toEngine_m x0).Steps)]) (fun _ _ h => tyEngine_split h) ?_
      rintro ⟨v95, v96, v97, v98, v99⟩ rfl
      refine WM_form (n := 0) rfl ?_
      rintro A100 c101 rfl m102
      refine WM_form (n := 1) rfl ?_
      rintro A104 c105 rfl m106
      refine WM_form (n := 2) rfl ?_
      rintro A108 c109 rfl m110
      refine WM_form (n := 3) rfl ?_
      rintro A112 c113 rfl m114
      refine WM_form (n := 4) rfl ?_
      rintro A116 c117 rfl m118
      refine WM_nil ?_
      refine QB_next (fun W hm => (hm.pick [5, 6, 7, 8, 9, 10, 11] (by decide))) ?_
      refine QB_one 3 (listed' := #[true, true, true, true, false]) (by kernel_rfl) rfl (by kernel_rfl) ?_
      refine WM_callV (cl_fn cb46 rfl) (fun W hm => laws_eqEngine_c W _ (laws_toEngine_m x0) _ (laws_toEngine_m x0) (tyEngine_mk (x := (laws_toEngine_m x0)) (hm.rdSI (n := 6) rfl) (hm.rdSI (n := 7) rfl) (hm.rdSI (n := 8) rfl) (hm.rdSI (n := 9) rfl) (hm.rdSI (n := 10) rfl)) (tyEngine_mk (x := (laws_toEngine_m x0)) (hm.rdSI (n := 0) rfl) (hm.rdSI (n := 1) rfl) (hm.rdSI (n := 2) rfl) (hm.rdSI (n := 3) rfl) (hm.rdSI (n := 4) rfl))) (Wd_none rfl) (by decide) ?_
      refine WM_nil ?_
      refine QB_next (fun W hm => (hm.pick [5, 6, 7, 8, 9, 10, 11] (by decide))) ?_
      refine QB_take 4 (listed' := #[true, true, true, true, true]) (by kernel_rfl) rfl (by kernel_rfl) (by kernel_rfl) (by kernel_rfl) (fun _ _ _ h => h) (fun W hm => rv_not rfl) (Wd_none rfl) rfl (by decide) ?_
      refine QB_done (by kernel_rfl) ?_
      refine QM_then ?_
      rcases Bool.eq_false_or_eq_true (laws_eqEngine_m (laws_toEngine_m x0) (laws_toEngine_m x0)) with g121 | g121
      ·
        refine CM_condF rfl (nt g121) ?_
        refine CM_skip ?_
        refine QM_then ?_
        refine CM_seq ?_
        refine CM_items (fun W hm => (hm.pick [] (by decide))) ?_
        refine CM_region ?_
        refine wa ?_
        refine nt' ?_
        refine CM_ret ?_
        exact QM_ret1 rfl rfl (fun W hm => ⟨ret_b (show laws_FnExactIsAwake_m x0 x1 = true from by unfold laws_FnExactIsAwake_m; exact cond_f g38 (cond_f g93 (cond_t g121 (rfl)))), hm.below⟩)
      ·
        refine CM_condT rfl (nf g121) ?_
        refine CM_seq ?_
        refine CM_items (fun W hm => (hm.pick [] (by decide))) ?_
        refine CM_region ?_
        refine wa ?_
        refine nt' ?_
        refine CM_ret ?_
        refine QM_then_ret ?_
        exact QM_ret1 rfl rfl (fun W hm => ⟨ret_b (show laws_FnExactIsAwake_m x0 x1 = false from by unfold laws_FnExactIsAwake_m; exact cond_f g38 (cond_f g93 (cond_f g121 (rfl)))), hm.below⟩)

end Go.Proofs.Ytfjhiegahdknmaa
