/-
  The contract of the law.
-/
import Derived.Test.YtfjhiegahdknmaaL7Pl
namespace Go.Proofs.Ytfjhiegahdknmaa
open Go.RowKit
def laws_FnExactEqualEngines_m (x0 : DEngine) (x1 : DEngine) : Bool :=
  cond (decide ((laws_szEngine_m x0 1048576) < 0)) true (cond (decide ((laws_szEngine_m x1 (laws_szEngine_m x0 1048576)) < 0)) true (cond ((impl_EqualEngines_m (laws_toEngine_m x0) (laws_toEngine_m x1)) != (spec_EqualEngines_m (laws_toEngine_m x0) (laws_toEngine_m x1))) false (cond (laws_eqEngine_m (laws_toEngine_m x0) (laws_toEngine_m x0)) (cond (laws_eqEngine_m (laws_toEngine_m x1) (laws_toEngine_m x1)) true false) false)))
set_option maxRecDepth 100000 in
theorem cb7 : Cb Try.prog 7 := ⟨Try.f7, _, Try.func7, rfl, by decide⟩
set_option maxRecDepth 10000 in
set_option maxHeartbeats 4000000 in
theorem laws_FnExactEqualEngines_c (w : World) (z0 : List Value) (x0 : DEngine) (z1 : List Value) (x1 : DEngine) (r_0 : tyLEngine.rd w w.heap.size z0 x0) (r_1 : tyLEngine.rd w w.heap.size z1 x1) :
    Calls Try.prog 7 #[.agg z0.toArray, .agg z1.toArray] w fun e w' => e = .returned (.bool (laws_FnExactEqualEngines_m x0 x1)) ∧ Below w.heap.size w w' := by
  have ok0 := (tyLEngine_sm r_0)
  have ok1 := (tyLEngine_sm r_1)
  obtain ⟨v1, v3, v5, v7, v9, rfl, r2, r4, r6, r8, r10⟩ := tyLEngine_rd r_0
  have r15 := r2
  obtain ⟨m11, A12, c13, rfl, q14⟩ := r2
  have r20 := r4
  obtain ⟨m16, A17, c18, rfl, q19⟩ := r4
  have r25 := r6
  obtain ⟨m21, A22, c23, rfl, q24⟩ := r6
  have r30 := r8
  obtain ⟨m26, A27, c28, rfl, q29⟩ := r8
  have r35 := r10
  obtain ⟨m31, A32, c33, rfl, q34⟩ := r10
  obtain ⟨v36, v38, v40, v42, v44, rfl, r37, r39, r41, r43, r45⟩ := tyLEngine_rd r_1
  have r50 := r37
  obtain ⟨m46, A47, c48, rfl, q49⟩ := r37
  have r55 := r39
  obtain ⟨m51, A52, c53, rfl, q54⟩ := r39
  have r60 := r41
  obtain ⟨m56, A57, c58, rfl, q59⟩ := r41
  have r65 := r43
  obtain ⟨m61, A62, c63, rfl, q64⟩ := r43
  have r70 := r45
  obtain ⟨m66, A67, c68, rfl, q69⟩ := r45
  refine call_enterM (L := [(0, .agg #[.slice A12 x0.Store.Segments.length c13, .int .i64 x0.Store.Now, .int .i64 x0.Cursor, .slice A17 x0.Order.length c18, .slice A22 x0.Active.length c23, .slice A27 x0.Done.length c28, .slice A32 x0.Ledger.length c33, .int .i64 x0.Steps]), (1, .agg #[.slice A47 x1.Store.Segments.length c48, .int .i64 x1.Store.Now, .int .i64 x1.Cursor, .slice A52 x1.Order.length c53, .slice A57 x1.Active.length c58, .slice A62 x1.Done.length c63, .slice A67 x1.Ledger.length c68, .int .i64 x1.Steps])]) (N := 45) Try.func7 rfl rfl (Nat.le_of_ble_eq_true rfl) (argsL_cons rfl (argsL_cons rfl argsL_nil)) ?_
  refine sr ?_
  refine WM_box rfl (Wd_none rfl) (by decide) (fun p71 => ?_)
  refine WM_box rfl (Wd_none rfl) (by decide) (fun p72 => ?_)
  refine wa ?_
  refine nt' ?_
  refine sr ?_
  refine wa ?_
  refine nt' ?_
  refine sr ?_
  refine wv (fun W hm => rv_loadN (cs := [.slice A12 x0.Store.Segments.length c13, .int .i64 x0.Store.Now, .int .i64 x0.Cursor, .slice A17 x0.Order.length c18, .slice A22 x0.Active.length c23, .slice A27 x0.Done.length c28, .slice A32 x0.Ledger.length c33, .int .i64 x0.Steps]) Try.underlying70 Try.type70 rfl rfl (hm.boxCells (n := 1) rfl)) ?_
  refine wm ?_
  refine WM_callV (cl_fn cb42 rfl) (fun W hm => laws_szEngine_c W _ x0 1048576 (tyLEngine_mk (x := x0) (hm.rdS0 r15) (hm.rdS0 r20) (hm.rdS0 r25) (hm.rdS0 r30) (hm.rdS0 r35))) (Wd_none rfl) (by decide) ?_
  refine wa ?_
  refine nt' ?_
  refine CM_seq ?_
  refine sr ?_
  refine wm ?_
  refine wv (fun W hm => rv_lss rfl rfl) ?_
  refine nt' ?_
  by_cases h73 : (laws_szEngine_m x0 1048576) < 0
  · have g74 : (decide ((laws_szEngine_m x0 1048576) < 0)) = true := decide_eq_true h73
    refine CM_condT rfl g74 ?_
    refine sr ?_
    refine wa ?_
    refine nt' ?_
    refine CM_ret ?_
    refine QM_then_ret ?_
    exact QM_ret1 rfl rfl (fun W hm => ⟨ret_b (show laws_FnExactEqualEngines_m x0 x1 = true from by unfold laws_FnExactEqualEngines_m; exact cond_t g74 (rfl)), hm.below⟩)
  · have g74 : (decide ((laws_szEngine_m x0 1048576) < 0)) = false := decide_eq_false h73
    obtain ⟨hz0, hy0, hw0⟩ := sz_small laws_szEngine_ok ok0 (by omega) (by omega) g74
    refine CM_condF rfl g74 ?_
    refine CM_skip ?_
    refine QM_then ?_
    refine sr ?_
    refine wv (fun W hm => rv_loadN (cs := [.slice A47 x1.Store.Segments.length c48, .int .i64 x1.Store.Now, .int .i64 x1.Cursor, .slice A52 x1.Order.length c53, .slice A57 x1.Active.length c58, .slice A62 x1.Done.length c63, .slice A67 x1.Ledger.length c68, .int .i64 x1.Steps]) Try.underlying70 Try.type70 rfl rfl (hm.boxCells (n := 0) rfl)) ?_
    refine wm ?_
    refine WM_callV (cl_fn cb42 rfl) (fun W hm => laws_szEngine_c W _ x1 (laws_szEngine_m x0 1048576) (tyLEngine_mk (x := x1) (hm.rdS0 r50) (hm.rdS0 r55) (hm.rdS0 r60) (hm.rdS0 r65) (hm.rdS0 r70))) (Wd_none rfl) (by decide) ?_
    refine wa ?_
    refine nt' ?_
    refine CM_seq ?_
    refine sr ?_
    refine wm ?_
    refine wv (fun W hm => rv_lss rfl rfl) ?_
    refine nt' ?_
    by_cases h75 : (laws_szEngine_m x1 (laws_szEngine_m x0 1048576)) < 0
    · have g76 : (decide ((laws_szEngine_m x1 (laws_szEngine_m x0 1048576)) < 0)) = true := decide_eq_true h75
      refine CM_condT rfl g76 ?_
      refine sr ?_
      refine wa ?_
      refine nt' ?_
      refine CM_ret ?_
      refine QM_then_ret ?_
      exact QM_ret1 rfl rfl (fun W hm => ⟨ret_b (show laws_FnExactEqualEngines_m x0 x1 = true from by unfold laws_FnExactEqualEngines_m; exact cond_f g74 (cond_t g76 (rfl))), hm.below⟩)
    · have g76 : (decide ((laws_szEngine_m x1 (laws_szEngine_m x0 1048576)) < 0)) = false := decide_eq_false h75
      obtain ⟨hz1, hy1, hw1⟩ := sz_small laws_szEngine_ok ok1 (by omega) (by omega) g76
      refine CM_condF rfl g76 ?_
      refine CM_skip ?_
      refine QM_then ?_
      refine CM_seq ?_
      refine CM_regionB (n := 6) (listed := #[false, false, false, false, false, false]) (s := [iBox p72 70 [.slice A47 x1.Store.Segments.length c48, .int .i64 x1.Store.Now, .int .i64 x1.Cursor, .slice A52 x1.Order.length c53, .slice A57 x1.Active.length c58, .slice A62 x1.Done.length c63, .slice A67 x1.Ledger.length c68, .int .i64 x1.Steps], iBox p71 70 [.slice A12 x0.Store.Segments.length c13, .int .i64 x0.Store.Now, .int .i64 x0.Cursor, .slice A17 x0.Order.length c18, .slice A22 x0.Active.length c23, .slice A27 x0.Done.length c28, .slice A32 x0.Ledger.length c33, .int .i64 x0.Steps]]) (by kernel_rfl) rfl (by kernel_rfl) (fun W hm => hm) ?_
      refine QB_take 0 (listed' := #[true, false, false, false, false, false]) (by kernel_rfl) rfl (by kernel_rfl) (by kernel_rfl) (by kernel_rfl) (fun _ _ _ h => h) (fun W hm => rv_loadN (cs := [.slice A12 x0.Store.Segments.length c13, .int .i64 x0.Store.Now, .int .i64 x0.Cursor, .slice A17 x0.Order.length c18, .slice A22 x0.Active.length c23, .slice A27 x0.Done.length c28, .slice A32 x0.Ledger.length c33, .int .i64 x0.Steps]) Try.underlying70 Try.type70 rfl rfl (hm.boxCells (n := 1) rfl)) (Wd_none rfl) rfl (by decide) ?_
      refine QB_take 2 (listed' := #[true, false, true, false, false, false]) (by kernel_rfl) rfl (by kernel_rfl) (by kernel_rfl) (by kernel_rfl) (fun _ _ _ h => h) (fun W hm => rv_loadN (cs := [.slice A47 x1.Store.Segments.length c48, .int .i64 x1.Store.Now, .int .i64 x1.Cursor, .slice A52 x1.Order.length c53, .slice A57 x1.Active.length c58, .slice A62 x1.Done.length c63, .slice A67 x1.Ledger.length c68, .int .i64 x1.Steps]) Try.underlying70 Try.type70 rfl rfl (hm.boxCells (n := 0) rfl)) (Wd_none rfl) rfl (by decide) ?_
      refine QB_one 1 (listed' := #[true, true, true, false, false, false]) (by kernel_rfl) rfl (by kernel_rfl) ?_
      refine WM_call (χ := List Value) (val := fun x => .agg x.toArray) (js := fun x => [iOwn tyEngine x (laws_toEngine_m x0)]) (cl_fn cb44 rfl) (fun W hm => laws_toEngine_c W _ x0 (tyLEngine_mk (x := x0) (hm.rdS0 r15) (hm.rdS0 r20) (hm.rdS0 r25) (hm.rdS0 r30) (hm.rdS0 r35)) (smEngine_wt (by omega))) (Wd_none rfl) (by decide) (fun z77 => ?_)
      refine WM_split (γ := Value × Value × Value × Value × Value) (js := fun g => [iOwn (tSl (tSl tyVersion 51) 102) [g.1] ((laws_toEngine_m x0).Store.Segments), iOwn (tSl tInt 3) [g.2.1] ((laws_toEngine_m x0).Order), iOwn (tSl tyActive 127) [g.2.2.1] ((laws_toEngine_m x0).Active), iOwn (tSl tyFinished 136) [g.2.2.2.1] ((laws_toEngine_m x0).Done), iOwn (tSl tyCharge 140) [g.2.2.2.2] ((laws_toEngine_m x0).Ledger)]) (C := fun g => z77 = [g.1, .int .i64 ((laws_toEngine_m x0).Store.Now), .int .i64 ((laws_toEngine_m x0).Cursor), g.2.1, g.2.2.1, g.2.2.2.1, g.2.2.2.2, .int .i64 ((laws_toEngine_m x0).Steps)]) (fun _ _ h => tyEngine_split h) ?_
      rintro ⟨v78, v79, v80, v81, v82⟩ rfl
      refine WM_form (n := 0) rfl ?_
      rintro A83 c84 rfl m85
      refine WM_form (n := 1) rfl ?_
      rintro A87 c88 rfl m89
      refine WM_form (n := 2) rfl ?_
      rintro A91 c92 rfl m93
      refine WM_form (n := 3) rfl ?_
      rintro A95 c96 rfl m97
      refine WM_form (n := 4) rfl ?_
      rintro A99 c100 rfl m101
      refine WM_nil ?_
      refine QB_next (fun W hm => (hm.pick [5, 6] (by decide))) ?_
      refine QB_one 3 (listed' := #[true, true, true, true, false, false]) (by kernel_rfl) rfl (by kernel_rfl) ?_
      refine WM_call (χ := List Value) (val := fun x => .agg x.toArray) (js := fun x => [iOwn tyEngine x (laws_toEngine_m x1)]) (cl_fn cb44 rfl) (fun W hm => laws_toEngine_c W _ x1 (tyLEngine_mk (x := x1) (hm.rdS0 r50) (hm.rdS0 r55) (hm.rdS0 r60) (hm.rdS0 r65) (hm.rdS0 r70)) (smEngine_wt (by omega))) (Wd_none rfl) (by decide) (fun z103 => ?_)
      refine WM_split (γ := Value × Value × Value × Value × Value) (js := fun g => [iOwn (tSl (tSl tyVersion 51) 102) [g.1] ((laws_toEngine_m x1).Store.Segments), iOwn (tSl tInt 3) [g.2.1] ((laws_toEngine_m x1).Order), iOwn (tSl tyActive 127) [g.2.2.1] ((laws_toEngine_m x1).Active), iOwn (tSl tyFinished 136) [g.2.2.2.1] ((laws_toEngine_m x1).Done), iOwn (tSl tyCharge 140) [g.2.2.2.2] ((laws_toEngine_m x1).Ledger)]) (C := fun g => z103 = [g.1, .int .i64 ((laws_toEngine_m x1).Store.Now), .int .i64 ((laws_toEngine_m x1).Cursor), g.2.1, g.2.2.1, g.2.2.2.1, g.2.2.2.2, .int .i64 ((laws_toEngine_m x1).Steps)]) (fun _ _ h => tyEngine_split h) ?_
      rintro ⟨v104, v105, v106, v107, v108⟩ rfl
      refine WM_form (n := 0) rfl ?_
      rintro A109 c110 rfl m111
      refine WM_form (n := 1) rfl ?_
      rintro A113 c114 rfl m115
      refine WM_form (n := 2) rfl ?_
      rintro A117 c118 rfl m119
      refine WM_form (n := 3) rfl ?_
      rintro A121 c122 rfl m123
      refine WM_form (n := 4) rfl ?_
      rintro A125 c126 rfl m127
      refine WM_nil ?_
      refine QB_next (fun W hm => (hm.pick [10, 11] (by decide))) ?_
      refine QB_one 4 (listed' := #[true, true, true, true, true, false]) (by kernel_rfl) rfl (by kernel_rfl) ?_
      refine WM_callV (cl_fn cb47 rfl) (fun W hm => spec_EqualEngines_c W _ (laws_toEngine_m x0) _ (laws_toEngine_m x1) (tyEngine_mk (x := (laws_toEngine_m x0)) (hm.rdSI (n := 5) rfl) (hm.rdSI (n := 6) rfl) (hm.rdSI (n := 7) rfl) (hm.rdSI (n := 8) rfl) (hm.rdSI (n := 9) rfl)) (tyEngine_mk (x := (laws_toEngine_m x1)) (hm.rdSI (n := 0) rfl) (hm.rdSI (n := 1) rfl) (hm.rdSI (n := 2) rfl) (hm.rdSI (n := 3) rfl) (hm.rdSI (n := 4) rfl))) (Wd_none rfl) (by decide) ?_
      refine WM_nil ?_
      refine QB_next (fun W hm => (hm.pick [10, 11] (by decide))) ?_
      refine QB_take 5 (listed' := #[true, true, true, true, true, true]) (by kernel_rfl) rfl (by kernel_rfl) (by kernel_rfl) (by kernel_rfl) (fun _ _ _ h => h) (fun W hm => rv_assign rfl) (Wd_none rfl) rfl (by decide) ?_
      refine QB_done (by kernel_rfl) ?_
      refine QM_then ?_
      refine CM_seq ?_
      refine CM_items (fun W hm => (hm.pick [10, 11] (by decide))) ?_
      refine CM_region ?_
      refine wv (fun W hm => rv_loadN (cs := [.slice A12 x0.Store.Segments.length c13, .int .i64 x0.Store.Now, .int .i64 x0.Cursor, .slice A17 x0.Order.length c18, .slice A22 x0.Active.length c23, .slice A27 x0.Done.length c28, .slice A32 x0.Ledger.length c33, .int .i64 x0.Steps]) Try.underlying70 Try.type70 rfl rfl (hm.boxCells (n := 1) rfl)) ?_
      refine WM_call (χ := List Value) (val := fun x => .agg x.toArray) (js := fun x => [iOwn tyEngine x (laws_toEngine_m x0)]) (cl_fn cb44 rfl) (fun W hm => laws_toEngine_c W _ x0 (tyLEngine_mk (x := x0) (hm.rdS0 r15) (hm.rdS0 r20) (hm.rdS0 r25) (hm.rdS0 r30) (hm.rdS0 r35)) (smEngine_wt (by omega))) (Wd_none rfl) (by decide) (fun z129 => ?_)
      refine WM_split (γ := Value × Value × Value × Value × Value) (js := fun g => [iOwn (tSl (tSl tyVersion 51) 102) [g.1] ((laws_toEngine_m x0).Store.Segments), iOwn (tSl tInt 3) [g.2.1] ((laws_toEngine_m x0).Order), iOwn (tSl tyActive 127) [g.2.2.1] ((laws_toEngine_m x0).Active), iOwn (tSl tyFinished 136) [g.2.2.2.1] ((laws_toEngine_m x0).Done), iOwn (tSl tyCharge 140) [g.2.2.2.2] ((laws_toEngine_m x0).Ledger)]) (C := fun g => z129 = [g.1, .int .i64 ((laws_toEngine_m x0).Store.Now), .int .i64 ((laws_toEngine_m x0).Cursor), g.2.1, g.2.2.1, g.2.2.2.1, g.2.2.2.2, .int .i64 ((laws_toEngine_m x0).Steps)]) (fun _ _ h => tyEngine_split h) ?_
      rintro ⟨v130, v131, v132, v133, v134⟩ rfl
      refine WM_form (n := 0) rfl ?_
      rintro A135 c136 rfl m137
      refine WM_form (n := 1) rfl ?_
      rintro A139 c140 rfl m141
      refine WM_form (n := 2) rfl ?_
      rintro A143 c144 rfl m145
      refine WM_form (n := 3) rfl ?_
      rintro A147 c148 rfl m149
      refine WM_form (n := 4) rfl ?_
      rintro A151 c152 rfl m153
      refine WM_alloc Try.type77 rfl (Wd_none rfl) (by decide) (fun p155 => ?_)
      refine WM_storeBox (p := p155) (o := 0) (cs := [.slice none 0 0, .int .i64 0, .int .i64 0, .slice none 0 0, .slice none 0 0, .slice none 0 0, .slice none 0 0, .int .i64 0]) (cs' := [.slice A135 ((laws_toEngine_m x0).Store.Segments).length c136, .int .i64 ((laws_toEngine_m x0).Store.Now), .int .i64 ((laws_toEngine_m x0).Cursor), .slice A139 ((laws_toEngine_m x0).Order).length c140, .slice A143 ((laws_toEngine_m x0).Active).length c144, .slice A147 ((laws_toEngine_m x0).Done).length c148, .slice A151 ((laws_toEngine_m x0).Ledger).length c152, .int .i64 ((laws_toEngine_m x0).Steps)]) (js := [iOwn (tSl (tSl tyVersion 51) 102) [.slice A135 ((laws_toEngine_m x0).Store.Segments).length c136] ((laws_toEngine_m x0).Store.Segments), iOwn (tSl tInt 3) [.slice A139 ((laws_toEngine_m x0).Order).length c140] ((laws_toEngine_m x0).Order), iOwn (tSl tyActive 127) [.slice A143 ((laws_toEngine_m x0).Active).length c144] ((laws_toEngine_m x0).Active), iOwn (tSl tyFinished 136) [.slice A147 ((laws_toEngine_m x0).Done).length c148] ((laws_toEngine_m x0).Done), iOwn (tSl tyCharge 140) [.slice A151 ((laws_toEngine_m x0).Ledger).length c152] ((laws_toEngine_m x0).Ledger), iBox p72 70 [.slice A47 x1.Store.Segments.length c48, .int .i64 x1.Store.Now, .int .i64 x1.Cursor, .slice A52 x1.Order.length c53, .slice A57 x1.Active.length c58, .slice A62 x1.Done.length c63, .slice A67 x1.Ledger.length c68, .int .i64 x1.Steps], iBox p71 70 [.slice A12 x0.Store.Segments.length c13, .int .i64 x0.Store.Now, .int .i64 x0.Cursor, .slice A17 x0.Order.length c18, .slice A22 x0.Active.length c23, .slice A27 x0.Done.length c28, .slice A32 x0.Ledger.length c33, .int .i64 x0.Steps]]) (fun W hm => hm) Try.type77 rfl (Nat.le_of_ble_eq_true rfl) rfl rfl rfl rfl (Wd_none rfl) ?_
      refine nt' ?_
      refine sr ?_
      refine wv (fun W hm => rv_loadN (cs := [.slice A47 x1.Store.Segments.length c48, .int .i64 x1.Store.Now, .int .i64 x1.Cursor, .slice A52 x1.Order.length c53, .slice A57 x1.Active.length c58, .slice A62 x1.Done.length c63, .slice A67 x1.Ledger.length c68, .int .i64 x1.Steps]) Try.underlying70 Try.type70 rfl rfl (hm.boxCells (n := 6) rfl)) ?_
      refine WM_call (χ := List Value) (val := fun x => .agg x.toArray) (js := fun x => [iOwn tyEngine x (laws_toEngine_m x1)]) (cl_fn cb44 rfl) (fun W hm => laws_toEngine_c W _ x1 (tyLEngine_mk (x := x1) (hm.rdS0 r50) (hm.rdS0 r55) (hm.rdS0 r60) (hm.rdS0 r65) (hm.rdS0 r70)) (smEngine_wt (by omega))) (Wd_none rfl) (by decide) (fun z156 => ?_)
      refine WM_split (γ := Value × Value × Value × Value × Value) (js := fun g => [iOwn (tSl (tSl tyVersion 51) 102) [g.1] ((laws_toEngine_m x1).Store.Segments), iOwn (tSl tInt 3) [g.2.1] ((laws_toEngine_m x1).Order), iOwn (tSl tyActive 127) [g.2.2.1] ((laws_toEngine_m x1).Active), iOwn (tSl tyFinished 136) [g.2.2.2.1] ((laws_toEngine_m x1).Done), iOwn (tSl tyCharge 140) [g.2.2.2.2] ((laws_toEngine_m x1).Ledger)]) (C := fun g => z156 = [g.1, .int .i64 ((laws_toEngine_m x1).Store.Now), .int .i64 ((laws_toEngine_m x1).Cursor), g.2.1, g.2.2.1, g.2.2.2.1, g.2.2.2.2, .int .i64 ((laws_toEngine_m x1).Steps)]) (fun _ _ h => tyEngine_split h) ?_
      rintro ⟨v157, v158, v159, v160, v161⟩ rfl
      refine WM_form (n := 0) rfl ?_
      rintro A162 c163 rfl m164
      refine WM_form (n := 1) rfl ?_
      rintro A166 c167 rfl m168
      refine WM_form (n := 2) rfl ?_
      rintro A170 c171 rfl m172
      refine WM_form (n := 3) rfl ?_
      rintro A174 c175 rfl m176
      refine WM_form (n := 4) rfl ?_
      rintro A178 c179 rfl m180
      refine WM_alloc Try.type77 rfl (Wd_none rfl) (by decide) (fun p182 => ?_)
      refine WM_storeBox (p := p182) (o := 0) (cs := [.slice none 0 0, .int .i64 0, .int .i64 0, .slice none 0 0, .slice none 0 0, .slice none 0 0, .slice none 0 0, .int .i64 0]) (cs' := [.slice A162 ((laws_toEngine_m x1).Store.Segments).length c163, .int .i64 ((laws_toEngine_m x1).Store.Now), .int .i64 ((laws_toEngine_m x1).Cursor), .slice A166 ((laws_toEngine_m x1).Order).length c167, .slice A170 ((laws_toEngine_m x1).Active).length c171, .slice A174 ((laws_toEngine_m x1).Done).length c175, .slice A178 ((laws_toEngine_m x1).Ledger).length c179, .int .i64 ((laws_toEngine_m x1).Steps)]) (js := [iOwn (tSl (tSl tyVersion 51) 102) [.slice A162 ((laws_toEngine_m x1).Store.Segments).length c163] ((laws_toEngine_m x1).Store.Segments), iOwn (tSl tInt 3) [.slice A166 ((laws_toEngine_m x1).Order).length c167] ((laws_toEngine_m x1).Order), iOwn (tSl tyActive 127) [.slice A170 ((laws_toEngine_m x1).Active).length c171] ((laws_toEngine_m x1).Active), iOwn (tSl tyFinished 136) [.slice A174 ((laws_toEngine_m x1).Done).length c175] ((laws_toEngine_m x1).Done), iOwn (tSl tyCharge 140) [.slice A178 ((laws_toEngine_m x1).Ledger).length c179] ((laws_toEngine_m x1).Ledger), iBox p155 77 [.slice A135 ((laws_toEngine_m x0).Store.Segments).length c136, .int .i64 ((laws_toEngine_m x0).Store.Now), .int .i64 ((laws_toEngine_m x0).Cursor), .slice A139 ((laws_toEngine_m x0).Order).length c140, .slice A143 ((laws_toEngine_m x0).Active).length c144, .slice A147 ((laws_toEngine_m x0).Done).length c148, .slice A151 ((laws_toEngine_m x0).Ledger).length c152, .int .i64 ((laws_toEngine_m x0).Steps)], iOwn (tSl (tSl tyVersion 51) 102) [.slice A135 ((laws_toEngine_m x0).Store.Segments).length c136] ((laws_toEngine_m x0).Store.Segments), iOwn (tSl tInt 3) [.slice A139 ((laws_toEngine_m x0).Order).length c140] ((laws_toEngine_m x0).Order), iOwn (tSl tyActive 127) [.slice A143 ((laws_toEngine_m x0).Active).length c144] ((laws_toEngine_m x0).Active), iOwn (tSl tyFinished 136) [.slice A147 ((laws_toEngine_m x0).Done).length c148] ((laws_toEngine_m x0).Done), iOwn (tSl tyCharge 140) [.slice A151 ((laws_toEngine_m x0).Ledger).length c152] ((laws_toEngine_m x0).Ledger), iBox p72 70 [.slice A47 x1.Store.Segments.length c48, .int .i64 x1.Store.Now, .int .i64 x1.Cursor, .slice A52 x1.Order.length c53, .slice A57 x1.Active.length c58, .slice A62 x1.Done.length c63, .slice A67 x1.Ledger.length c68, .int .i64 x1.Steps], iBox p71 70 [.slice A12 x0.Store.Segments.length c13, .int .i64 x0.Store.Now, .int .i64 x0.Cursor, .slice A17 x0.Order.length c18, .slice A22 x0.Active.length c23, .slice A27 x0.Done.length c28, .slice A32 x0.Ledger.length c33, .int .i64 x0.Steps]]) (fun W hm => hm) Try.type77 rfl (Nat.le_of_ble_eq_true rfl) rfl rfl rfl rfl (Wd_none rfl) ?_
      refine nt' ?_
      refine sr ?_
      refine wv (fun W hm => rv_loadN (cs := [.slice A135 ((laws_toEngine_m x0).Store.Segments).length c136, .int .i64 ((laws_toEngine_m x0).Store.Now), .int .i64 ((laws_toEngine_m x0).Cursor), .slice A139 ((laws_toEngine_m x0).Order).length c140, .slice A143 ((laws_toEngine_m x0).Active).length c144, .slice A147 ((laws_toEngine_m x0).Done).length c148, .slice A151 ((laws_toEngine_m x0).Ledger).length c152, .int .i64 ((laws_toEngine_m x0).Steps)]) Try.underlying77 Try.type77 rfl rfl (hm.boxCells (n := 6) rfl)) ?_
      refine wv (fun W hm => rv_loadN (cs := [.slice A162 ((laws_toEngine_m x1).Store.Segments).length c163, .int .i64 ((laws_toEngine_m x1).Store.Now), .int .i64 ((laws_toEngine_m x1).Cursor), .slice A166 ((laws_toEngine_m x1).Order).length c167, .slice A170 ((laws_toEngine_m x1).Active).length c171, .slice A174 ((laws_toEngine_m x1).Done).length c175, .slice A178 ((laws_toEngine_m x1).Ledger).length c179, .int .i64 ((laws_toEngine_m x1).Steps)]) Try.underlying77 Try.type77 rfl rfl (hm.boxCells (n := 0) rfl)) ?_
      refine WM_callV (cl_fn cb48 rfl) (fun W hm => impl_EqualEngines_c W _ (laws_toEngine_m x0) _ (laws_toEngine_m x1) (tyEngine_mk (x := (laws_toEngine_m x0)) (hm.rdSI (n := 7) rfl) (hm.rdSI (n := 8) rfl) (hm.rdSI (n := 9) rfl) (hm.rdSI (n := 10) rfl) (hm.rdSI (n := 11) rfl)) (tyEngine_mk (x := (laws_toEngine_m x1)) (hm.rdSI (n := 1) rfl) (hm.rdSI (n := 2) rfl) (hm.rdSI (n := 3) rfl) (hm.rdSI (n := 4) rfl) (hm.rdSI (n := 5) rfl))) (Wd_none rfl) (by decide) ?_
      refine wa ?_
      refine nt' ?_
      refine CM_seq ?_
      refine sr ?_
      refine wm ?_
      refine wm ?_
      refine wv (fun W hm => rv_neqB Try.underlying4 rfl rfl) ?_
      refine nt' ?_
      rcases Bool.eq_false_or_eq_true ((impl_EqualEngines_m (laws_toEngine_m x0) (laws_toEngine_m x1)) != (spec_EqualEngines_m (laws_toEngine_m x0) (laws_toEngine_m x1))) with g184 | g184
      ·
        refine CM_condT rfl g184 ?_
        refine CM_seq ?_
        refine CM_items (fun W hm => (hm.pick [] (by decide))) ?_
        refine CM_region ?_
        refine wa ?_
        refine nt' ?_
        refine CM_ret ?_
        refine QM_then_ret ?_
        exact QM_ret1 rfl rfl (fun W hm => ⟨ret_b (show laws_FnExactEqualEngines_m x0 x1 = false from by unfold laws_FnExactEqualEngines_m; exact cond_f g74 (cond_f g76 (cond_t g184 (rfl)))), hm.below⟩)
      ·
        refine CM_condF rfl g184 ?_
        refine CM_skip ?_
        refine QM_then ?_
        refine CM_seq ?_
        refine CM_seq ?_
        refine CM_regionB (n := 5) (listed := #[false, false, false, false, false]) (s := [iBox p182 77 [.slice A162 ((laws_toEngine_m x1).Store.Segments).length c163, .int .i64 ((laws_toEngine_m x1).Store.Now), .int .i64 ((laws_toEngine_m x1).Cursor), .slice A166 ((laws_toEngine_m x1).Order).length c167, .slice A170 ((laws_toEngine_m x1).Active).length c171, .slice A174 ((laws_toEngine_m x1).Done).length c175, .slice A178 ((laws_toEngine_m x1).Ledger).length c179, .int .i64 ((laws_toEngine_m x1).Steps)], iOwn (tSl (tSl tyVersion 51) 102) [.slice A162 ((laws_toEngine_m x1).Store.Segments).length c163] ((laws_toEngine_m x1).Store.Segments), iOwn (tSl tInt 3) [.slice A166 ((laws_toEngine_m x1).Order).length c167] ((laws_toEngine_m x1).Order), iOwn (tSl tyActive 127) [.slice A170 ((laws_toEngine_m x1).Active).length c171] ((laws_toEngine_m x1).Active), iOwn (tSl tyFinished 136) [.slice A174 ((laws_toEngine_m x1).Done).length c175] ((laws_toEngine_m x1).Done), iOwn (tSl tyCharge 140) [.slice A178 ((laws_toEngine_m x1).Ledger).length c179] ((laws_toEngine_m x1).Ledger), iBox p155 77 [.slice A135 ((laws_toEngine_m x0).Store.Segments).length c136, .int .i64 ((laws_toEngine_m x0).Store.Now), .int .i64 ((laws_toEngine_m x0).Cursor), .slice A139 ((laws_toEngine_m x0).Order).length c140, .slice A143 ((laws_toEngine_m x0).Active).length c144, .slice A147 ((laws_toEngine_m x0).Done).length c148, .slice A151 ((laws_toEngine_m x0).Ledger).length c152, .int .i64 ((laws_toEngine_m x0).Steps)], iOwn (tSl (tSl tyVersion 51) 102) [.slice A135 ((laws_toEngine_m x0).Store.Segments).length c136] ((laws_toEngine_m x0).Store.Segments), iOwn (tSl tInt 3) [.slice A139 ((laws_toEngine_m x0).Order).length c140] ((laws_toEngine_m x0).Order), iOwn (tSl tyActive 127) [.slice A143 ((laws_toEngine_m x0).Active).length c144] ((laws_toEngine_m x0).Active), iOwn (tSl tyFinished 136) [.slice A147 ((laws_toEngine_m x0).Done).length c148] ((laws_toEngine_m x0).Done), iOwn (tSl tyCharge 140) [.slice A151 ((laws_toEngine_m x0).Ledger).length c152] ((laws_toEngine_m x0).Ledger), iBox p72 70 [.slice A47 x1.Store.Segments.length c48, .int .i64 x1.Store.Now, .int .i64 x1.Cursor, .slice A52 x1.Order.length c53, .slice A57 x1.Active.length c58, .slice A62 x1.Done.length c63, .slice A67 x1.Ledger.length c68, .int .i64 x1.Steps], iBox p71 70 [.slice A12 x0.Store.Segments.length c13, .int .i64 x0.Store.Now, .int .i64 x0.Cursor, .slice A17 x0.Order.length c18, .slice A22 x0.Active.length c23, .slice A27 x0.Done.length c28, .slice A32 x0.Ledger.length c33, .int .i64 x0.Steps]]) (by kernel_rfl) rfl (by kernel_rfl) (fun W hm => hm) ?_
        refine QB_take 0 (listed' := #[true, false, false, false, false]) (by kernel_rfl) rfl (by kernel_rfl) (by kernel_rfl) (by kernel_rfl) (fun _ _ _ h => h) (fun W hm => rv_loadN (cs := [.slice A135 ((laws_toEngine_m x0).Store.Segments).length c136, .int .i64 ((laws_toEngine_m x0).Store.Now), .int .i64 ((laws_toEngine_m x0).Cursor), .slice A139 ((laws_toEngine_m x0).Order).length c140, .slice A143 ((laws_toEngine_m x0).Active).length c144, .slice A147 ((laws_toEngine_m x0).Done).length c148, .slice A151 ((laws_toEngine_m x0).Ledger).length c152, .int .i64 ((laws_toEngine_m x0).Steps)]) Try.underlying77 Try.type77 rfl rfl (hm.boxCells (n := 6) rfl)) (Wd_none rfl) rfl (by decide) ?_
        refine QB_take 1 (listed' := #[true, true, false, false, false]) (by kernel_rfl) rfl (by kernel_rfl) (by kernel_rfl) (by kernel_rfl) (fun _ _ _ h => h) (fun W hm => rv_loadN (cs := [.slice A12 x0.Store.Segments.length c13, .int .i64 x0.Store.Now, .int .i64 x0.Cursor, .slice A17 x0.Order.length c18, .slice A22 x0.Active.length c23, .slice A27 x0.Done.length c28, .slice A32 x0.Ledger.length c33, .int .i64 x0.Steps]) Try.underlying70 Try.type70 rfl rfl (hm.boxCells (n := 13) rfl)) (Wd_none rfl) rfl (by decide) ?_
        refine QB_one 2 (listed' := #[true, true, true, false, false]) (by kernel_rfl) rfl (by kernel_rfl) ?_
        refine WM_call (χ := List Value) (val := fun x => .agg x.toArray) (js := fun x => [iOwn tyEngine x (laws_toEngine_m x0)]) (cl_fn cb44 rfl) (fun W hm => laws_toEngine_c W _ x0 (tyLEngine_mk (x := x0) (hm.rdS0 r15) (hm.rdS0 r20) (hm.rdS0 r25) (hm.rdS0 r30) (hm.rdS0 r35)) (smEngine_wt (by omega))) (Wd_none rfl) (by decide) (fun z185 => ?_)
        refine WM_split (γ := Value × Value × Value × Value × Value) (js := fun g => [iOwn (tSl (tSl tyVersion 51) 102) [g.1] ((laws_toEngine_m x0).Store.Segments), iOwn (tSl tInt 3) [g.2.1] ((laws_toEngine_m x0).Order), iOwn (tSl tyActive 127) [g.2.2.1] ((laws_toEngine_m x0).Active), iOwn (tSl tyFinished 136) [g.2.2.2.1] ((laws_toEngine_m x0).Done), iOwn (tSl tyCharge 140) [g.2.2.2.2] ((laws_toEngine_m x0).Ledger)]) (C := fun g => z185 = [g.1, .int .i64 ((laws_toEngine_m x0).Store.Now), .int .i64 ((laws_toEngine_m x0).Cursor), g.2.1, g.2.2.1, g.2.2.2.1, g.2.2.2.2, .int .i64 ((laws_toEngine_m x0).Steps)]) (fun _ _ h => tyEngine_split h) ?_
        rintro ⟨v186, v187, v188, v189, v190⟩ rfl
        refine WM_form (n := 0) rfl ?_
        rintro A191 c192 rfl m193
        refine WM_form (n := 1) rfl ?_
        rintro A195 c196 rfl m197
        refine WM_form (n := 2) rfl ?_
        rintro A199 c200 rfl m201
        refine WM_form (n := 3) rfl ?_
        rintro A203 c204 rfl m205
        refine WM_form (n := 4) rfl ?_
        rintro A207 c208 rfl m209
        refine WM_nil ?_
        refine QB_next (fun W hm => (hm.pick [5, 6, 7, 8, 9, 10, 11, 12, 13, 14, 15, 16, 17, 18] (by decide))) ?_
        refine QB_one 3 (listed' := #[true, true, true, true, false]) (by kernel_rfl) rfl (by kernel_rfl) ?_
        refine WM_callV (cl_fn cb46 rfl) (fun W hm => laws_eqEngine_c W _ (laws_toEngine_m x0) _ (laws_toEngine_m x0) (tyEngine_mk (x := (laws_toEngine_m x0)) (hm.rdSI (n := 12) rfl) (hm.rdSI (n := 13) rfl) (hm.rdSI (n := 14) rfl) (hm.rdSI (n := 15) rfl) (hm.rdSI (n := 16) rfl)) (tyEngine_mk (x := (laws_toEngine_m x0)) (hm.rdSI (n := 0) rfl) (hm.rdSI (n := 1) rfl) (hm.rdSI (n := 2) rfl) (hm.rdSI (n := 3) rfl) (hm.rdSI (n := 4) rfl))) (Wd_none rfl) (by decide) ?_
        refine WM_nil ?_
        refine QB_next (fun W hm => (hm.pick [5, 6, 7, 8, 9, 10, 11, 12, 13, 14, 15, 16, 17, 18] (by decide))) ?_
        refine QB_take 4 (listed' := #[true, true, true, true, true]) (by kernel_rfl) rfl (by kernel_rfl) (by kernel_rfl) (by kernel_rfl) (fun _ _ _ h => h) (fun W hm => rv_not rfl) (Wd_none rfl) rfl (by decide) ?_
        refine QB_done (by kernel_rfl) ?_
        refine QM_then ?_
        rcases Bool.eq_false_or_eq_true (laws_eqEngine_m (laws_toEngine_m x0) (laws_toEngine_m x0)) with g212 | g212
        ·
          refine CM_condF rfl (nt g212) ?_
          refine CM_skip ?_
          refine QM_then ?_
          refine CM_seq ?_
          refine CM_seq ?_
          refine CM_items (fun W hm => (hm.pick [5, 6, 7, 8, 9, 10, 17] (by decide))) ?_
          refine CM_regionB (n := 5) (listed := #[false, false, false, false, false]) (s := [iBox p182 77 [.slice A162 ((laws_toEngine_m x1).Store.Segments).length c163, .int .i64 ((laws_toEngine_m x1).Store.Now), .int .i64 ((laws_toEngine_m x1).Cursor), .slice A166 ((laws_toEngine_m x1).Order).length c167, .slice A170 ((laws_toEngine_m x1).Active).length c171, .slice A174 ((laws_toEngine_m x1).Done).length c175, .slice A178 ((laws_toEngine_m x1).Ledger).length c179, .int .i64 ((laws_toEngine_m x1).Steps)], iOwn (tSl (tSl tyVersion 51) 102) [.slice A162 ((laws_toEngine_m x1).Store.Segments).length c163] ((laws_toEngine_m x1).Store.Segments), iOwn (tSl tInt 3) [.slice A166 ((laws_toEngine_m x1).Order).length c167] ((laws_toEngine_m x1).Order), iOwn (tSl tyActive 127) [.slice A170 ((laws_toEngine_m x1).Active).length c171] ((laws_toEngine_m x1).Active), iOwn (tSl tyFinished 136) [.slice A174 ((laws_toEngine_m x1).Done).length c175] ((laws_toEngine_m x1).Done), iOwn (tSl tyCharge 140) [.slice A178 ((laws_toEngine_m x1).Ledger).length c179] ((laws_toEngine_m x1).Ledger), iBox p72 70 [.slice A47 x1.Store.Segments.length c48, .int .i64 x1.Store.Now, .int .i64 x1.Cursor, .slice A52 x1.Order.length c53, .slice A57 x1.Active.length c58, .slice A62 x1.Done.length c63, .slice A67 x1.Ledger.length c68, .int .i64 x1.Steps]]) (by kernel_rfl) rfl (by kernel_rfl) (fun W hm => hm) ?_
          refine QB_take 0 (listed' := #[true, false, false, false, false]) (by kernel_rfl) rfl (by kernel_rfl) (by kernel_rfl) (by kernel_rfl) (fun _ _ _ h => h) (fun W hm => rv_loadN (cs := [.slice A162 ((laws_toEngine_m x1).Store.Segments).length c163, .int .i64 ((laws_toEngine_m x1).Store.Now), .int .i64 ((laws_toEngine_m x1).Cursor), .slice A166 ((laws_toEngine_m x1).Order).length c167, .slice A170 ((laws_toEngine_m x1).Active).length c171, .slice A174 ((laws_toEngine_m x1).Done).length c175, .slice A178 ((laws_toEngine_m x1).Ledger).length c179, .int .i64 ((laws_toEngine_m x1).Steps)]) Try.underlying77 Try.type77 rfl rfl (hm.boxCells (n := 0) rfl)) (Wd_none rfl) rfl (by decide) ?_
          refine QB_take 1 (listed' := #[true, true, false, false, false]) (by kernel_rfl) rfl (by kernel_rfl) (by kernel_rfl) (by kernel_rfl) (fun _ _ _ h => h) (fun W hm => rv_loadN (cs := [.slice A47 x1.Store.Segments.length c48, .int .i64 x1.Store.Now, .int .i64 x1.Cursor, .slice A52 x1.Order.length c53, .slice A57 x1.Active.length c58, .slice A62 x1.Done.length c63, .slice A67 x1.Ledger.length c68, .int .i64 x1.Steps]) Try.underlying70 Try.type70 rfl rfl (hm.boxCells (n := 6) rfl)) (Wd_none rfl) rfl (by decide) ?_
          refine QB_one 2 (listed' := #[true, true, true, false, false]) (by kernel_rfl) rfl (by kernel_rfl) ?_
          refine WM_call (χ := List Value) (val := fun x => .agg x.toArray) (js := fun x => [iOwn tyEngine x (laws_toEngine_m x1)]) (cl_fn cb44 rfl) (fun W hm => laws_toEngine_c W _ x1 (tyLEngine_mk (x := x1) (hm.rdS0 r50) (hm.rdS0 r55) (hm.rdS0 r60) (hm.rdS0 r65) (hm.rdS0 r70)) (smEngine_wt (by omega))) (Wd_none rfl) (by decide) (fun z213 => ?_)
          refine WM_split (γ := Value × Value × Value × Value × Value) (js := fun g => [iOwn (tSl (tSl tyVersion 51) 102) [g.1] ((laws_toEngine_m x1).Store.Segments), iOwn (tSl tInt 3) [g.2.1] ((laws_toEngine_m x1).Order), iOwn (tSl tyActive 127) [g.2.2.1] ((laws_toEngine_m x1).Active), iOwn (tSl tyFinished 136) [g.2.2.2.1] ((laws_toEngine_m x1).Done), iOwn (tSl tyCharge 140) [g.2.2.2.2] ((laws_toEngine_m x1).Ledger)]) (C := fun g => z213 = [g.1, .int .i64 ((laws_toEngine_m x1).Store.Now), .int .i64 ((laws_toEngine_m x1).Cursor), g.2.1, g.2.2.1, g.2.2.2.1, g.2.2.2.2, .int .i64 ((laws_toEngine_m x1).Steps)]) (fun _ _ h => tyEngine_split h) ?_
          rintro ⟨v214, v215, v216, v217, v218⟩ rfl
          refine WM_form (n := 0) rfl ?_
          rintro A219 c220 rfl m221
          refine WM_form (n := 1) rfl ?_
          rintro A223 c224 rfl m225
          refine WM_form (n := 2) rfl ?_
          rintro A227 c228 rfl m229
          refine WM_form (n := 3) rfl ?_
          rintro A231 c232 rfl m233
          refine WM_form (n := 4) rfl ?_
          rintro A235 c236 rfl m237
          refine WM_nil ?_
          refine QB_next (fun W hm => (hm.pick [5, 6, 7, 8, 9, 10, 11] (by decide))) ?_
          refine QB_one 3 (listed' := #[true, true, true, true, false]) (by kernel_rfl) rfl (by kernel_rfl) ?_
          refine WM_callV (cl_fn cb46 rfl) (fun W hm => laws_eqEngine_c W _ (laws_toEngine_m x1) _ (laws_toEngine_m x1) (tyEngine_mk (x := (laws_toEngine_m x1)) (hm.rdSI (n := 6) rfl) (hm.rdSI (n := 7) rfl) (hm.rdSI (n := 8) rfl) (hm.rdSI (n := 9) rfl) (hm.rdSI (n := 10) rfl)) (tyEngine_mk (x := (laws_toEngine_m x1)) (hm.rdSI (n := 0) rfl) (hm.rdSI (n := 1) rfl) (hm.rdSI (n := 2) rfl) (hm.rdSI (n := 3) rfl) (hm.rdSI (n := 4) rfl))) (Wd_none rfl) (by decide) ?_
          refine WM_nil ?_
          refine QB_next (fun W hm => (hm.pick [5, 6, 7, 8, 9, 10, 11] (by decide))) ?_
          refine QB_take 4 (listed' := #[true, true, true, true, true]) (by kernel_rfl) rfl (by kernel_rfl) (by kernel_rfl) (by kernel_rfl) (fun _ _ _ h => h) (fun W hm => rv_not rfl) (Wd_none rfl) rfl (by decide) ?_
          refine QB_done (by kernel_rfl) ?_
          refine QM_then ?_
          rcases Bool.eq_false_or_eq_true (laws_eqEngine_m (laws_toEngine_m x1) (laws_toEngine_m x1)) with g240 | g240
          ·
            refine CM_condF rfl (nt g240) ?_
            refine CM_skip ?_
            refine QM_then ?_
            refine CM_seq ?_
            refine CM_items (fun W hm => (hm.pick [] (by decide))) ?_
            refine CM_region ?_
            refine wa ?_
            refine nt' ?_
            refine CM_ret ?_
            exact QM_ret1 rfl rfl (fun W hm => ⟨ret_b (show laws_FnExactEqualEngines_m x0 x1 = true from by unfold laws_FnExactEqualEngines_m; exact cond_f g74 (cond_f g76 (cond_f g184 (cond_t g212 (cond_t g240 (rfl)))))), hm.below⟩)
          ·
            refine CM_condT rfl (nf g240) ?_
            refine CM_seq ?_
            refine CM_items (fun W hm => (hm.pick [] (by decide))) ?_
            refine CM_region ?_
            refine wa ?_
            refine nt' ?_
            refine CM_ret ?_
            refine QM_then_ret ?_
            exact QM_ret1 rfl rfl (fun W hm => ⟨ret_b (show laws_FnExactEqualEngines_m x0 x1 = false from by unfold laws_FnExactEqualEngines_m; exact cond_f g74 (cond_f g76 (cond_f g184 (cond_t g212 (cond_f g240 (rfl)))))), hm.below⟩)
        ·
          refine CM_condT rfl (nf g212) ?_
          refine CM_seq ?_
          refine CM_items (fun W hm => (hm.pick [] (by decide))) ?_
          refine CM_region ?_
          refine wa ?_
          refine nt' ?_
          refine CM_ret ?_
          refine QM_then_ret ?_
          exact QM_ret1 rfl rfl (fun W hm => ⟨ret_b (show laws_FnExactEqualEngines_m x0 x1 = false from by unfold laws_FnExactEqualEngines_m; exact cond_f g74 (cond_f g76 (cond_f g184 (cond_f g212 (rfl))))), hm.below⟩)

end Go.Proofs.Ytfjhiegahdknmaa
