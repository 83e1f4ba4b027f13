/-
  The contract of the law.
-/
import Derived.Test.YtlpgopanikikkaaL10Pl
namespace Go.Proofs.Ytlpgopanikikkaa
open Go.RowKit
def laws_FnExactSharesOf_m (x0 : DCharge) : Bool :=
  cond (decide ((laws_szCharge_m x0 1048576) < 0)) true (cond (laws_eqIntS_m (impl_SharesOf_m (laws_toCharge_m x0)) (spec_SharesOf_m (laws_toCharge_m x0))) (cond (laws_eqCharge_m (laws_toCharge_m x0) (laws_toCharge_m x0)) (cond (decide (((laws_markCharge_m (laws_toCharge_m x0) 1).1) < 0)) false (cond (decide ((laws_heldIntS_m ((laws_markIntS_m (impl_SharesOf_m (laws_toCharge_m x0)) 1).2) 1) < 0)) false (cond ((laws_heldIntS_m ((laws_markIntS_m (impl_SharesOf_m (laws_toCharge_m x0)) 1).2) 1) != ((laws_markIntS_m (impl_SharesOf_m (laws_toCharge_m x0)) 1).1)) false true))) false) false)
theorem cb10 : Cb Try.prog 10 := ⟨Try.f10, _, Try.func10, rfl, by decide⟩
set_option maxRecDepth 10000 in
set_option maxHeartbeats 4000000 in
theorem laws_FnExactSharesOf_c (w : World) (z0 : List Value) (x0 : DCharge) (r_0 : tyLCharge.rd w w.heap.size z0 x0) :
    Calls Try.prog 10 #[.agg z0.toArray] w fun e w' => e = .returned (.bool (laws_FnExactSharesOf_m x0)) ∧ Below w.heap.size w w' := by
  have ok0 := (tyLCharge_sm r_0)
  obtain ⟨v1, v3, v5, rfl, r2, r4, r6⟩ := tyLCharge_rd r_0
  have r11 := r2
  obtain ⟨m7, A8, c9, rfl, q10⟩ := r2
  have r16 := r4
  obtain ⟨m12, A13, c14, rfl, q15⟩ := r4
  have r21 := r6
  obtain ⟨m17, A18, c19, rfl, q20⟩ := r6
  refine call_enterM (L := [(0, .agg #[.int .i64 x0.Segment, .int .i64 x0.Base, .slice A8 x0.Ids.length c9, .slice A13 x0.Tenants.length c14, .slice A18 x0.Rows.length c19])]) (N := 69) Try.func10 rfl rfl (Nat.le_of_ble_eq_true rfl) (argsL_cons rfl argsL_nil) ?_
  refine CM_seq ?_
  refine CM_region ?_
  refine WM_box rfl (Wd_none rfl) (by decide) (fun p22 => ?_)
  refine WM_val (fun W hm => rv_assign rfl) (Wd_none rfl) rfl (by decide) ?_
  refine WM_nil ?_
  refine QM_then ?_
  refine CM_seq ?_
  refine CM_region ?_
  refine WM_val (fun W hm => rv_assign rfl) (Wd_none rfl) rfl (by decide) ?_
  refine WM_nil ?_
  refine QM_then ?_
  refine CM_seq ?_
  refine CM_region ?_
  refine WM_val (fun W hm => rv_loadN (cs := [.int .i64 x0.Segment, .int .i64 x0.Base, .slice A8 x0.Ids.length c9, .slice A13 x0.Tenants.length c14, .slice A18 x0.Rows.length c19]) Try.underlying34 Try.type34 rfl rfl (hm.boxCells (n := 0) rfl)) (Wd_none rfl) rfl (by decide) ?_
  refine WM_val (fun W hm => rv_move rfl) (Wd_none rfl) rfl (by decide) ?_
  refine WM_callV (cl_fn cb24 rfl) (fun W hm => laws_szCharge_c W _ x0 1048576 (tyLCharge_mk (hm.rdS0 r11) (hm.rdS0 r16) (hm.rdS0 r21))) (Wd_none rfl) (by decide) ?_
  refine WM_val (fun W hm => rv_assign rfl) (Wd_none rfl) rfl (by decide) ?_
  refine WM_nil ?_
  refine QM_then ?_
  refine CM_seq ?_
  refine CM_seq ?_
  refine CM_region ?_
  refine WM_val (fun W hm => rv_move rfl) (Wd_none rfl) rfl (by decide) ?_
  refine WM_val (fun W hm => rv_lss rfl rfl) (Wd_none rfl) rfl (by decide) ?_
  refine WM_nil ?_
  refine QM_then ?_
  by_cases h23 : (laws_szCharge_m x0 1048576) < 0
  · have g24 : (decide ((laws_szCharge_m x0 1048576) < 0)) = true := decide_eq_true h23
    refine CM_condT rfl g24 ?_
    refine CM_seq ?_
    refine CM_region ?_
    refine WM_val (fun W hm => rv_assign rfl) (Wd_none rfl) rfl (by decide) ?_
    refine WM_nil ?_
    refine QM_then ?_
    refine CM_ret ?_
    refine QM_then_ret ?_
    exact QM_ret1 rfl rfl (fun W hm => ⟨ret_b (show laws_FnExactSharesOf_m x0 = true from by unfold laws_FnExactSharesOf_m; exact cond_t g24 (rfl)), hm.below⟩)
  · have g24 : (decide ((laws_szCharge_m x0 1048576) < 0)) = false := decide_eq_false h23
    obtain ⟨hz0, hy0, hw0⟩ := sz_small laws_szCharge_ok ok0 (by omega) (by omega) g24
    refine CM_condF rfl g24 ?_
    refine CM_skip ?_
    refine QM_then ?_
    refine CM_seq ?_
    refine CM_region ?_
    refine WM_val (fun W hm => rv_loadN (cs := [.int .i64 x0.Segment, .int .i64 x0.Base, .slice A8 x0.Ids.length c9, .slice A13 x0.Tenants.length c14, .slice A18 x0.Rows.length c19]) Try.underlying34 Try.type34 rfl rfl (hm.boxCells (n := 0) rfl)) (Wd_none rfl) rfl (by decide) ?_
    refine WM_call (χ := List Value) (val := fun x => .agg x.toArray) (js := fun x => [iOwn tyCharge x (laws_toCharge_m x0)]) (cl_fn cb26 rfl) (fun W hm => laws_toCharge_c W _ x0 (tyLCharge_mk (hm.rdS0 r11) (hm.rdS0 r16) (hm.rdS0 r21)) (smCharge_wt (by omega))) (Wd_none rfl) (by decide) (fun z25 => ?_)
    refine WM_split (γ := Value × Value × Value) (js := fun g => [iOwn (tSl tInt 3) [g.1] ((laws_toCharge_m x0).Ids), iOwn (tSl tInt 3) [g.2.1] ((laws_toCharge_m x0).Tenants), iOwn (tSl tInt 3) [g.2.2] ((laws_toCharge_m x0).Rows)]) (C := fun g => z25 = [.int .i64 ((laws_toCharge_m x0).Segment), .int .i64 ((laws_toCharge_m x0).Base), g.1, g.2.1, g.2.2]) (fun _ _ h => tyCharge_split h) ?_
    rintro ⟨v26, v27, v28⟩ rfl
    refine WM_form (n := 0) rfl ?_
    rintro A29 c30 rfl m31
    refine WM_form (n := 1) rfl ?_
    rintro A33 c34 rfl m35
    refine WM_form (n := 2) rfl ?_
    rintro A37 c38 rfl m39
    refine WM_call (χ := Value) (val := fun x => x) (js := fun x => [iOwn (tSl tInt 3) [x] (spec_SharesOf_m (laws_toCharge_m x0))]) (cl_fn cb43 rfl) (fun W hm => spec_SharesOf_c W _ (laws_toCharge_m x0) (tyCharge_mk (hm.rdSI (n := 0) rfl) (hm.rdSI (n := 1) rfl) (hm.rdSI (n := 2) rfl)) (by rw [laws_toCharge_eq]; exact (smCharge_wt (by omega)))) (Wd_none rfl) (by decide) (fun z41 => ?_)
    refine WM_form (n := 0) rfl ?_
    rintro A42 c43 rfl m44
    refine WM_val (fun W hm => rv_assign rfl) (Wd_none rfl) rfl (by decide) ?_
    refine WM_nil ?_
    refine QM_then ?_
    refine CM_seq ?_
    refine CM_region ?_
    refine WM_val (fun W hm => rv_loadN (cs := [.int .i64 x0.Segment, .int .i64 x0.Base, .slice A8 x0.Ids.length c9, .slice A13 x0.Tenants.length c14, .slice A18 x0.Rows.length c19]) Try.underlying34 Try.type34 rfl rfl (hm.boxCells (n := 4) rfl)) (Wd_none rfl) rfl (by decide) ?_
    refine WM_call (χ := List Value) (val := fun x => .agg x.toArray) (js := fun x => [iOwn tyCharge x (laws_toCharge_m x0)]) (cl_fn cb26 rfl) (fun W hm => laws_toCharge_c W _ x0 (tyLCharge_mk (hm.rdS0 r11) (hm.rdS0 r16) (hm.rdS0 r21)) (smCharge_wt (by omega))) (Wd_none rfl) (by decide) (fun z46 => ?_)
    refine WM_split (γ := Value × Value × Value) (js := fun g => [iOwn (tSl tInt 3) [g.1] ((laws_toCharge_m x0).Ids), iOwn (tSl tInt 3) [g.2.1] ((laws_toCharge_m x0).Tenants), iOwn (tSl tInt 3) [g.2.2] ((laws_toCharge_m x0).Rows)]) (C := fun g => z46 = [.int .i64 ((laws_toCharge_m x0).Segment), .int .i64 ((laws_toCharge_m x0).Base), g.1, g.2.1, g.2.2]) (fun _ _ h => tyCharge_split h) ?_
    rintro ⟨v47, v48, v49⟩ rfl
    refine WM_form (n := 0) rfl ?_
    rintro A50 c51 rfl m52
    refine WM_form (n := 1) rfl ?_
    rintro A54 c55 rfl m56
    refine WM_form (n := 2) rfl ?_
    rintro A58 c59 rfl m60
    refine WM_alloc Try.type37 rfl (Wd_none rfl) (by decide) (fun p62 => ?_)
    refine WM_storeBox (p := p62) (o := 0) (cs := [.int .i64 0, .int .i64 0, .slice none 0 0, .slice none 0 0, .slice none 0 0]) (cs' := [.int .i64 ((laws_toCharge_m x0).Segment), .int .i64 ((laws_toCharge_m x0).Base), .slice A50 ((laws_toCharge_m x0).Ids).length c51, .slice A54 ((laws_toCharge_m x0).Tenants).length c55, .slice A58 ((laws_toCharge_m x0).Rows).length c59]) (fun w hm => hm.front (n := 0) rfl) Try.type37 rfl (Nat.le_of_ble_eq_true rfl) rfl rfl rfl rfl (Wd_none rfl) ?_
    refine WM_nil ?_
    refine QM_then ?_
    refine CM_seq ?_
    refine CM_region ?_
    refine WM_val (fun W hm => rv_loadN (cs := [.int .i64 ((laws_toCharge_m x0).Segment), .int .i64 ((laws_toCharge_m x0).Base), .slice A50 ((laws_toCharge_m x0).Ids).length c51, .slice A54 ((laws_toCharge_m x0).Tenants).length c55, .slice A58 ((laws_toCharge_m x0).Rows).length c59]) Try.underlying37 Try.type37 rfl rfl (hm.boxCells (n := 0) rfl)) (Wd_none rfl) rfl (by decide) ?_
    refine WM_call (χ := Value) (val := fun x => x) (js := fun x => [iOwn (tSl tInt 3) [x] (impl_SharesOf_m (laws_toCharge_m x0))]) (cl_fn cb44 rfl) (fun W hm => impl_SharesOf_c W _ (laws_toCharge_m x0) (tyCharge_mk (hm.rdSI (n := 1) rfl) (hm.rdSI (n := 2) rfl) (hm.rdSI (n := 3) rfl)) (by rw [laws_toCharge_eq]; exact (smCharge_wt (by omega)))) (Wd_none rfl) (by decide) (fun z63 => ?_)
    refine WM_form (n := 0) rfl ?_
    rintro A64 c65 rfl m66
    refine WM_val (fun W hm => rv_assign rfl) (Wd_none rfl) rfl (by decide) ?_
    refine WM_nil ?_
    refine QM_then ?_
    refine CM_seq ?_
    refine CM_seq ?_
    refine CM_region ?_
    refine WM_val (fun W hm => rv_move rfl) (Wd_none rfl) rfl (by decide) ?_
    refine WM_val (fun W hm => rv_move rfl) (Wd_none rfl) rfl (by decide) ?_
    refine WM_callV (cl_fn cb45 rfl) (fun W hm => laws_eqIntS_c W _ (impl_SharesOf_m (laws_toCharge_m x0)) _ (spec_SharesOf_m (laws_toCharge_m x0)) (hm.rdSI (n := 0) rfl) (hm.rdSI (n := 5) rfl)) (Wd_none rfl) (by decide) ?_
    refine WM_val (fun W hm => rv_not rfl) (Wd_none rfl) rfl (by decide) ?_
    refine WM_nil ?_
    refine QM_then ?_
    rcases Bool.eq_false_or_eq_true (laws_eqIntS_m (impl_SharesOf_m (laws_toCharge_m x0)) (spec_SharesOf_m (laws_toCharge_m x0))) with g69 | g69
    ·
      refine CM_condF rfl (nt g69) ?_
      refine CM_skip ?_
      refine QM_then ?_
      refine CM_seq ?_
      refine CM_seq ?_
      refine CM_regionB (n := 5) (listed := #[false, false, false, false, false]) (s := [iOwn (tSl tInt 3) [.slice A64 (impl_SharesOf_m (laws_toCharge_m x0)).length c65] (impl_SharesOf_m (laws_toCharge_m x0)), iBox p62 37 [.int .i64 ((laws_toCharge_m x0).Segment), .int .i64 ((laws_toCharge_m x0).Base), .slice A50 ((laws_toCharge_m x0).Ids).length c51, .slice A54 ((laws_toCharge_m x0).Tenants).length c55, .slice A58 ((laws_toCharge_m x0).Rows).length c59], iOwn (tSl tInt 3) [.slice A50 ((laws_toCharge_m x0).Ids).length c51] ((laws_toCharge_m x0).Ids), iOwn (tSl tInt 3) [.slice A54 ((laws_toCharge_m x0).Tenants).length c55] ((laws_toCharge_m x0).Tenants), iOwn (tSl tInt 3) [.slice A58 ((laws_toCharge_m x0).Rows).length c59] ((laws_toCharge_m x0).Rows), iOwn (tSl tInt 3) [.slice A42 (spec_SharesOf_m (laws_toCharge_m x0)).length c43] (spec_SharesOf_m (laws_toCharge_m x0)), iOwn (tSl tInt 3) [.slice A29 ((laws_toCharge_m x0).Ids).length c30] ((laws_toCharge_m x0).Ids), iOwn (tSl tInt 3) [.slice A33 ((laws_toCharge_m x0).Tenants).length c34] ((laws_toCharge_m x0).Tenants), iOwn (tSl tInt 3) [.slice A37 ((laws_toCharge_m x0).Rows).length c38] ((laws_toCharge_m x0).Rows), iBox p22 34 [.int .i64 x0.Segment, .int .i64 x0.Base, .slice A8 x0.Ids.length c9, .slice A13 x0.Tenants.length c14, .slice A18 x0.Rows.length c19]]) (by kernel_rfl) rfl (by kernel_rfl) (fun W hm => ((((((((((hm.front (n := 9) rfl).front (n := 9) rfl).front (n := 9) rfl).front (n := 9) rfl).front (n := 9) rfl).front (n := 9) rfl).front (n := 9) rfl).front (n := 9) rfl).front (n := 9) rfl).front (n := 9) rfl)) ?_
      refine QB_take 0 (listed' := #[true, false, false, false, false]) (by kernel_rfl) rfl (by kernel_rfl) (by kernel_rfl) (by kernel_rfl) (fun _ _ _ h => h) (fun W hm => rv_loadN (cs := [.int .i64 ((laws_toCharge_m x0).Segment), .int .i64 ((laws_toCharge_m x0).Base), .slice A50 ((laws_toCharge_m x0).Ids).length c51, .slice A54 ((laws_toCharge_m x0).Tenants).length c55, .slice A58 ((laws_toCharge_m x0).Rows).length c59]) Try.underlying37 Try.type37 rfl rfl (hm.boxCells (n := 1) rfl)) (Wd_none rfl) rfl (by decide) ?_
      refine QB_take 1 (listed' := #[true, true, false, false, false]) (by kernel_rfl) rfl (by kernel_rfl) (by kernel_rfl) (by kernel_rfl) (fun _ _ _ h => h) (fun W hm => rv_loadN (cs := [.int .i64 x0.Segment, .int .i64 x0.Base, .slice A8 x0.Ids.length c9, .slice A13 x0.Tenants.length c14, .slice A18 x0.Rows.length c19]) Try.underlying34 Try.type34 rfl rfl (hm.boxCells (n := 9) rfl)) (Wd_none rfl) rfl (by decide) ?_
      refine QB_one 2 (listed' := #[true, true, true, false, false]) (by kernel_rfl) rfl (by kernel_rfl) ?_
      refine WM_call (χ := List Value) (val := fun x => .agg x.toArray) (js := fun x => [iOwn tyCharge x (laws_toCharge_m x0)]) (cl_fn cb26 rfl) (fun W hm => laws_toCharge_c W _ x0 (tyLCharge_mk (hm.rdS0 r11) (hm.rdS0 r16) (hm.rdS0 r21)) (smCharge_wt (by omega))) (Wd_none rfl) (by decide) (fun z70 => ?_)
      refine WM_split (γ := Value × Value × Value) (js := fun g => [iOwn (tSl tInt 3) [g.1] ((laws_toCharge_m x0).Ids), iOwn (tSl tInt 3) [g.2.1] ((laws_toCharge_m x0).Tenants), iOwn (tSl tInt 3) [g.2.2] ((laws_toCharge_m x0).Rows)]) (C := fun g => z70 = [.int .i64 ((laws_toCharge_m x0).Segment), .int .i64 ((laws_toCharge_m x0).Base), g.1, g.2.1, g.2.2]) (fun _ _ h => tyCharge_split h) ?_
      rintro ⟨v71, v72, v73⟩ rfl
      refine WM_form (n := 0) rfl ?_
      rintro A74 c75 rfl m76
      refine WM_form (n := 1) rfl ?_
      rintro A78 c79 rfl m80
      refine WM_form (n := 2) rfl ?_
      rintro A82 c83 rfl m84
      refine WM_nil ?_
      refine QB_next (fun W hm => (((((((((((((hm.front (n := 12) rfl).front (n := 12) rfl).front (n := 12) rfl).front (n := 12) rfl).front (n := 12) rfl).front (n := 12) rfl).front (n := 12) rfl).front (n := 12) rfl).front (n := 12) rfl).front (n := 12) rfl).front (n := 10) rfl).tail.front (n := 10) rfl).tail.front (n := 10) rfl).tail) ?_
      refine QB_one 3 (listed' := #[true, true, true, true, false]) (by kernel_rfl) rfl (by kernel_rfl) ?_
      refine WM_callV (cl_fn cb28 rfl) (fun W hm => laws_eqCharge_c W _ (laws_toCharge_m x0) _ (laws_toCharge_m x0) (tyCharge_mk (hm.rdSI (n := 5) rfl) (hm.rdSI (n := 6) rfl) (hm.rdSI (n := 7) rfl)) (tyCharge_mk (hm.rdSI (n := 0) rfl) (hm.rdSI (n := 1) rfl) (hm.rdSI (n := 2) rfl))) (Wd_none rfl) (by decide) ?_
      refine WM_nil ?_
      refine QB_next (fun W hm => (((((((((((((hm.front (n := 12) rfl).front (n := 12) rfl).front (n := 12) rfl).front (n := 12) rfl).front (n := 12) rfl).front (n := 12) rfl).front (n := 12) rfl).front (n := 12) rfl).front (n := 12) rfl).front (n := 12) rfl).front (n := 10) rfl).tail.front (n := 10) rfl).tail.front (n := 10) rfl).tail) ?_
      refine QB_take 4 (listed' := #[true, true, true, true, true]) (by kernel_rfl) rfl (by kernel_rfl) (by kernel_rfl) (by kernel_rfl) (fun _ _ _ h => h) (fun W hm => rv_not rfl) (Wd_none rfl) rfl (by decide) ?_
      refine QB_done (by kernel_rfl) ?_
      refine QM_then ?_
      rcases Bool.eq_false_or_eq_true (laws_eqCharge_m (laws_toCharge_m x0) (laws_toCharge_m x0)) with g87 | g87
      ·
        refine CM_condF rfl (nt g87) ?_
        refine CM_skip ?_
        refine QM_then ?_
        refine CM_seq ?_
        refine CM_region ?_
        refine WM_val (fun W hm => rv_assign rfl) (Wd_none rfl) rfl (by decide) ?_
        refine WM_nil ?_
        refine QM_then ?_
        refine CM_seq ?_
        refine CM_region ?_
        refine WM_val (fun W hm => rv_loadN (cs := [.int .i64 ((laws_toCharge_m x0).Segment), .int .i64 ((laws_toCharge_m x0).Base), .slice A50 ((laws_toCharge_m x0).Ids).length c51, .slice A54 ((laws_toCharge_m x0).Tenants).length c55, .slice A58 ((laws_toCharge_m x0).Rows).length c59]) Try.underlying37 Try.type37 rfl rfl (hm.boxCells (n := 4) rfl)) (Wd_none rfl) rfl (by decide) ?_
        refine WM_val (fun W hm => rv_move rfl) (Wd_none rfl) rfl (by decide) ?_
        refine WM_items (js := (iOwn tyCharge [.int .i64 ((laws_toCharge_m x0).Segment), .int .i64 ((laws_toCharge_m x0).Base), .slice A50 ((laws_toCharge_m x0).Ids).length c51, .slice A54 ((laws_toCharge_m x0).Tenants).length c55, .slice A58 ((laws_toCharge_m x0).Rows).length c59] (laws_toCharge_m x0) :: [iOwn (tSl tInt 3) [.slice A74 ((laws_toCharge_m x0).Ids).length c75] ((laws_toCharge_m x0).Ids), iOwn (tSl tInt 3) [.slice A78 ((laws_toCharge_m x0).Tenants).length c79] ((laws_toCharge_m x0).Tenants), iOwn (tSl tInt 3) [.slice A82 ((laws_toCharge_m x0).Rows).length c83] ((laws_toCharge_m x0).Rows), iOwn (tSl tInt 3) [.slice A64 (impl_SharesOf_m (laws_toCharge_m x0)).length c65] (impl_SharesOf_m (laws_toCharge_m x0)), iBox p62 37 [.int .i64 ((laws_toCharge_m x0).Segment), .int .i64 ((laws_toCharge_m x0).Base), .slice A50 ((laws_toCharge_m x0).Ids).length c51, .slice A54 ((laws_toCharge_m x0).Tenants).length c55, .slice A58 ((laws_toCharge_m x0).Rows).length c59], iOwn (tSl tInt 3) [.slice A42 (spec_SharesOf_m (laws_toCharge_m x0)).length c43] (spec_SharesOf_m (laws_toCharge_m x0)), iOwn (tSl tInt 3) [.slice A29 ((laws_toCharge_m x0).Ids).length c30] ((laws_toCharge_m x0).Ids), iOwn (tSl tInt 3) [.slice A33 ((laws_toCharge_m x0).Tenants).length c34] ((laws_toCharge_m x0).Tenants), iOwn (tSl tInt 3) [.slice A37 ((laws_toCharge_m x0).Rows).length c38] ((laws_toCharge_m x0).Rows), iBox p22 34 [.int .i64 x0.Segment, .int .i64 x0.Base, .slice A8 x0.Ids.length c9, .slice A13 x0.Tenants.length c14, .slice A18 x0.Rows.length c19]])) (fun W hm => Mem.join (is := [iOwn (tSl tInt 3) [.slice A50 ((laws_toCharge_m x0).Ids).length c51] ((laws_toCharge_m x0).Ids), iOwn (tSl tInt 3) [.slice A54 ((laws_toCharge_m x0).Tenants).length c55] ((laws_toCharge_m x0).Tenants), iOwn (tSl tInt 3) [.slice A58 ((laws_toCharge_m x0).Rows).length c59] ((laws_toCharge_m x0).Rows)]) (js := [iOwn (tSl tInt 3) [.slice A74 ((laws_toCharge_m x0).Ids).length c75] ((laws_toCharge_m x0).Ids), iOwn (tSl tInt 3) [.slice A78 ((laws_toCharge_m x0).Tenants).length c79] ((laws_toCharge_m x0).Tenants), iOwn (tSl tInt 3) [.slice A82 ((laws_toCharge_m x0).Rows).length c83] ((laws_toCharge_m x0).Rows), iOwn (tSl tInt 3) [.slice A64 (impl_SharesOf_m (laws_toCharge_m x0)).length c65] (impl_SharesOf_m (laws_toCharge_m x0)), iBox p62 37 [.int .i64 ((laws_toCharge_m x0).Segment), .int .i64 ((laws_toCharge_m x0).Base), .slice A50 ((laws_toCharge_m x0).Ids).length c51, .slice A54 ((laws_toCharge_m x0).Tenants).length c55, .slice A58 ((laws_toCharge_m x0).Rows).length c59], iOwn (tSl tInt 3) [.slice A42 (spec_SharesOf_m (laws_toCharge_m x0)).length c43] (spec_SharesOf_m (laws_toCharge_m x0)), iOwn (tSl tInt 3) [.slice A29 ((laws_toCharge_m x0).Ids).length c30] ((laws_toCharge_m x0).Ids), iOwn (tSl tInt 3) [.slice A33 ((laws_toCharge_m x0).Tenants).length c34] ((laws_toCharge_m x0).Tenants), iOwn (tSl tInt 3) [.slice A37 ((laws_toCharge_m x0).Rows).length c38] ((laws_toCharge_m x0).Rows), iBox p22 34 [.int .i64 x0.Segment, .int .i64 x0.Base, .slice A8 x0.Ids.length c9, .slice A13 x0.Tenants.length c14, .slice A18 x0.Rows.length c19]]) (fun _ _ hs => tyCharge_join (x := (laws_toCharge_m x0)) hs) (((hm.front (n := 7) rfl).front (n := 7) rfl).front (n := 7) rfl)) ?_
        refine WM_callW (χ := Unit) (val := fun _ => .int .i64 (laws_markCharge_m (laws_toCharge_m x0) 1).1) (js := fun _ => (iOwn tyCharge [.int .i64 ((laws_toCharge_m x0).Segment), .int .i64 ((laws_toCharge_m x0).Base), .slice A50 ((laws_toCharge_m x0).Ids).length c51, .slice A54 ((laws_toCharge_m x0).Tenants).length c55, .slice A58 ((laws_toCharge_m x0).Rows).length c59] (laws_markCharge_m (laws_toCharge_m x0) 1).2 :: [iOwn (tSl tInt 3) [.slice A74 ((laws_toCharge_m x0).Ids).length c75] ((laws_toCharge_m x0).Ids), iOwn (tSl tInt 3) [.slice A78 ((laws_toCharge_m x0).Tenants).length c79] ((laws_toCharge_m x0).Tenants), iOwn (tSl tInt 3) [.slice A82 ((laws_toCharge_m x0).Rows).length c83] ((laws_toCharge_m x0).Rows), iOwn (tSl tInt 3) [.slice A64 (impl_SharesOf_m (laws_toCharge_m x0)).length c65] (impl_SharesOf_m (laws_toCharge_m x0)), iBox p62 37 [.int .i64 ((laws_toCharge_m x0).Segment), .int .i64 ((laws_toCharge_m x0).Base), .slice A50 ((laws_toCharge_m x0).Ids).length c51, .slice A54 ((laws_toCharge_m x0).Tenants).length c55, .slice A58 ((laws_toCharge_m x0).Rows).length c59], iOwn (tSl tInt 3) [.slice A42 (spec_SharesOf_m (laws_toCharge_m x0)).length c43] (spec_SharesOf_m (laws_toCharge_m x0)), iOwn (tSl tInt 3) [.slice A29 ((laws_toCharge_m x0).Ids).length c30] ((laws_toCharge_m x0).Ids), iOwn (tSl tInt 3) [.slice A33 ((laws_toCharge_m x0).Tenants).length c34] ((laws_toCharge_m x0).Tenants), iOwn (tSl tInt 3) [.slice A37 ((laws_toCharge_m x0).Rows).length c38] ((laws_toCharge_m x0).Rows), iBox p22 34 [.int .i64 x0.Segment, .int .i64 x0.Base, .slice A8 x0.Ids.length c9, .slice A13 x0.Tenants.length c14, .slice A18 x0.Rows.length c19]])) (cl_fn cb46 rfl) (fun W hm => (laws_markCharge_c w.heap.size w [iOwn (tSl tInt 3) [.slice A74 ((laws_toCharge_m x0).Ids).length c75] ((laws_toCharge_m x0).Ids), iOwn (tSl tInt 3) [.slice A78 ((laws_toCharge_m x0).Tenants).length c79] ((laws_toCharge_m x0).Tenants), iOwn (tSl tInt 3) [.slice A82 ((laws_toCharge_m x0).Rows).length c83] ((laws_toCharge_m x0).Rows), iOwn (tSl tInt 3) [.slice A64 (impl_SharesOf_m (laws_toCharge_m x0)).length c65] (impl_SharesOf_m (laws_toCharge_m x0)), iBox p62 37 [.int .i64 ((laws_toCharge_m x0).Segment), .int .i64 ((laws_toCharge_m x0).Base), .slice A50 ((laws_toCharge_m x0).Ids).length c51, .slice A54 ((laws_toCharge_m x0).Tenants).length c55, .slice A58 ((laws_toCharge_m x0).Rows).length c59], iOwn (tSl tInt 3) [.slice A42 (spec_SharesOf_m (laws_toCharge_m x0)).length c43] (spec_SharesOf_m (laws_toCharge_m x0)), iOwn (tSl tInt 3) [.slice A29 ((laws_toCharge_m x0).Ids).length c30] ((laws_toCharge_m x0).Ids), iOwn (tSl tInt 3) [.slice A33 ((laws_toCharge_m x0).Tenants).length c34] ((laws_toCharge_m x0).Tenants), iOwn (tSl tInt 3) [.slice A37 ((laws_toCharge_m x0).Rows).length c38] ((laws_toCharge_m x0).Rows), iBox p22 34 [.int .i64 x0.Segment, .int .i64 x0.Base, .slice A8 x0.Ids.length c9, .slice A13 x0.Tenants.length c14, .slice A18 x0.Rows.length c19]] W [.int .i64 ((laws_toCharge_m x0).Segment), .int .i64 ((laws_toCharge_m x0).Base), .slice A50 ((laws_toCharge_m x0).Ids).length c51, .slice A54 ((laws_toCharge_m x0).Tenants).length c55, .slice A58 ((laws_toCharge_m x0).Rows).length c59] (laws_toCharge_m x0) 1 hm).mono (fun _ _ h => ⟨(), h.1, h.2⟩)) (Wd_none rfl) (by decide) (fun _ => ?_)
        refine WM_split (γ := Value × Value × Value) (js := fun g => [iOwn (tSl tInt 3) [g.1] ((laws_markCharge_m (laws_toCharge_m x0) 1).2.Ids), iOwn (tSl tInt 3) [g.2.1] ((laws_markCharge_m (laws_toCharge_m x0) 1).2.Tenants), iOwn (tSl tInt 3) [g.2.2] ((laws_markCharge_m (laws_toCharge_m x0) 1).2.Rows)]) (C := fun g => [.int .i64 ((laws_toCharge_m x0).Segment), .int .i64 ((laws_toCharge_m x0).Base), .slice A50 ((laws_toCharge_m x0).Ids).length c51, .slice A54 ((laws_toCharge_m x0).Tenants).length c55, .slice A58 ((laws_toCharge_m x0).Rows).length c59] = [.int .i64 ((laws_markCharge_m (laws_toCharge_m x0) 1).2.Segment), .int .i64 ((laws_markCharge_m (laws_toCharge_m x0) 1).2.Base), g.1, g.2.1, g.2.2]) (fun _ _ h => tyCharge_split h) ?_
        rintro ⟨v89, v90, v91⟩ h88
        simp only [List.cons.injEq] at h88
        obtain ⟨-, -, rfl, rfl, rfl, -⟩ := h88
        refine WM_val (fun W hm => rv_assign rfl) (Wd_none rfl) rfl (by decide) ?_
        refine WM_nil ?_
        refine QM_then ?_
        refine CM_seq ?_
        refine CM_seq ?_
        refine CM_region ?_
        refine WM_val (fun W hm => rv_move rfl) (Wd_none rfl) rfl (by decide) ?_
        refine WM_val (fun W hm => rv_lss rfl rfl) (Wd_none rfl) rfl (by decide) ?_
        refine WM_val (fun W hm => rv_move rfl) (Wd_none rfl) rfl (by decide) ?_
        by_cases h92 : ((laws_markCharge_m (laws_toCharge_m x0) 1).1) < 0
        · have g93 : (decide (((laws_markCharge_m (laws_toCharge_m x0) 1).1) < 0)) = true := decide_eq_true h92
          refine WM_skip (Wd_some rfl rfl rfl (bw g93 rfl)) rfl (by decide) ?_
          refine WM_skip (Wd_some rfl rfl rfl (bw g93 rfl)) rfl (by decide) ?_
          refine WM_skip (Wd_some rfl rfl rfl (bw g93 rfl)) rfl (by decide) ?_
          refine WM_skip (Wd_some rfl rfl rfl (bw g93 rfl)) rfl (by decide) ?_
          refine WM_val (fun W hm => rv_pickT rfl g93 rfl) (Wd_none rfl) rfl (by decide) ?_
          refine WM_nil ?_
          refine QM_then ?_
          refine CM_condT rfl rfl ?_
          refine CM_seq ?_
          refine CM_region ?_
          refine WM_val (fun W hm => rv_assign rfl) (Wd_none rfl) rfl (by decide) ?_
          refine WM_nil ?_
          refine QM_then ?_
          refine CM_ret ?_
          refine QM_then_ret ?_
          exact QM_ret1 rfl rfl (fun W hm => ⟨ret_b (show laws_FnExactSharesOf_m x0 = false from by unfold laws_FnExactSharesOf_m; exact cond_f g24 (cond_t g69 (cond_t g87 (cond_t g93 (rfl))))), hm.below⟩)
        · have g93 : (decide (((laws_markCharge_m (laws_toCharge_m x0) 1).1) < 0)) = false := decide_eq_false h92
          refine WM_val (fun W hm => rv_move rfl) (Wd_some rfl rfl rfl (bw g93 rfl)) rfl (by decide) ?_
          refine WM_val (fun W hm => rv_move rfl) (Wd_some rfl rfl rfl (bw g93 rfl)) rfl (by decide) ?_
          refine WM_callV (cl_fn cb45 rfl) (fun W hm => laws_eqIntS_c W _ (impl_SharesOf_m (laws_toCharge_m x0)) _ (spec_SharesOf_m (laws_toCharge_m x0)) (hm.rdSI (n := 6) rfl) (hm.rdSI (n := 8) rfl)) (Wd_some rfl rfl rfl (bw g93 rfl)) (by decide) ?_
          refine WM_val (fun W hm => rv_not rfl) (Wd_some rfl rfl rfl (bw g93 rfl)) rfl (by decide) ?_
          refine WM_val (fun W hm => rv_pickF rfl g93 rfl) (Wd_none rfl) rfl (by decide) ?_
          refine WM_nil ?_
          refine QM_then ?_
          refine CM_condF rfl (nt g69) ?_
          refine CM_skip ?_
          refine QM_then ?_
          refine CM_seq ?_
          refine CM_region ?_
          refine WM_val (fun W hm => rv_assign rfl) (Wd_none rfl) rfl (by decide) ?_
          refine WM_nil ?_
          refine QM_then ?_
          refine CM_seq ?_
          refine CM_region ?_
          refine WM_val (fun W hm => rv_move rfl) (Wd_none rfl) rfl (by decide) ?_
          refine WM_val (fun W hm => rv_move rfl) (Wd_none rfl) rfl (by decide) ?_
          refine WM_callW (χ := Unit) (val := fun _ => .int .i64 (laws_markIntS_m (impl_SharesOf_m (laws_toCharge_m x0)) 1).1) (js := fun _ => (iOwn (tSl tInt 3) [.slice A64 (impl_SharesOf_m (laws_toCharge_m x0)).length c65] (laws_markIntS_m (impl_SharesOf_m (laws_toCharge_m x0)) 1).2 :: [iOwn (tSl tInt 3) [.slice A50 ((laws_toCharge_m x0).Ids).length c51] ((laws_markCharge_m (laws_toCharge_m x0) 1).2.Ids), iOwn (tSl tInt 3) [.slice A54 ((laws_toCharge_m x0).Tenants).length c55] ((laws_markCharge_m (laws_toCharge_m x0) 1).2.Tenants), iOwn (tSl tInt 3) [.slice A58 ((laws_toCharge_m x0).Rows).length c59] ((laws_markCharge_m (laws_toCharge_m x0) 1).2.Rows), iOwn (tSl tInt 3) [.slice A74 ((laws_toCharge_m x0).Ids).length c75] ((laws_toCharge_m x0).Ids), iOwn (tSl tInt 3) [.slice A78 ((laws_toCharge_m x0).Tenants).length c79] ((laws_toCharge_m x0).Tenants), iOwn (tSl tInt 3) [.slice A82 ((laws_toCharge_m x0).Rows).length c83] ((laws_toCharge_m x0).Rows), iBox p62 37 [.int .i64 ((laws_toCharge_m x0).Segment), .int .i64 ((laws_toCharge_m x0).Base), .slice A50 ((laws_toCharge_m x0).Ids).length c51, .slice A54 ((laws_toCharge_m x0).Tenants).length c55, .slice A58 ((laws_toCharge_m x0).Rows).length c59], iOwn (tSl tInt 3) [.slice A42 (spec_SharesOf_m (laws_toCharge_m x0)).length c43] (spec_SharesOf_m (laws_toCharge_m x0)), iOwn (tSl tInt 3) [.slice A29 ((laws_toCharge_m x0).Ids).length c30] ((laws_toCharge_m x0).Ids), iOwn (tSl tInt 3) [.slice A33 ((laws_toCharge_m x0).Tenants).length c34] ((laws_toCharge_m x0).Tenants), iOwn (tSl tInt 3) [.slice A37 ((laws_toCharge_m x0).Rows).length c38] ((laws_toCharge_m x0).Rows), iBox p22 34 [.int .i64 x0.Segment, .int .i64 x0.Base, .slice A8 x0.Ids.length c9, .slice A13 x0.Tenants.length c14, .slice A18 x0.Rows.length c19]])) (cl_fn cb47 rfl) (fun W hm => (laws_markIntS_c w.heap.size w [iOwn (tSl tInt 3) [.slice A50 ((laws_toCharge_m x0).Ids).length c51] ((laws_markCharge_m (laws_toCharge_m x0) 1).2.Ids), iOwn (tSl tInt 3) [.slice A54 ((laws_toCharge_m x0).Tenants).length c55] ((laws_markCharge_m (laws_toCharge_m x0) 1).2.Tenants), iOwn (tSl tInt 3) [.slice A58 ((laws_toCharge_m x0).Rows).length c59] ((laws_markCharge_m (laws_toCharge_m x0) 1).2.Rows), iOwn (tSl tInt 3) [.slice A74 ((laws_toCharge_m x0).Ids).length c75] ((laws_toCharge_m x0).Ids), iOwn (tSl tInt 3) [.slice A78 ((laws_toCharge_m x0).Tenants).length c79] ((laws_toCharge_m x0).Tenants), iOwn (tSl tInt 3) [.slice A82 ((laws_toCharge_m x0).Rows).length c83] ((laws_toCharge_m x0).Rows), iBox p62 37 [.int .i64 ((laws_toCharge_m x0).Segment), .int .i64 ((laws_toCharge_m x0).Base), .slice A50 ((laws_toCharge_m x0).Ids).length c51, .slice A54 ((laws_toCharge_m x0).Tenants).length c55, .slice A58 ((laws_toCharge_m x0).Rows).length c59], iOwn (tSl tInt 3) [.slice A42 (spec_SharesOf_m (laws_toCharge_m x0)).length c43] (spec_SharesOf_m (laws_toCharge_m x0)), iOwn (tSl tInt 3) [.slice A29 ((laws_toCharge_m x0).Ids).length c30] ((laws_toCharge_m x0).Ids), iOwn (tSl tInt 3) [.slice A33 ((laws_toCharge_m x0).Tenants).length c34] ((laws_toCharge_m x0).Tenants), iOwn (tSl tInt 3) [.slice A37 ((laws_toCharge_m x0).Rows).length c38] ((laws_toCharge_m x0).Rows), iBox p22 34 [.int .i64 x0.Segment, .int .i64 x0.Base, .slice A8 x0.Ids.length c9, .slice A13 x0.Tenants.length c14, .slice A18 x0.Rows.length c19]] W (.slice A64 (impl_SharesOf_m (laws_toCharge_m x0)).length c65) (impl_SharesOf_m (laws_toCharge_m x0)) 1 (hm.front (n := 6) rfl)).mono (fun _ _ h => ⟨(), h.1, h.2⟩)) (Wd_none rfl) (by decide) (fun _ => ?_)
          refine WM_val (fun W hm => rv_assign rfl) (Wd_none rfl) rfl (by decide) ?_
          refine WM_nil ?_
          refine QM_then ?_
          refine CM_seq ?_
          refine CM_region ?_
          refine WM_val (fun W hm => rv_assign rfl) (Wd_none rfl) rfl (by decide) ?_
          refine WM_nil ?_
          refine QM_then ?_
          refine CM_seq ?_
          refine CM_region ?_
          refine WM_val (fun W hm => rv_move rfl) (Wd_none rfl) rfl (by decide) ?_
          refine WM_val (fun W hm => rv_move rfl) (Wd_none rfl) rfl (by decide) ?_
          refine WM_callV (cl_fn cb48 rfl) (fun W hm => laws_heldIntS_c W _ ((laws_markIntS_m (impl_SharesOf_m (laws_toCharge_m x0)) 1).2) 1 (hm.rdSI (n := 0) rfl)) (Wd_none rfl) (by decide) ?_
          refine WM_val (fun W hm => rv_assign rfl) (Wd_none rfl) rfl (by decide) ?_
          refine WM_nil ?_
          refine QM_then ?_
          refine CM_seq ?_
          refine CM_seq ?_
          refine CM_region ?_
          refine WM_val (fun W hm => rv_move rfl) (Wd_none rfl) rfl (by decide) ?_
          refine WM_val (fun W hm => rv_lss rfl rfl) (Wd_none rfl) rfl (by decide) ?_
          refine WM_nil ?_
          refine QM_then ?_
          by_cases h94 : (laws_heldIntS_m ((laws_markIntS_m (impl_SharesOf_m (laws_toCharge_m x0)) 1).2) 1) < 0
          · have g95 : (decide ((laws_heldIntS_m ((laws_markIntS_m (impl_SharesOf_m (laws_toCharge_m x0)) 1).2) 1) < 0)) = true := decide_eq_true h94
            refine CM_condT rfl g95 ?_
            refine CM_seq ?_
            refine CM_region ?_
            refine WM_val (fun W hm => rv_assign rfl) (Wd_none rfl) rfl (by decide) ?_
            refine WM_nil ?_
            refine QM_then ?_
            refine CM_ret ?_
            refine QM_then_ret ?_
            exact QM_ret1 rfl rfl (fun W hm => ⟨ret_b (show laws_FnExactSharesOf_m x0 = false from by unfold laws_FnExactSharesOf_m; exact cond_f g24 (cond_t g69 (cond_t g87 (cond_f g93 (cond_t g95 (rfl)))))), hm.below⟩)
          · have g95 : (decide ((laws_heldIntS_m ((laws_markIntS_m (impl_SharesOf_m (laws_toCharge_m x0)) 1).2) 1) < 0)) = false := decide_eq_false h94
            refine CM_condF rfl g95 ?_
            refine CM_skip ?_
            refine QM_then ?_
            refine CM_seq ?_
            refine CM_seq ?_
            refine CM_region ?_
            refine WM_val (fun W hm => rv_move rfl) (Wd_none rfl) rfl (by decide) ?_
            refine WM_val (fun W hm => rv_move rfl) (Wd_none rfl) rfl (by decide) ?_
            refine WM_val (fun W hm => rv_neq rfl rfl) (Wd_none rfl) rfl (by decide) ?_
            refine WM_nil ?_
            refine QM_then ?_
            by_cases h96 : (laws_heldIntS_m ((laws_markIntS_m (impl_SharesOf_m (laws_toCharge_m x0)) 1).2) 1) = ((laws_markIntS_m (impl_SharesOf_m (laws_toCharge_m x0)) 1).1)
            · have g97 : ((laws_heldIntS_m ((laws_markIntS_m (impl_SharesOf_m (laws_toCharge_m x0)) 1).2) 1) != ((laws_markIntS_m (impl_SharesOf_m (laws_toCharge_m x0)) 1).1)) = false := by rw [h96]; exact bne_self_eq_false _
              refine CM_condF rfl g97 ?_
              refine CM_skip ?_
              refine QM_then ?_
              refine CM_seq ?_
              refine CM_region ?_
              refine WM_val (fun W hm => rv_loadN (cs := [.int .i64 x0.Segment, .int .i64 x0.Base, .slice A8 x0.Ids.length c9, .slice A13 x0.Tenants.length c14, .slice A18 x0.Rows.length c19]) Try.underlying34 Try.type34 rfl rfl (hm.boxCells (n := 12) rfl)) (Wd_none rfl) rfl (by decide) ?_
              refine WM_call (χ := List Value) (val := fun x => .agg x.toArray) (js := fun x => [iOwn tyCharge x (laws_toCharge_m x0)]) (cl_fn cb26 rfl) (fun W hm => laws_toCharge_c W _ x0 (tyLCharge_mk (hm.rdS0 r11) (hm.rdS0 r16) (hm.rdS0 r21)) (smCharge_wt (by omega))) (Wd_none rfl) (by decide) (fun z98 => ?_)
              refine WM_split (γ := Value × Value × Value) (js := fun g => [iOwn (tSl tInt 3) [g.1] ((laws_toCharge_m x0).Ids), iOwn (tSl tInt 3) [g.2.1] ((laws_toCharge_m x0).Tenants), iOwn (tSl tInt 3) [g.2.2] ((laws_toCharge_m x0).Rows)]) (C := fun g => z98 = [.int .i64 ((laws_toCharge_m x0).Segment), .int .i64 ((laws_toCharge_m x0).Base), g.1, g.2.1, g.2.2]) (fun _ _ h => tyCharge_split h) ?_
              rintro ⟨v99, v100, v101⟩ rfl
              refine WM_form (n := 0) rfl ?_
              rintro A102 c103 rfl m104
              refine WM_form (n := 1) rfl ?_
              rintro A106 c107 rfl m108
              refine WM_form (n := 2) rfl ?_
              rintro A110 c111 rfl m112
              refine WM_call (χ := Value) (val := fun x => x) (js := fun x => [iOwn (tSl tInt 3) [x] (impl_SharesOf_m (laws_toCharge_m x0))]) (cl_fn cb44 rfl) (fun W hm => impl_SharesOf_c W _ (laws_toCharge_m x0) (tyCharge_mk (hm.rdSI (n := 0) rfl) (hm.rdSI (n := 1) rfl) (hm.rdSI (n := 2) rfl)) (by rw [laws_toCharge_eq]; exact (smCharge_wt (by omega)))) (Wd_none rfl) (by decide) (fun z114 => ?_)
              refine WM_form (n := 0) rfl ?_
              rintro A115 c116 rfl m117
              refine WM_val (fun W hm => rv_assign rfl) (Wd_none rfl) rfl (by decide) ?_
              refine WM_nil ?_
              refine QM_then ?_
              refine CM_seq ?_
              refine CM_seq ?_
              refine CM_region ?_
              refine WM_val (fun W hm => rv_move rfl) (Wd_none rfl) rfl (by decide) ?_
              refine WM_val (fun W hm => rv_move rfl) (Wd_none rfl) rfl (by decide) ?_
              refine WM_callV (cl_fn cb45 rfl) (fun W hm => laws_eqIntS_c W _ (impl_SharesOf_m (laws_toCharge_m x0)) _ (spec_SharesOf_m (laws_toCharge_m x0)) (hm.rdSI (n := 0) rfl) (hm.rdSI (n := 12) rfl)) (Wd_none rfl) (by decide) ?_
              refine WM_val (fun W hm => rv_not rfl) (Wd_none rfl) rfl (by decide) ?_
              refine WM_nil ?_
              refine QM_then ?_
              refine CM_condF rfl (nt g69) ?_
              refine CM_skip ?_
              refine QM_then ?_
              refine CM_seq ?_
              refine CM_region ?_
              refine WM_val (fun W hm => rv_assign rfl) (Wd_none rfl) rfl (by decide) ?_
              refine WM_nil ?_
              refine QM_then ?_
              refine CM_seq ?_
              refine CM_region ?_
              refine WM_val (fun W hm => rv_move rfl) (Wd_none rfl) rfl (by decide) ?_
              refine WM_val (fun W hm => rv_move rfl) (Wd_none rfl) rfl (by decide) ?_
              refine WM_callV (cl_fn cb48 rfl) (fun W hm => laws_heldIntS_c W _ ((laws_markIntS_m (impl_SharesOf_m (laws_toCharge_m x0)) 1).2) 1 (hm.rdSI (n := 4) rfl)) (Wd_none rfl) (by decide) ?_
              refine WM_val (fun W hm => rv_assign rfl) (Wd_none rfl) rfl (by decide) ?_
              refine WM_nil ?_
              refine QM_then ?_
              refine CM_seq ?_
              refine CM_seq ?_
              refine CM_region ?_
              refine WM_val (fun W hm => rv_move rfl) (Wd_none rfl) rfl (by decide) ?_
              refine WM_val (fun W hm => rv_lss rfl rfl) (Wd_none rfl) rfl (by decide) ?_
              refine WM_nil ?_
              refine QM_then ?_
              refine CM_condF rfl g95 ?_
              refine CM_skip ?_
              refine QM_then ?_
              refine CM_seq ?_
              refine CM_seq ?_
              refine CM_region ?_
              refine WM_val (fun W hm => rv_move rfl) (Wd_none rfl) rfl (by decide) ?_
              refine WM_val (fun W hm => rv_move rfl) (Wd_none rfl) rfl (by decide) ?_
              refine WM_val (fun W hm => rv_neq rfl rfl) (Wd_none rfl) rfl (by decide) ?_
              refine WM_nil ?_
              refine QM_then ?_
              refine CM_condF rfl g97 ?_
              refine CM_skip ?_
              refine QM_then ?_
              refine CM_seq ?_
              refine CM_region ?_
              refine WM_val (fun W hm => rv_assign rfl) (Wd_none rfl) rfl (by decide) ?_
              refine WM_nil ?_
              refine QM_then ?_
              refine CM_ret ?_
              exact QM_ret1 rfl rfl (fun W hm => ⟨ret_b (show laws_FnExactSharesOf_m x0 = true from by unfold laws_FnExactSharesOf_m; exact cond_f g24 (cond_t g69 (cond_t g87 (cond_f g93 (cond_f g95 (cond_f g97 (rfl))))))), hm.below⟩)
            · have g97 : ((laws_heldIntS_m ((laws_markIntS_m (impl_SharesOf_m (laws_toCharge_m x0)) 1).2) 1) != ((laws_markIntS_m (impl_SharesOf_m (laws_toCharge_m x0)) 1).1)) = true := bne_iff_ne.2 h96
              refine CM_condT rfl g97 ?_
              refine CM_seq ?_
              refine CM_region ?_
              refine WM_val (fun W hm => rv_assign rfl) (Wd_none rfl) rfl (by decide) ?_
              refine WM_nil ?_
              refine QM_then ?_
              refine CM_ret ?_
              refine QM_then_ret ?_
              exact QM_ret1 rfl rfl (fun W hm => ⟨ret_b (show laws_FnExactSharesOf_m x0 = false from by unfold laws_FnExactSharesOf_m; exact cond_f g24 (cond_t g69 (cond_t g87 (cond_f g93 (cond_f g95 (cond_t g97 (rfl))))))), hm.below⟩)
      ·
        refine CM_condT rfl (nf g87) ?_
        refine CM_seq ?_
        refine CM_region ?_
        refine WM_val (fun W hm => rv_assign rfl) (Wd_none rfl) rfl (by decide) ?_
        refine WM_nil ?_
        refine QM_then ?_
        refine CM_ret ?_
        refine QM_then_ret ?_
        exact QM_ret1 rfl rfl (fun W hm => ⟨ret_b (show laws_FnExactSharesOf_m x0 = false from by unfold laws_FnExactSharesOf_m; exact cond_f g24 (cond_t g69 (cond_f g87 (rfl)))), hm.below⟩)
    ·
      refine CM_condT rfl (nf g69) ?_
      refine CM_seq ?_
      refine CM_region ?_
      refine WM_val (fun W hm => rv_assign rfl) (Wd_none rfl) rfl (by decide) ?_
      refine WM_nil ?_
      refine QM_then ?_
      refine CM_ret ?_
      refine QM_then_ret ?_
      exact QM_ret1 rfl rfl (fun W hm => ⟨ret_b (show laws_FnExactSharesOf_m x0 = false from by unfold laws_FnExactSharesOf_m; exact cond_f g24 (cond_f g69 (rfl))), hm.below⟩)

end Go.Proofs.Ytlpgopanikikkaa
