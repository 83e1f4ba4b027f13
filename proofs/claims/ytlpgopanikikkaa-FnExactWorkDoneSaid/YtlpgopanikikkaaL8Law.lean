/-
  The contract of the law.
-/
import Derived.Test.YtlpgopanikikkaaL8Pl
namespace Go.Proofs.Ytlpgopanikikkaa
open Go.RowKit
def laws_FnExactWorkDone_m (x0 : DCharge) : Bool :=
  cond (decide ((laws_szCharge_m x0 1048576) < 0)) true (cond ((impl_WorkDone_m (laws_toCharge_m x0)) != (spec_WorkDone_m (laws_toCharge_m x0))) false (cond (laws_eqCharge_m (laws_toCharge_m x0) (laws_toCharge_m x0)) true false))
theorem cb8 : Cb Try.prog 8 := ⟨Try.f8, _, Try.func8, rfl, by decide⟩
set_option maxRecDepth 10000 in
set_option maxHeartbeats 4000000 in
theorem laws_FnExactWorkDone_c (w : World) (z0 : List Value) (x0 : DCharge) (r_0 : tyLCharge.rd w w.heap.size z0 x0) :
    Calls Try.prog 8 #[.agg z0.toArray] w fun e w' => e = .returned (.bool (laws_FnExactWorkDone_m x0)) ∧ Below w.heap.size w w' := by
  have ok0 := (tyLCharge_sm r_0)
  obtain ⟨v1, v3, v5, rfl, r2, r4, r6⟩ := tyLCharge_rd r_0
  have r11 := r2
  obtain ⟨m7, A8, c9, rfl, q10⟩ := r2
  have r16 := r4
  obtain ⟨m12, A13, c14, rfl, q15⟩ := r4
  have r21 := r6
  obtain ⟨m17, A18, c19, rfl, q20⟩ := r6
  refine call_enterM (L := [(0, .agg #[.int .i64 x0.Segment, .int .i64 x0.Base, .slice A8 x0.Ids.length c9, .slice A13 x0.Tenants.length c14, .slice A18 x0.Rows.length c19])]) (N := 27) Try.func8 rfl rfl (Nat.le_of_ble_eq_true rfl) (argsL_cons rfl argsL_nil) ?_
  refine CM_seq ?_
  refine CM_region ?_
  refine WM_box rfl (Wd_none rfl) (by decide) (fun p22 => ?_)
  refine WM_val (fun W hm => rv_assign rfl) (Wd_none rfl) rfl (by decide) ?_
  refine WM_nil ?_
  refine QM_then ?_
  refine CM_seq ?_
  refine CM_region ?_
  refine WM_val (fun W hm => rv_assign rfl) (Wd_none rfl) rfl (by decide) ?_
  refine WM_nil ?_
  refine QM_then ?_
  refine CM_seq ?_
  refine CM_region ?_
  refine WM_val (fun W hm => rv_loadN (cs := [.int .i64 x0.Segment, .int .i64 x0.Base, .slice A8 x0.Ids.length c9, .slice A13 x0.Tenants.length c14, .slice A18 x0.Rows.length c19]) Try.underlying34 Try.type34 rfl rfl (hm.boxCells (n := 0) rfl)) (Wd_none rfl) rfl (by decide) ?_
  refine WM_val (fun W hm => rv_move rfl) (Wd_none rfl) rfl (by decide) ?_
  refine WM_callV (cl_fn cb24 rfl) (fun W hm => laws_szCharge_c W _ x0 1048576 (tyLCharge_mk (hm.rdS0 r11) (hm.rdS0 r16) (hm.rdS0 r21))) (Wd_none rfl) (by decide) ?_
  refine WM_val (fun W hm => rv_assign rfl) (Wd_none rfl) rfl (by decide) ?_
  refine WM_nil ?_
  refine QM_then ?_
  refine CM_seq ?_
  refine CM_seq ?_
  refine CM_region ?_
  refine WM_val (fun W hm => rv_move rfl) (Wd_none rfl) rfl (by decide) ?_
  refine WM_val (fun W hm => rv_lss rfl rfl) (Wd_none rfl) rfl (by decide) ?_
  refine WM_nil ?_
  refine QM_then ?_
  by_cases h23 : (laws_szCharge_m x0 1048576) < 0
  · have g24 : (decide ((laws_szCharge_m x0 1048576) < 0)) = true := decide_eq_true h23
    refine CM_condT rfl g24 ?_
    refine CM_seq ?_
    refine CM_region ?_
    refine WM_val (fun W hm => rv_assign rfl) (Wd_none rfl) rfl (by decide) ?_
    refine WM_nil ?_
    refine QM_then ?_
    refine CM_ret ?_
    refine QM_then_ret ?_
    exact QM_ret1 rfl rfl (fun W hm => ⟨ret_b (show laws_FnExactWorkDone_m x0 = true from by unfold laws_FnExactWorkDone_m; exact cond_t g24 (rfl)), hm.below⟩)
  · have g24 : (decide ((laws_szCharge_m x0 1048576) < 0)) = false := decide_eq_false h23
    obtain ⟨hz0, hy0, hw0⟩ := sz_small laws_szCharge_ok ok0 (by omega) (by omega) g24
    refine CM_condF rfl g24 ?_
    refine CM_skip ?_
    refine QM_then ?_
    refine CM_seq ?_
    refine CM_region ?_
    refine WM_val (fun W hm => rv_loadN (cs := [.int .i64 x0.Segment, .int .i64 x0.Base, .slice A8 x0.Ids.length c9, .slice A13 x0.Tenants.length c14, .slice A18 x0.Rows.length c19]) Try.underlying34 Try.type34 rfl rfl (hm.boxCells (n := 0) rfl)) (Wd_none rfl) rfl (by decide) ?_
    refine WM_call (χ := List Value) (val := fun x => .agg x.toArray) (js := fun x => [iOwn tyCharge x (laws_toCharge_m x0)]) (cl_fn cb26 rfl) (fun W hm => laws_toCharge_c W _ x0 (tyLCharge_mk (hm.rdS0 r11) (hm.rdS0 r16) (hm.rdS0 r21)) (smCharge_wt (by omega))) (Wd_none rfl) (by decide) (fun z25 => ?_)
    refine WM_split (γ := Value × Value × Value) (js := fun g => [iOwn (tSl tInt 3) [g.1] ((laws_toCharge_m x0).Ids), iOwn (tSl tInt 3) [g.2.1] ((laws_toCharge_m x0).Tenants), iOwn (tSl tInt 3) [g.2.2] ((laws_toCharge_m x0).Rows)]) (C := fun g => z25 = [.int .i64 ((laws_toCharge_m x0).Segment), .int .i64 ((laws_toCharge_m x0).Base), g.1, g.2.1, g.2.2]) (fun _ _ h => tyCharge_split h) ?_
    rintro ⟨v26, v27, v28⟩ rfl
    refine WM_form (n := 0) rfl ?_
    rintro A29 c30 rfl m31
    refine WM_form (n := 1) rfl ?_
    rintro A33 c34 rfl m35
    refine WM_form (n := 2) rfl ?_
    rintro A37 c38 rfl m39
    refine WM_callV (cl_fn cb39 rfl) (fun W hm => spec_WorkDone_c W _ (laws_toCharge_m x0) (tyCharge_mk (hm.rdSI (n := 0) rfl) (hm.rdSI (n := 1) rfl) (hm.rdSI (n := 2) rfl))) (Wd_none rfl) (by decide) ?_
    refine WM_val (fun W hm => rv_assign rfl) (Wd_none rfl) rfl (by decide) ?_
    refine WM_nil ?_
    refine QM_then ?_
    refine CM_seq ?_
    refine CM_region ?_
    refine WM_val (fun W hm => rv_loadN (cs := [.int .i64 x0.Segment, .int .i64 x0.Base, .slice A8 x0.Ids.length c9, .slice A13 x0.Tenants.length c14, .slice A18 x0.Rows.length c19]) Try.underlying34 Try.type34 rfl rfl (hm.boxCells (n := 3) rfl)) (Wd_none rfl) rfl (by decide) ?_
    refine WM_call (χ := List Value) (val := fun x => .agg x.toArray) (js := fun x => [iOwn tyCharge x (laws_toCharge_m x0)]) (cl_fn cb26 rfl) (fun W hm => laws_toCharge_c W _ x0 (tyLCharge_mk (hm.rdS0 r11) (hm.rdS0 r16) (hm.rdS0 r21)) (smCharge_wt (by omega))) (Wd_none rfl) (by decide) (fun z41 => ?_)
    refine WM_split (γ := Value × Value × Value) (js := fun g => [iOwn (tSl tInt 3) [g.1] ((laws_toCharge_m x0).Ids), iOwn (tSl tInt 3) [g.2.1] ((laws_toCharge_m x0).Tenants), iOwn (tSl tInt 3) [g.2.2] ((laws_toCharge_m x0).Rows)]) (C := fun g => z41 = [.int .i64 ((laws_toCharge_m x0).Segment), .int .i64 ((laws_toCharge_m x0).Base), g.1, g.2.1, g.2.2]) (fun _ _ h => tyCharge_split h) ?_
    rintro ⟨v42, v43, v44⟩ rfl
    refine WM_form (n := 0) rfl ?_
    rintro A45 c46 rfl m47
    refine WM_form (n := 1) rfl ?_
    rintro A49 c50 rfl m51
    refine WM_form (n := 2) rfl ?_
    rintro A53 c54 rfl m55
    refine WM_alloc Try.type37 rfl (Wd_none rfl) (by decide) (fun p57 => ?_)
    refine WM_storeBox (p := p57) (o := 0) (cs := [.int .i64 0, .int .i64 0, .slice none 0 0, .slice none 0 0, .slice none 0 0]) (cs' := [.int .i64 ((laws_toCharge_m x0).Segment), .int .i64 ((laws_toCharge_m x0).Base), .slice A45 ((laws_toCharge_m x0).Ids).length c46, .slice A49 ((laws_toCharge_m x0).Tenants).length c50, .slice A53 ((laws_toCharge_m x0).Rows).length c54]) (fun w hm => hm.front (n := 0) rfl) Try.type37 rfl (Nat.le_of_ble_eq_true rfl) rfl rfl rfl rfl (Wd_none rfl) ?_
    refine WM_nil ?_
    refine QM_then ?_
    refine CM_seq ?_
    refine CM_region ?_
    refine WM_val (fun W hm => rv_loadN (cs := [.int .i64 ((laws_toCharge_m x0).Segment), .int .i64 ((laws_toCharge_m x0).Base), .slice A45 ((laws_toCharge_m x0).Ids).length c46, .slice A49 ((laws_toCharge_m x0).Tenants).length c50, .slice A53 ((laws_toCharge_m x0).Rows).length c54]) Try.underlying37 Try.type37 rfl rfl (hm.boxCells (n := 0) rfl)) (Wd_none rfl) rfl (by decide) ?_
    refine WM_callV (cl_fn cb40 rfl) (fun W hm => impl_WorkDone_c W _ (laws_toCharge_m x0) (tyCharge_mk (hm.rdSI (n := 1) rfl) (hm.rdSI (n := 2) rfl) (hm.rdSI (n := 3) rfl))) (Wd_none rfl) (by decide) ?_
    refine WM_val (fun W hm => rv_assign rfl) (Wd_none rfl) rfl (by decide) ?_
    refine WM_nil ?_
    refine QM_then ?_
    refine CM_seq ?_
    refine CM_seq ?_
    refine CM_region ?_
    refine WM_val (fun W hm => rv_move rfl) (Wd_none rfl) rfl (by decide) ?_
    refine WM_val (fun W hm => rv_move rfl) (Wd_none rfl) rfl (by decide) ?_
    refine WM_val (fun W hm => rv_neq rfl rfl) (Wd_none rfl) rfl (by decide) ?_
    refine WM_nil ?_
    refine QM_then ?_
    by_cases h58 : (impl_WorkDone_m (laws_toCharge_m x0)) = (spec_WorkDone_m (laws_toCharge_m x0))
    · have g59 : ((impl_WorkDone_m (laws_toCharge_m x0)) != (spec_WorkDone_m (laws_toCharge_m x0))) = false := by rw [h58]; exact bne_self_eq_false _
      refine CM_condF rfl g59 ?_
      refine CM_skip ?_
      refine QM_then ?_
      refine CM_seq ?_
      refine CM_seq ?_
      refine CM_regionB (n := 5) (listed := #[false, false, false, false, false]) (by kernel_rfl) rfl (by kernel_rfl) ?_
      refine QB_take 0 (listed' := #[true, false, false, false, false]) (by kernel_rfl) rfl (by kernel_rfl) (by kernel_rfl) (by kernel_rfl) (fun _ _ _ h => h) (fun W hm => rv_loadN (cs := [.int .i64 ((laws_toCharge_m x0).Segment), .int .i64 ((laws_toCharge_m x0).Base), .slice A45 ((laws_toCharge_m x0).Ids).length c46, .slice A49 ((laws_toCharge_m x0).Tenants).length c50, .slice A53 ((laws_toCharge_m x0).Rows).length c54]) Try.underlying37 Try.type37 rfl rfl (hm.boxCells (n := 0) rfl)) (Wd_none rfl) rfl (by decide) ?_
      refine QB_take 1 (listed' := #[true, true, false, false, false]) (by kernel_rfl) rfl (by kernel_rfl) (by kernel_rfl) (by kernel_rfl) (fun _ _ _ h => h) (fun W hm => rv_loadN (cs := [.int .i64 x0.Segment, .int .i64 x0.Base, .slice A8 x0.Ids.length c9, .slice A13 x0.Tenants.length c14, .slice A18 x0.Rows.length c19]) Try.underlying34 Try.type34 rfl rfl (hm.boxCells (n := 7) rfl)) (Wd_none rfl) rfl (by decide) ?_
      refine QB_one 2 (listed' := #[true, true, true, false, false]) (by kernel_rfl) rfl (by kernel_rfl) ?_
      refine WM_call (χ := List Value) (val := fun x => .agg x.toArray) (js := fun x => [iOwn tyCharge x (laws_toCharge_m x0)]) (cl_fn cb26 rfl) (fun W hm => laws_toCharge_c W _ x0 (tyLCharge_mk (hm.rdS0 r11) (hm.rdS0 r16) (hm.rdS0 r21)) (smCharge_wt (by omega))) (Wd_none rfl) (by decide) (fun z60 => ?_)
      refine WM_split (γ := Value × Value × Value) (js := fun g => [iOwn (tSl tInt 3) [g.1] ((laws_toCharge_m x0).Ids), iOwn (tSl tInt 3) [g.2.1] ((laws_toCharge_m x0).Tenants), iOwn (tSl tInt 3) [g.2.2] ((laws_toCharge_m x0).Rows)]) (C := fun g => z60 = [.int .i64 ((laws_toCharge_m x0).Segment), .int .i64 ((laws_toCharge_m x0).Base), g.1, g.2.1, g.2.2]) (fun _ _ h => tyCharge_split h) ?_
      rintro ⟨v61, v62, v63⟩ rfl
      refine WM_form (n := 0) rfl ?_
      rintro A64 c65 rfl m66
      refine WM_form (n := 1) rfl ?_
      rintro A68 c69 rfl m70
      refine WM_form (n := 2) rfl ?_
      rintro A72 c73 rfl m74
      refine WM_nil ?_
      refine QB_next (fun W hm => (((((((((((hm.front (n := 10) rfl).front (n := 10) rfl).front (n := 10) rfl).front (n := 10) rfl).front (n := 10) rfl).front (n := 10) rfl).front (n := 10) rfl).front (n := 10) rfl).front (n := 8) rfl).tail.front (n := 8) rfl).tail.front (n := 8) rfl).tail) ?_
      refine QB_one 3 (listed' := #[true, true, true, true, false]) (by kernel_rfl) rfl (by kernel_rfl) ?_
      refine WM_callV (cl_fn cb28 rfl) (fun W hm => laws_eqCharge_c W _ (laws_toCharge_m x0) _ (laws_toCharge_m x0) (tyCharge_mk (hm.rdSI (n := 4) rfl) (hm.rdSI (n := 5) rfl) (hm.rdSI (n := 6) rfl)) (tyCharge_mk (hm.rdSI (n := 0) rfl) (hm.rdSI (n := 1) rfl) (hm.rdSI (n := 2) rfl))) (Wd_none rfl) (by decide) ?_
      refine WM_nil ?_
      refine QB_next (fun W hm => (((((((((((hm.front (n := 10) rfl).front (n := 10) rfl).front (n := 10) rfl).front (n := 10) rfl).front (n := 10) rfl).front (n := 10) rfl).front (n := 10) rfl).front (n := 10) rfl).front (n := 10) rfl).front (n := 10) rfl).front (n := 10) rfl)) ?_
      refine QB_take 4 (listed' := #[true, true, true, true, true]) (by kernel_rfl) rfl (by kernel_rfl) (by kernel_rfl) (by kernel_rfl) (fun _ _ _ h => h) (fun W hm => rv_not rfl) (Wd_none rfl) rfl (by decide) ?_
      refine QB_done (by kernel_rfl) ?_
      refine QM_then ?_
      rcases Bool.eq_false_or_eq_true (laws_eqCharge_m (laws_toCharge_m x0) (laws_toCharge_m x0)) with g77 | g77
      ·
        refine CM_condF rfl (nt g77) ?_
        refine CM_skip ?_
        refine QM_then ?_
        refine CM_seq ?_
        refine CM_region ?_
        refine WM_val (fun W hm => rv_assign rfl) (Wd_none rfl) rfl (by decide) ?_
        refine WM_nil ?_
        refine QM_then ?_
        refine CM_ret ?_
        exact QM_ret1 rfl rfl (fun W hm => ⟨ret_b (show laws_FnExactWorkDone_m x0 = true from by unfold laws_FnExactWorkDone_m; exact cond_f g24 (cond_f g59 (cond_t g77 (rfl)))), hm.below⟩)
      ·
        refine CM_condT rfl (nf g77) ?_
        refine CM_seq ?_
        refine CM_region ?_
        refine WM_val (fun W hm => rv_assign rfl) (Wd_none rfl) rfl (by decide) ?_
        refine WM_nil ?_
        refine QM_then ?_
        refine CM_ret ?_
        refine QM_then_ret ?_
        exact QM_ret1 rfl rfl (fun W hm => ⟨ret_b (show laws_FnExactWorkDone_m x0 = false from by unfold laws_FnExactWorkDone_m; exact cond_f g24 (cond_f g59 (cond_f g77 (rfl)))), hm.below⟩)
    · have g59 : ((impl_WorkDone_m (laws_toCharge_m x0)) != (spec_WorkDone_m (laws_toCharge_m x0))) = true := bne_iff_ne.2 h58
      refine CM_condT rfl g59 ?_
      refine CM_seq ?_
      refine CM_region ?_
      refine WM_val (fun W hm => rv_assign rfl) (Wd_none rfl) rfl (by decide) ?_
      refine WM_nil ?_
      refine QM_then ?_
      refine CM_ret ?_
      refine QM_then_ret ?_
      exact QM_ret1 rfl rfl (fun W hm => ⟨ret_b (show laws_FnExactWorkDone_m x0 = false from by unfold laws_FnExactWorkDone_m; exact cond_f g24 (cond_t g59 (rfl))), hm.below⟩)

end Go.Proofs.Ytlpgopanikikkaa
