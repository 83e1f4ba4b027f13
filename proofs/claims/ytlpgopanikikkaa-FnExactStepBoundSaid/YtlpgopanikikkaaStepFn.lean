/-
  The functions behind StepBound, and the law itself.
-/
import Derived.Test.YtlpgopanikikkaaDat
namespace Go.Proofs.Ytlpgopanikikkaa
open Go.RowKit
def spec_l1In_m (x0 : Int) (x1 : Int) (x2 : Int) : Bool :=
  cond (decide (x1 ≤ x0)) (decide (x0 ≤ x2)) false
theorem cb61 : Cb Try.prog 61 := ⟨Try.f61, _, Try.func61, rfl, by decide⟩
set_option maxRecDepth 10000 in
theorem spec_l1In_c (w : World) (x0 : Int) (x1 : Int) (x2 : Int) :
    Calls Try.prog 61 #[.int .i64 x0, .int .i64 x1, .int .i64 x2] w fun e w' => e = .returned (.bool (spec_l1In_m x0 x1 x2)) ∧ Below w.heap.size w w' := by
  refine call_enterM (L := [(0, .int .i64 x0), (1, .int .i64 x1), (2, .int .i64 x2)]) (N := 15) Try.func61 rfl rfl (Nat.le_of_ble_eq_true rfl) (argsL_cons rfl (argsL_cons rfl (argsL_cons rfl argsL_nil))) ?_
  refine CM_seq ?_
  refine CM_region ?_
  refine WM_val (fun W hm => rv_assign rfl) (Wd_none rfl) rfl (by decide) ?_
  refine WM_nil ?_
  refine QM_then ?_
  refine CM_seq ?_
  refine CM_region ?_
  refine WM_val (fun W hm => rv_move rfl) (Wd_none rfl) rfl (by decide) ?_
  refine WM_val (fun W hm => rv_move rfl) (Wd_none rfl) rfl (by decide) ?_
  refine WM_val (fun W hm => rv_geq rfl rfl) (Wd_none rfl) rfl (by decide) ?_
  refine WM_val (fun W hm => rv_move rfl) (Wd_none rfl) rfl (by decide) ?_
  by_cases h1 : x1 ≤ x0
  · have g2 : (decide (x1 ≤ x0)) = true := decide_eq_true h1
    refine WM_val (fun W hm => rv_move rfl) (Wd_some rfl rfl rfl (bw g2 rfl)) rfl (by decide) ?_
    refine WM_val (fun W hm => rv_move rfl) (Wd_some rfl rfl rfl (bw g2 rfl)) rfl (by decide) ?_
    refine WM_val (fun W hm => rv_leq rfl rfl) (Wd_some rfl rfl rfl (bw g2 rfl)) rfl (by decide) ?_
    refine WM_val (fun W hm => rv_pickT rfl g2 rfl) (Wd_none rfl) rfl (by decide) ?_
    refine WM_val (fun W hm => rv_assign rfl) (Wd_none rfl) rfl (by decide) ?_
    refine WM_nil ?_
    refine QM_then ?_
    refine CM_ret ?_
    exact QM_ret1 rfl rfl (fun W hm => ⟨ret_b (show spec_l1In_m x0 x1 x2 = (decide (x0 ≤ x2)) from by unfold spec_l1In_m; exact cond_t g2 (rfl)), hm.below⟩)
  · have g2 : (decide (x1 ≤ x0)) = false := decide_eq_false h1
    refine WM_skip (Wd_some rfl rfl rfl (bw g2 rfl)) rfl (by decide) ?_
    refine WM_skip (Wd_some rfl rfl rfl (bw g2 rfl)) rfl (by decide) ?_
    refine WM_skip (Wd_some rfl rfl rfl (bw g2 rfl)) rfl (by decide) ?_
    refine WM_val (fun W hm => rv_pickF rfl g2 rfl) (Wd_none rfl) rfl (by decide) ?_
    refine WM_val (fun W hm => rv_assign rfl) (Wd_none rfl) rfl (by decide) ?_
    refine WM_nil ?_
    refine QM_then ?_
    refine CM_ret ?_
    exact QM_ret1 rfl rfl (fun W hm => ⟨ret_b (show spec_l1In_m x0 x1 x2 = false from by unfold spec_l1In_m; exact cond_f g2 (rfl)), hm.below⟩)
def impl_within_m (x0 : Int) (x1 : Int) (x2 : Int) : Bool :=
  cond (decide (x1 ≤ x0)) (decide (x0 ≤ x2)) false
theorem cb62 : Cb Try.prog 62 := ⟨Try.f62, _, Try.func62, rfl, by decide⟩
set_option maxRecDepth 10000 in
theorem impl_within_c (w : World) (x0 : Int) (x1 : Int) (x2 : Int) :
    Calls Try.prog 62 #[.int .i64 x0, .int .i64 x1, .int .i64 x2] w fun e w' => e = .returned (.bool (impl_within_m x0 x1 x2)) ∧ Below w.heap.size w w' := by
  refine call_enterM (L := [(0, .int .i64 x0), (1, .int .i64 x1), (2, .int .i64 x2)]) (N := 15) Try.func62 rfl rfl (Nat.le_of_ble_eq_true rfl) (argsL_cons rfl (argsL_cons rfl (argsL_cons rfl argsL_nil))) ?_
  refine CM_seq ?_
  refine CM_region ?_
  refine WM_val (fun W hm => rv_assign rfl) (Wd_none rfl) rfl (by decide) ?_
  refine WM_nil ?_
  refine QM_then ?_
  refine CM_seq ?_
  refine CM_region ?_
  refine WM_val (fun W hm => rv_move rfl) (Wd_none rfl) rfl (by decide) ?_
  refine WM_val (fun W hm => rv_move rfl) (Wd_none rfl) rfl (by decide) ?_
  refine WM_val (fun W hm => rv_geq rfl rfl) (Wd_none rfl) rfl (by decide) ?_
  refine WM_val (fun W hm => rv_move rfl) (Wd_none rfl) rfl (by decide) ?_
  by_cases h1 : x1 ≤ x0
  · have g2 : (decide (x1 ≤ x0)) = true := decide_eq_true h1
    refine WM_val (fun W hm => rv_move rfl) (Wd_some rfl rfl rfl (bw g2 rfl)) rfl (by decide) ?_
    refine WM_val (fun W hm => rv_move rfl) (Wd_some rfl rfl rfl (bw g2 rfl)) rfl (by decide) ?_
    refine WM_val (fun W hm => rv_leq rfl rfl) (Wd_some rfl rfl rfl (bw g2 rfl)) rfl (by decide) ?_
    refine WM_val (fun W hm => rv_pickT rfl g2 rfl) (Wd_none rfl) rfl (by decide) ?_
    refine WM_val (fun W hm => rv_assign rfl) (Wd_none rfl) rfl (by decide) ?_
    refine WM_nil ?_
    refine QM_then ?_
    refine CM_ret ?_
    exact QM_ret1 rfl rfl (fun W hm => ⟨ret_b (show impl_within_m x0 x1 x2 = (decide (x0 ≤ x2)) from by unfold impl_within_m; exact cond_t g2 (rfl)), hm.below⟩)
  · have g2 : (decide (x1 ≤ x0)) = false := decide_eq_false h1
    refine WM_skip (Wd_some rfl rfl rfl (bw g2 rfl)) rfl (by decide) ?_
    refine WM_skip (Wd_some rfl rfl rfl (bw g2 rfl)) rfl (by decide) ?_
    refine WM_skip (Wd_some rfl rfl rfl (bw g2 rfl)) rfl (by decide) ?_
    refine WM_val (fun W hm => rv_pickF rfl g2 rfl) (Wd_none rfl) rfl (by decide) ?_
    refine WM_val (fun W hm => rv_assign rfl) (Wd_none rfl) rfl (by decide) ?_
    refine WM_nil ?_
    refine QM_then ?_
    refine CM_ret ?_
    exact QM_ret1 rfl rfl (fun W hm => ⟨ret_b (show impl_within_m x0 x1 x2 = false from by unfold impl_within_m; exact cond_f g2 (rfl)), hm.below⟩)
def spec_StepBound_m (x0 : Int) : Int :=
  cond (spec_l1In_m x0 1 8) (IntKind.i64.wrap (4 * (IntKind.i64.wrap (1 + x0)))) 0
theorem cb15 : Cb Try.prog 15 := ⟨Try.f15, _, Try.func15, rfl, by decide⟩
set_option maxRecDepth 10000 in
theorem spec_StepBound_c (w : World) (x0 : Int) :
    Calls Try.prog 15 #[.int .i64 x0] w fun e w' => e = .returned (.int .i64 (spec_StepBound_m x0)) ∧ Below w.heap.size w w' := by
  refine call_enterM (L := [(0, .int .i64 x0)]) (N := 9) Try.func15 rfl rfl (Nat.le_of_ble_eq_true rfl) (argsL_cons rfl argsL_nil) ?_
  refine CM_seq ?_
  refine CM_region ?_
  refine WM_val (fun W hm => rv_assign rfl) (Wd_none rfl) rfl (by decide) ?_
  refine WM_nil ?_
  refine QM_then ?_
  refine CM_seq ?_
  refine CM_seq ?_
  refine CM_region ?_
  refine WM_val (fun W hm => rv_move rfl) (Wd_none rfl) rfl (by decide) ?_
  refine WM_callV cb61 rfl (fun W hm => spec_l1In_c W x0 1 8) (Wd_none rfl) (by decide) ?_
  refine WM_val (fun W hm => rv_not rfl) (Wd_none rfl) rfl (by decide) ?_
  refine WM_nil ?_
  refine QM_then ?_
  rcases Bool.eq_false_or_eq_true (spec_l1In_m x0 1 8) with g2 | g2
  ·
    refine CM_condF rfl (nt g2) ?_
    refine CM_skip ?_
    refine QM_then ?_
    refine CM_seq ?_
    refine CM_region ?_
    refine WM_val (fun W hm => rv_move rfl) (Wd_none rfl) rfl (by decide) ?_
    refine WM_val (fun W hm => rv_add rfl rfl) (Wd_none rfl) rfl (by decide) ?_
    refine WM_val (fun W hm => rv_mul rfl rfl) (Wd_none rfl) rfl (by decide) ?_
    refine WM_val (fun W hm => rv_assign rfl) (Wd_none rfl) rfl (by decide) ?_
    refine WM_nil ?_
    refine QM_then ?_
    refine CM_ret ?_
    exact QM_ret1 rfl rfl (fun W hm => ⟨ret_i (show spec_StepBound_m x0 = (IntKind.i64.wrap (4 * (IntKind.i64.wrap (1 + x0)))) from by unfold spec_StepBound_m; exact cond_t g2 (rfl)), hm.below⟩)
  ·
    refine CM_condT rfl (nf g2) ?_
    refine CM_seq ?_
    refine CM_region ?_
    refine WM_val (fun W hm => rv_assign rfl) (Wd_none rfl) rfl (by decide) ?_
    refine WM_nil ?_
    refine QM_then ?_
    refine CM_ret ?_
    refine QM_then_ret ?_
    exact QM_ret1 rfl rfl (fun W hm => ⟨ret_i (show spec_StepBound_m x0 = 0 from by unfold spec_StepBound_m; exact cond_f g2 (rfl)), hm.below⟩)
def impl_StepBound_m (x0 : Int) : Int :=
  cond (impl_within_m x0 1 8) (IntKind.i64.wrap (4 * (IntKind.i64.wrap (1 + x0)))) 0
theorem cb16 : Cb Try.prog 16 := ⟨Try.f16, _, Try.func16, rfl, by decide⟩
set_option maxRecDepth 10000 in
theorem impl_StepBound_c (w : World) (x0 : Int) :
    Calls Try.prog 16 #[.int .i64 x0] w fun e w' => e = .returned (.int .i64 (impl_StepBound_m x0)) ∧ Below w.heap.size w w' := by
  refine call_enterM (L := [(0, .int .i64 x0)]) (N := 9) Try.func16 rfl rfl (Nat.le_of_ble_eq_true rfl) (argsL_cons rfl argsL_nil) ?_
  refine CM_seq ?_
  refine CM_region ?_
  refine WM_val (fun W hm => rv_assign rfl) (Wd_none rfl) rfl (by decide) ?_
  refine WM_nil ?_
  refine QM_then ?_
  refine CM_seq ?_
  refine CM_seq ?_
  refine CM_region ?_
  refine WM_val (fun W hm => rv_move rfl) (Wd_none rfl) rfl (by decide) ?_
  refine WM_callV cb62 rfl (fun W hm => impl_within_c W x0 1 8) (Wd_none rfl) (by decide) ?_
  refine WM_val (fun W hm => rv_not rfl) (Wd_none rfl) rfl (by decide) ?_
  refine WM_nil ?_
  refine QM_then ?_
  rcases Bool.eq_false_or_eq_true (impl_within_m x0 1 8) with g2 | g2
  ·
    refine CM_condF rfl (nt g2) ?_
    refine CM_skip ?_
    refine QM_then ?_
    refine CM_seq ?_
    refine CM_region ?_
    refine WM_val (fun W hm => rv_move rfl) (Wd_none rfl) rfl (by decide) ?_
    refine WM_val (fun W hm => rv_add rfl rfl) (Wd_none rfl) rfl (by decide) ?_
    refine WM_val (fun W hm => rv_mul rfl rfl) (Wd_none rfl) rfl (by decide) ?_
    refine WM_val (fun W hm => rv_assign rfl) (Wd_none rfl) rfl (by decide) ?_
    refine WM_nil ?_
    refine QM_then ?_
    refine CM_ret ?_
    exact QM_ret1 rfl rfl (fun W hm => ⟨ret_i (show impl_StepBound_m x0 = (IntKind.i64.wrap (4 * (IntKind.i64.wrap (1 + x0)))) from by unfold impl_StepBound_m; exact cond_t g2 (rfl)), hm.below⟩)
  ·
    refine CM_condT rfl (nf g2) ?_
    refine CM_seq ?_
    refine CM_region ?_
    refine WM_val (fun W hm => rv_assign rfl) (Wd_none rfl) rfl (by decide) ?_
    refine WM_nil ?_
    refine QM_then ?_
    refine CM_ret ?_
    refine QM_then_ret ?_
    exact QM_ret1 rfl rfl (fun W hm => ⟨ret_i (show impl_StepBound_m x0 = 0 from by unfold impl_StepBound_m; exact cond_f g2 (rfl)), hm.below⟩)
def laws_FnExactStepBound_m (x0 : Int) : Bool :=
  cond ((impl_StepBound_m x0) != (spec_StepBound_m x0)) false true
theorem cb3 : Cb Try.prog 3 := ⟨Try.f3, _, Try.func3, rfl, by decide⟩
set_option maxRecDepth 10000 in
theorem laws_FnExactStepBound_c (w : World) (x0 : Int) :
    Calls Try.prog 3 #[.int .i64 x0] w fun e w' => e = .returned (.bool (laws_FnExactStepBound_m x0)) ∧ Below w.heap.size w w' := by
  refine call_enterM (L := [(0, .int .i64 x0)]) (N := 12) Try.func3 rfl rfl (Nat.le_of_ble_eq_true rfl) (argsL_cons rfl argsL_nil) ?_
  refine CM_seq ?_
  refine CM_region ?_
  refine WM_val (fun W hm => rv_assign rfl) (Wd_none rfl) rfl (by decide) ?_
  refine WM_nil ?_
  refine QM_then ?_
  refine CM_seq ?_
  refine CM_region ?_
  refine WM_val (fun W hm => rv_move rfl) (Wd_none rfl) rfl (by decide) ?_
  refine WM_callV cb15 rfl (fun W hm => spec_StepBound_c W x0) (Wd_none rfl) (by decide) ?_
  refine WM_val (fun W hm => rv_assign rfl) (Wd_none rfl) rfl (by decide) ?_
  refine WM_nil ?_
  refine QM_then ?_
  refine CM_seq ?_
  refine CM_region ?_
  refine WM_val (fun W hm => rv_move rfl) (Wd_none rfl) rfl (by decide) ?_
  refine WM_callV cb16 rfl (fun W hm => impl_StepBound_c W x0) (Wd_none rfl) (by decide) ?_
  refine WM_val (fun W hm => rv_assign rfl) (Wd_none rfl) rfl (by decide) ?_
  refine WM_nil ?_
  refine QM_then ?_
  refine CM_seq ?_
  refine CM_seq ?_
  refine CM_region ?_
  refine WM_val (fun W hm => rv_move rfl) (Wd_none rfl) rfl (by decide) ?_
  refine WM_val (fun W hm => rv_move rfl) (Wd_none rfl) rfl (by decide) ?_
  refine WM_val (fun W hm => rv_neq rfl rfl) (Wd_none rfl) rfl (by decide) ?_
  refine WM_nil ?_
  refine QM_then ?_
  by_cases h1 : (impl_StepBound_m x0) = (spec_StepBound_m x0)
  · have g2 : ((impl_StepBound_m x0) != (spec_StepBound_m x0)) = false := by rw [h1]; exact bne_self_eq_false _
    refine CM_condF rfl g2 ?_
    refine CM_skip ?_
    refine QM_then ?_
    refine CM_seq ?_
    refine CM_region ?_
    refine WM_val (fun W hm => rv_assign rfl) (Wd_none rfl) rfl (by decide) ?_
    refine WM_nil ?_
    refine QM_then ?_
    refine CM_ret ?_
    exact QM_ret1 rfl rfl (fun W hm => ⟨ret_b (show laws_FnExactStepBound_m x0 = true from by unfold laws_FnExactStepBound_m; exact cond_f g2 (rfl)), hm.below⟩)
  · have g2 : ((impl_StepBound_m x0) != (spec_StepBound_m x0)) = true := bne_iff_ne.2 h1
    refine CM_condT rfl g2 ?_
    refine CM_seq ?_
    refine CM_region ?_
    refine WM_val (fun W hm => rv_assign rfl) (Wd_none rfl) rfl (by decide) ?_
    refine WM_nil ?_
    refine QM_then ?_
    refine CM_ret ?_
    refine QM_then_ret ?_
    exact QM_ret1 rfl rfl (fun W hm => ⟨ret_b (show laws_FnExactStepBound_m x0 = false from by unfold laws_FnExactStepBound_m; exact cond_t g2 (rfl)), hm.below⟩)


end Go.Proofs.Ytlpgopanikikkaa
