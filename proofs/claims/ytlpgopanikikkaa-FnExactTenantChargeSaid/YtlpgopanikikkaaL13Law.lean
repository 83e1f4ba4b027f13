/-
  The contract of the law.
-/
import Derived.Test.YtlpgopanikikkaaL13Pl
namespace Go.Proofs.Ytlpgopanikikkaa
open Go.RowKit
def laws_FnExactTenantCharge_m (x0 : (List DCharge)) (x1 : Int) : Bool :=
  cond (decide ((laws_szChargeS_m x0 1048576) < 0)) true (cond ((impl_TenantCharge_m (laws_toChargeS_m x0) x1) != (spec_TenantCharge_m (laws_toChargeS_m x0) x1)) false (cond (laws_eqChargeS_m (laws_toChargeS_m x0) (laws_toChargeS_m x0)) true false))
theorem cb13 : Cb Try.prog 13 := ⟨Try.f13, _, Try.func13, rfl, by decide⟩
set_option maxRecDepth 10000 in
theorem laws_FnExactTenantCharge_c (w : World) (z0 : Value) (x0 : (List DCharge)) (x1 : Int) (r_0 : rdS tyLCharge w w.heap.size z0 x0) :
    Calls Try.prog 13 #[z0, .int .i64 x1] w fun e w' => e = .returned (.bool (laws_FnExactTenantCharge_m x0 x1)) ∧ Below w.heap.size w w' := by
  have ok0 := (rdS_sm r_0 fun _ _ h => (tyLCharge_sm h))
  have r5 := r_0
  obtain ⟨m1, A2, c3, rfl, q4⟩ := r_0
  refine call_enterM (L := [(0, .slice A2 x0.length c3), (1, .int .i64 x1)]) (N := 31) Try.func13 rfl rfl (Nat.le_of_ble_eq_true rfl) (argsL_cons rfl (argsL_cons rfl argsL_nil)) ?_
  refine CM_seq ?_
  refine CM_region ?_
  refine WM_val (fun W hm => rv_assign rfl) (Wd_none rfl) rfl (by decide) ?_
  refine WM_nil ?_
  refine QM_then ?_
  refine CM_seq ?_
  refine CM_region ?_
  refine WM_val (fun W hm => rv_assign rfl) (Wd_none rfl) rfl (by decide) ?_
  refine WM_nil ?_
  refine QM_then ?_
  refine CM_seq ?_
  refine CM_region ?_
  refine WM_val (fun W hm => rv_move rfl) (Wd_none rfl) rfl (by decide) ?_
  refine WM_val (fun W hm => rv_move rfl) (Wd_none rfl) rfl (by decide) ?_
  refine WM_callV cb49 rfl (fun W hm => laws_szChargeS_c W _ x0 1048576 (hm.rdS0 r5)) (Wd_none rfl) (by decide) ?_
  refine WM_val (fun W hm => rv_assign rfl) (Wd_none rfl) rfl (by decide) ?_
  refine WM_nil ?_
  refine QM_then ?_
  refine CM_seq ?_
  refine CM_seq ?_
  refine CM_region ?_
  refine WM_val (fun W hm => rv_move rfl) (Wd_none rfl) rfl (by decide) ?_
  refine WM_val (fun W hm => rv_lss rfl rfl) (Wd_none rfl) rfl (by decide) ?_
  refine WM_nil ?_
  refine QM_then ?_
  by_cases h6 : (laws_szChargeS_m x0 1048576) < 0
  · have g7 : (decide ((laws_szChargeS_m x0 1048576) < 0)) = true := decide_eq_true h6
    refine CM_condT rfl g7 ?_
    refine CM_seq ?_
    refine CM_region ?_
    refine WM_val (fun W hm => rv_assign rfl) (Wd_none rfl) rfl (by decide) ?_
    refine WM_nil ?_
    refine QM_then ?_
    refine CM_ret ?_
    refine QM_then_ret ?_
    exact QM_ret1 rfl rfl (fun W hm => ⟨ret_b (show laws_FnExactTenantCharge_m x0 x1 = true from by unfold laws_FnExactTenantCharge_m; exact cond_t g7 (rfl)), hm.below⟩)
  · have g7 : (decide ((laws_szChargeS_m x0 1048576) < 0)) = false := decide_eq_false h6
    obtain ⟨hz0, hy0, hw0⟩ := sz_small laws_szChargeS_ok ok0 (by omega) (by omega) g7
    refine CM_condF rfl g7 ?_
    refine CM_skip ?_
    refine QM_then ?_
    refine CM_seq ?_
    refine CM_region ?_
    refine WM_val (fun W hm => rv_move rfl) (Wd_none rfl) rfl (by decide) ?_
    refine WM_call (χ := Value) (val := fun x => x) (js := fun x => [iOwn (tSl tyCharge 37) [x] (laws_toChargeS_m x0)]) cb51 rfl (fun W hm => laws_toChargeS_c W _ x0 (hm.rdS0 r5) (sm_wtS (by omega) fun y h => (smCharge_wt (h)))) (Wd_none rfl) (by decide) (fun z8 => ?_)
    refine WM_form (n := 0) rfl ?_
    rintro A9 c10 rfl m11
    refine WM_val (fun W hm => rv_move rfl) (Wd_none rfl) rfl (by decide) ?_
    refine WM_callV cb56 rfl (fun W hm => spec_TenantCharge_c W _ (laws_toChargeS_m x0) x1 (hm.rdSI (n := 0) rfl) (by rw [laws_toChargeS_eq]; exact (sm_wtS (by omega) fun y h => (smCharge_wt (h))))) (Wd_none rfl) (by decide) ?_
    refine WM_val (fun W hm => rv_assign rfl) (Wd_none rfl) rfl (by decide) ?_
    refine WM_nil ?_
    refine QM_then ?_
    refine CM_seq ?_
    refine CM_region ?_
    refine WM_val (fun W hm => rv_move rfl) (Wd_none rfl) rfl (by decide) ?_
    refine WM_call (χ := Value) (val := fun x => x) (js := fun x => [iOwn (tSl tyCharge 37) [x] (laws_toChargeS_m x0)]) cb51 rfl (fun W hm => laws_toChargeS_c W _ x0 (hm.rdS0 r5) (sm_wtS (by omega) fun y h => (smCharge_wt (h)))) (Wd_none rfl) (by decide) (fun z13 => ?_)
    refine WM_form (n := 0) rfl ?_
    rintro A14 c15 rfl m16
    refine WM_val (fun W hm => rv_assign rfl) (Wd_none rfl) rfl (by decide) ?_
    refine WM_nil ?_
    refine QM_then ?_
    refine CM_seq ?_
    refine CM_region ?_
    refine WM_val (fun W hm => rv_move rfl) (Wd_none rfl) rfl (by decide) ?_
    refine WM_val (fun W hm => rv_move rfl) (Wd_none rfl) rfl (by decide) ?_
    refine WM_callV cb57 rfl (fun W hm => impl_TenantCharge_c W _ (laws_toChargeS_m x0) x1 (hm.rdSI (n := 0) rfl) (by rw [laws_toChargeS_eq]; exact (sm_wtS (by omega) fun y h => (smCharge_wt (h))))) (Wd_none rfl) (by decide) ?_
    refine WM_val (fun W hm => rv_assign rfl) (Wd_none rfl) rfl (by decide) ?_
    refine WM_nil ?_
    refine QM_then ?_
    refine CM_seq ?_
    refine CM_seq ?_
    refine CM_region ?_
    refine WM_val (fun W hm => rv_move rfl) (Wd_none rfl) rfl (by decide) ?_
    refine WM_val (fun W hm => rv_move rfl) (Wd_none rfl) rfl (by decide) ?_
    refine WM_val (fun W hm => rv_neq rfl rfl) (Wd_none rfl) rfl (by decide) ?_
    refine WM_nil ?_
    refine QM_then ?_
    by_cases h18 : (impl_TenantCharge_m (laws_toChargeS_m x0) x1) = (spec_TenantCharge_m (laws_toChargeS_m x0) x1)
    · have g19 : ((impl_TenantCharge_m (laws_toChargeS_m x0) x1) != (spec_TenantCharge_m (laws_toChargeS_m x0) x1)) = false := by rw [h18]; exact bne_self_eq_false _
      refine CM_condF rfl g19 ?_
      refine CM_skip ?_
      refine QM_then ?_
      refine CM_seq ?_
      refine CM_seq ?_
      refine CM_region ?_
      refine WM_val (fun W hm => rv_move rfl) (Wd_none rfl) rfl (by decide) ?_
      refine WM_val (fun W hm => rv_move rfl) (Wd_none rfl) rfl (by decide) ?_
      refine WM_call (χ := Value) (val := fun x => x) (js := fun x => [iOwn (tSl tyCharge 37) [x] (laws_toChargeS_m x0)]) cb51 rfl (fun W hm => laws_toChargeS_c W _ x0 (hm.rdS0 r5) (sm_wtS (by omega) fun y h => (smCharge_wt (h)))) (Wd_none rfl) (by decide) (fun z20 => ?_)
      refine WM_form (n := 0) rfl ?_
      rintro A21 c22 rfl m23
      refine WM_callV cb53 rfl (fun W hm => laws_eqChargeS_c W _ (laws_toChargeS_m x0) _ (laws_toChargeS_m x0) (hm.rdSI (n := 1) rfl) (hm.rdSI (n := 0) rfl)) (Wd_none rfl) (by decide) ?_
      refine WM_val (fun W hm => rv_not rfl) (Wd_none rfl) rfl (by decide) ?_
      refine WM_nil ?_
      refine QM_then ?_
      rcases Bool.eq_false_or_eq_true (laws_eqChargeS_m (laws_toChargeS_m x0) (laws_toChargeS_m x0)) with g26 | g26
      ·
        refine CM_condF rfl (nt g26) ?_
        refine CM_skip ?_
        refine QM_then ?_
        refine CM_seq ?_
        refine CM_region ?_
        refine WM_val (fun W hm => rv_assign rfl) (Wd_none rfl) rfl (by decide) ?_
        refine WM_nil ?_
        refine QM_then ?_
        refine CM_ret ?_
        exact QM_ret1 rfl rfl (fun W hm => ⟨ret_b (show laws_FnExactTenantCharge_m x0 x1 = true from by unfold laws_FnExactTenantCharge_m; exact cond_f g7 (cond_f g19 (cond_t g26 (rfl)))), hm.below⟩)
      ·
        refine CM_condT rfl (nf g26) ?_
        refine CM_seq ?_
        refine CM_region ?_
        refine WM_val (fun W hm => rv_assign rfl) (Wd_none rfl) rfl (by decide) ?_
        refine WM_nil ?_
        refine QM_then ?_
        refine CM_ret ?_
        refine QM_then_ret ?_
        exact QM_ret1 rfl rfl (fun W hm => ⟨ret_b (show laws_FnExactTenantCharge_m x0 x1 = false from by unfold laws_FnExactTenantCharge_m; exact cond_f g7 (cond_f g19 (cond_f g26 (rfl)))), hm.below⟩)
    · have g19 : ((impl_TenantCharge_m (laws_toChargeS_m x0) x1) != (spec_TenantCharge_m (laws_toChargeS_m x0) x1)) = true := bne_iff_ne.2 h18
      refine CM_condT rfl g19 ?_
      refine CM_seq ?_
      refine CM_region ?_
      refine WM_val (fun W hm => rv_assign rfl) (Wd_none rfl) rfl (by decide) ?_
      refine WM_nil ?_
      refine QM_then ?_
      refine CM_ret ?_
      refine QM_then_ret ?_
      exact QM_ret1 rfl rfl (fun W hm => ⟨ret_b (show laws_FnExactTenantCharge_m x0 x1 = false from by unfold laws_FnExactTenantCharge_m; exact cond_f g7 (cond_t g19 (rfl))), hm.below⟩)

end Go.Proofs.Ytlpgopanikikkaa
