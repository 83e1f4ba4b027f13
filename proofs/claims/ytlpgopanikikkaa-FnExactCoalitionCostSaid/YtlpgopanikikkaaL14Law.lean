/-
  The contract of the law.
-/
import Derived.Test.YtlpgopanikikkaaL14Pl
namespace Go.Proofs.Ytlpgopanikikkaa
open Go.RowKit
def laws_FnExactCoalitionCost_m (x0 : (List DCharge)) (x1 : (List Int)) : Bool :=
  cond (decide (1048576 < ((x1.length : Nat) : Int))) true (cond (decide ((laws_szChargeS_m x0 1048576) < 0)) true (cond ((impl_CoalitionCost_m (laws_toChargeS_m x0) (laws_toIntS_m x1)) != (spec_CoalitionCost_m (laws_toChargeS_m x0) (laws_toIntS_m x1))) false (cond (laws_eqChargeS_m (laws_toChargeS_m x0) (laws_toChargeS_m x0)) (cond (laws_eqIntS_m (laws_toIntS_m x1) (laws_toIntS_m x1)) true false) false)))
theorem cb14 : Cb Try.prog 14 := ⟨Try.f14, _, Try.func14, rfl, by decide⟩
set_option maxRecDepth 10000 in
theorem laws_FnExactCoalitionCost_c (w : World) (z0 : Value) (x0 : (List DCharge)) (z1 : Value) (x1 : (List Int)) (r_0 : rdS tyLCharge w w.heap.size z0 x0) (r_1 : rdS tInt w w.heap.size z1 x1) :
    Calls Try.prog 14 #[z0, z1] w fun e w' => e = .returned (.bool (laws_FnExactCoalitionCost_m x0 x1)) ∧ Below w.heap.size w w' := by
  have ok0 := (rdS_sm r_0 fun _ _ h => (tyLCharge_sm h))
  have ok1 := r_1.1
  have r5 := r_0
  obtain ⟨m1, A2, c3, rfl, q4⟩ := r_0
  have r10 := r_1
  obtain ⟨m6, A7, c8, rfl, q9⟩ := r_1
  refine call_enterM (L := [(0, .slice A2 x0.length c3), (1, .slice A7 x1.length c8)]) (N := 43) Try.func14 rfl rfl (Nat.le_of_ble_eq_true rfl) (argsL_cons rfl (argsL_cons rfl argsL_nil)) ?_
  refine CM_seq ?_
  refine CM_region ?_
  refine WM_val (fun W hm => rv_assign rfl) (Wd_none rfl) rfl (by decide) ?_
  refine WM_nil ?_
  refine QM_then ?_
  refine CM_seq ?_
  refine CM_seq ?_
  refine CM_region ?_
  refine WM_val (fun W hm => rv_move rfl) (Wd_none rfl) rfl (by decide) ?_
  refine WM_val (fun W hm => rv_len Try.underlying32 rfl) (Wd_none rfl) rfl (by decide) ?_
  refine WM_val (fun W hm => rv_gtr rfl rfl) (Wd_none rfl) rfl (by decide) ?_
  refine WM_nil ?_
  refine QM_then ?_
  by_cases h11 : 1048576 < ((x1.length : Nat) : Int)
  · have g12 : (decide (1048576 < ((x1.length : Nat) : Int))) = true := decide_eq_true h11
    refine CM_condT rfl g12 ?_
    refine CM_seq ?_
    refine CM_region ?_
    refine WM_val (fun W hm => rv_assign rfl) (Wd_none rfl) rfl (by decide) ?_
    refine WM_nil ?_
    refine QM_then ?_
    refine CM_ret ?_
    refine QM_then_ret ?_
    exact QM_ret1 rfl rfl (fun W hm => ⟨ret_b (show laws_FnExactCoalitionCost_m x0 x1 = true from by unfold laws_FnExactCoalitionCost_m; exact cond_t g12 (rfl)), hm.below⟩)
  · have g12 : (decide (1048576 < ((x1.length : Nat) : Int))) = false := decide_eq_false h11
    have hl1 := of_decide_eq_false g12
    refine CM_condF rfl g12 ?_
    refine CM_skip ?_
    refine QM_then ?_
    refine CM_seq ?_
    refine CM_region ?_
    refine WM_val (fun W hm => rv_assign rfl) (Wd_none rfl) rfl (by decide) ?_
    refine WM_nil ?_
    refine QM_then ?_
    refine CM_seq ?_
    refine CM_region ?_
    refine WM_val (fun W hm => rv_move rfl) (Wd_none rfl) rfl (by decide) ?_
    refine WM_val (fun W hm => rv_move rfl) (Wd_none rfl) rfl (by decide) ?_
    refine WM_callV cb49 rfl (fun W hm => laws_szChargeS_c W _ x0 1048576 (hm.rdS0 r5)) (Wd_none rfl) (by decide) ?_
    refine WM_val (fun W hm => rv_assign rfl) (Wd_none rfl) rfl (by decide) ?_
    refine WM_nil ?_
    refine QM_then ?_
    refine CM_seq ?_
    refine CM_seq ?_
    refine CM_region ?_
    refine WM_val (fun W hm => rv_move rfl) (Wd_none rfl) rfl (by decide) ?_
    refine WM_val (fun W hm => rv_lss rfl rfl) (Wd_none rfl) rfl (by decide) ?_
    refine WM_nil ?_
    refine QM_then ?_
    by_cases h13 : (laws_szChargeS_m x0 1048576) < 0
    · have g14 : (decide ((laws_szChargeS_m x0 1048576) < 0)) = true := decide_eq_true h13
      refine CM_condT rfl g14 ?_
      refine CM_seq ?_
      refine CM_region ?_
      refine WM_val (fun W hm => rv_assign rfl) (Wd_none rfl) rfl (by decide) ?_
      refine WM_nil ?_
      refine QM_then ?_
      refine CM_ret ?_
      refine QM_then_ret ?_
      exact QM_ret1 rfl rfl (fun W hm => ⟨ret_b (show laws_FnExactCoalitionCost_m x0 x1 = true from by unfold laws_FnExactCoalitionCost_m; exact cond_f g12 (cond_t g14 (rfl))), hm.below⟩)
    · have g14 : (decide ((laws_szChargeS_m x0 1048576) < 0)) = false := decide_eq_false h13
      obtain ⟨hz0, hy0, hw0⟩ := sz_small laws_szChargeS_ok ok0 (by omega) (by omega) g14
      refine CM_condF rfl g14 ?_
      refine CM_skip ?_
      refine QM_then ?_
      refine CM_seq ?_
      refine CM_region ?_
      refine WM_val (fun W hm => rv_move rfl) (Wd_none rfl) rfl (by decide) ?_
      refine WM_call (χ := Value) (val := fun x => x) (js := fun x => [iOwn (tSl tyCharge 37) [x] (laws_toChargeS_m x0)]) cb51 rfl (fun W hm => laws_toChargeS_c W _ x0 (hm.rdS0 r5) (sm_wtS (by omega) fun y h => (smCharge_wt (h)))) (Wd_none rfl) (by decide) (fun z15 => ?_)
      refine WM_form (n := 0) rfl ?_
      rintro A16 c17 rfl m18
      refine WM_val (fun W hm => rv_move rfl) (Wd_none rfl) rfl (by decide) ?_
      refine WM_call (χ := Value) (val := fun x => x) (js := fun x => [iOwn (tSl tInt 3) [x] (laws_toIntS_m x1)]) cb59 rfl (fun W hm => laws_toIntS_c W _ x1 (hm.rdS0 r10) (by omega)) (Wd_none rfl) (by decide) (fun z20 => ?_)
      refine WM_form (n := 0) rfl ?_
      rintro A21 c22 rfl m23
      refine WM_callV cb58 rfl (fun W hm => spec_CoalitionCost_c W _ (laws_toChargeS_m x0) _ (laws_toIntS_m x1) (hm.rdSI (n := 1) rfl) (hm.rdSI (n := 0) rfl)) (Wd_none rfl) (by decide) ?_
      refine WM_val (fun W hm => rv_assign rfl) (Wd_none rfl) rfl (by decide) ?_
      refine WM_nil ?_
      refine QM_then ?_
      refine CM_seq ?_
      refine CM_region ?_
      refine WM_val (fun W hm => rv_move rfl) (Wd_none rfl) rfl (by decide) ?_
      refine WM_call (χ := Value) (val := fun x => x) (js := fun x => [iOwn (tSl tyCharge 37) [x] (laws_toChargeS_m x0)]) cb51 rfl (fun W hm => laws_toChargeS_c W _ x0 (hm.rdS0 r5) (sm_wtS (by omega) fun y h => (smCharge_wt (h)))) (Wd_none rfl) (by decide) (fun z25 => ?_)
      refine WM_form (n := 0) rfl ?_
      rintro A26 c27 rfl m28
      refine WM_val (fun W hm => rv_assign rfl) (Wd_none rfl) rfl (by decide) ?_
      refine WM_nil ?_
      refine QM_then ?_
      refine CM_seq ?_
      refine CM_region ?_
      refine WM_val (fun W hm => rv_move rfl) (Wd_none rfl) rfl (by decide) ?_
      refine WM_call (χ := Value) (val := fun x => x) (js := fun x => [iOwn (tSl tInt 3) [x] (laws_toIntS_m x1)]) cb59 rfl (fun W hm => laws_toIntS_c W _ x1 (hm.rdS0 r10) (by omega)) (Wd_none rfl) (by decide) (fun z30 => ?_)
      refine WM_form (n := 0) rfl ?_
      rintro A31 c32 rfl m33
      refine WM_val (fun W hm => rv_assign rfl) (Wd_none rfl) rfl (by decide) ?_
      refine WM_nil ?_
      refine QM_then ?_
      refine CM_seq ?_
      refine CM_region ?_
      refine WM_val (fun W hm => rv_move rfl) (Wd_none rfl) rfl (by decide) ?_
      refine WM_val (fun W hm => rv_move rfl) (Wd_none rfl) rfl (by decide) ?_
      refine WM_callV cb60 rfl (fun W hm => impl_CoalitionCost_c W _ (laws_toChargeS_m x0) _ (laws_toIntS_m x1) (hm.rdSI (n := 1) rfl) (hm.rdSI (n := 0) rfl)) (Wd_none rfl) (by decide) ?_
      refine WM_val (fun W hm => rv_assign rfl) (Wd_none rfl) rfl (by decide) ?_
      refine WM_nil ?_
      refine QM_then ?_
      refine CM_seq ?_
      refine CM_seq ?_
      refine CM_region ?_
      refine WM_val (fun W hm => rv_move rfl) (Wd_none rfl) rfl (by decide) ?_
      refine WM_val (fun W hm => rv_move rfl) (Wd_none rfl) rfl (by decide) ?_
      refine WM_val (fun W hm => rv_neq rfl rfl) (Wd_none rfl) rfl (by decide) ?_
      refine WM_nil ?_
      refine QM_then ?_
      by_cases h35 : (impl_CoalitionCost_m (laws_toChargeS_m x0) (laws_toIntS_m x1)) = (spec_CoalitionCost_m (laws_toChargeS_m x0) (laws_toIntS_m x1))
      · have g36 : ((impl_CoalitionCost_m (laws_toChargeS_m x0) (laws_toIntS_m x1)) != (spec_CoalitionCost_m (laws_toChargeS_m x0) (laws_toIntS_m x1))) = false := by rw [h35]; exact bne_self_eq_false _
        refine CM_condF rfl g36 ?_
        refine CM_skip ?_
        refine QM_then ?_
        refine CM_seq ?_
        refine CM_seq ?_
        refine CM_region ?_
        refine WM_val (fun W hm => rv_move rfl) (Wd_none rfl) rfl (by decide) ?_
        refine WM_val (fun W hm => rv_move rfl) (Wd_none rfl) rfl (by decide) ?_
        refine WM_call (χ := Value) (val := fun x => x) (js := fun x => [iOwn (tSl tyCharge 37) [x] (laws_toChargeS_m x0)]) cb51 rfl (fun W hm => laws_toChargeS_c W _ x0 (hm.rdS0 r5) (sm_wtS (by omega) fun y h => (smCharge_wt (h)))) (Wd_none rfl) (by decide) (fun z37 => ?_)
        refine WM_form (n := 0) rfl ?_
        rintro A38 c39 rfl m40
        refine WM_callV cb53 rfl (fun W hm => laws_eqChargeS_c W _ (laws_toChargeS_m x0) _ (laws_toChargeS_m x0) (hm.rdSI (n := 2) rfl) (hm.rdSI (n := 0) rfl)) (Wd_none rfl) (by decide) ?_
        refine WM_val (fun W hm => rv_not rfl) (Wd_none rfl) rfl (by decide) ?_
        refine WM_nil ?_
        refine QM_then ?_
        rcases Bool.eq_false_or_eq_true (laws_eqChargeS_m (laws_toChargeS_m x0) (laws_toChargeS_m x0)) with g43 | g43
        ·
          refine CM_condF rfl (nt g43) ?_
          refine CM_skip ?_
          refine QM_then ?_
          refine CM_seq ?_
          refine CM_seq ?_
          refine CM_region ?_
          refine WM_val (fun W hm => rv_move rfl) (Wd_none rfl) rfl (by decide) ?_
          refine WM_val (fun W hm => rv_move rfl) (Wd_none rfl) rfl (by decide) ?_
          refine WM_call (χ := Value) (val := fun x => x) (js := fun x => [iOwn (tSl tInt 3) [x] (laws_toIntS_m x1)]) cb59 rfl (fun W hm => laws_toIntS_c W _ x1 (hm.rdS0 r10) (by omega)) (Wd_none rfl) (by decide) (fun z44 => ?_)
          refine WM_form (n := 0) rfl ?_
          rintro A45 c46 rfl m47
          refine WM_callV cb45 rfl (fun W hm => laws_eqIntS_c W _ (laws_toIntS_m x1) _ (laws_toIntS_m x1) (hm.rdSI (n := 2) rfl) (hm.rdSI (n := 0) rfl)) (Wd_none rfl) (by decide) ?_
          refine WM_val (fun W hm => rv_not rfl) (Wd_none rfl) rfl (by decide) ?_
          refine WM_nil ?_
          refine QM_then ?_
          rcases Bool.eq_false_or_eq_true (laws_eqIntS_m (laws_toIntS_m x1) (laws_toIntS_m x1)) with g50 | g50
          ·
            refine CM_condF rfl (nt g50) ?_
            refine CM_skip ?_
            refine QM_then ?_
            refine CM_seq ?_
            refine CM_region ?_
            refine WM_val (fun W hm => rv_assign rfl) (Wd_none rfl) rfl (by decide) ?_
            refine WM_nil ?_
            refine QM_then ?_
            refine CM_ret ?_
            exact QM_ret1 rfl rfl (fun W hm => ⟨ret_b (show laws_FnExactCoalitionCost_m x0 x1 = true from by unfold laws_FnExactCoalitionCost_m; exact cond_f g12 (cond_f g14 (cond_f g36 (cond_t g43 (cond_t g50 (rfl)))))), hm.below⟩)
          ·
            refine CM_condT rfl (nf g50) ?_
            refine CM_seq ?_
            refine CM_region ?_
            refine WM_val (fun W hm => rv_assign rfl) (Wd_none rfl) rfl (by decide) ?_
            refine WM_nil ?_
            refine QM_then ?_
            refine CM_ret ?_
            refine QM_then_ret ?_
            exact QM_ret1 rfl rfl (fun W hm => ⟨ret_b (show laws_FnExactCoalitionCost_m x0 x1 = false from by unfold laws_FnExactCoalitionCost_m; exact cond_f g12 (cond_f g14 (cond_f g36 (cond_t g43 (cond_f g50 (rfl)))))), hm.below⟩)
        ·
          refine CM_condT rfl (nf g43) ?_
          refine CM_seq ?_
          refine CM_region ?_
          refine WM_val (fun W hm => rv_assign rfl) (Wd_none rfl) rfl (by decide) ?_
          refine WM_nil ?_
          refine QM_then ?_
          refine CM_ret ?_
          refine QM_then_ret ?_
          exact QM_ret1 rfl rfl (fun W hm => ⟨ret_b (show laws_FnExactCoalitionCost_m x0 x1 = false from by unfold laws_FnExactCoalitionCost_m; exact cond_f g12 (cond_f g14 (cond_f g36 (cond_f g43 (rfl))))), hm.below⟩)
      · have g36 : ((impl_CoalitionCost_m (laws_toChargeS_m x0) (laws_toIntS_m x1)) != (spec_CoalitionCost_m (laws_toChargeS_m x0) (laws_toIntS_m x1))) = true := bne_iff_ne.2 h35
        refine CM_condT rfl g36 ?_
        refine CM_seq ?_
        refine CM_region ?_
        refine WM_val (fun W hm => rv_assign rfl) (Wd_none rfl) rfl (by decide) ?_
        refine WM_nil ?_
        refine QM_then ?_
        refine CM_ret ?_
        refine QM_then_ret ?_
        exact QM_ret1 rfl rfl (fun W hm => ⟨ret_b (show laws_FnExactCoalitionCost_m x0 x1 = false from by unfold laws_FnExactCoalitionCost_m; exact cond_f g12 (cond_f g14 (cond_t g36 (rfl)))), hm.below⟩)

end Go.Proofs.Ytlpgopanikikkaa
