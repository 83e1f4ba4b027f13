/-
  The contract of the law.
-/
import Derived.Test.YtlpgopanikikkaaL9Pl
namespace Go.Proofs.Ytlpgopanikikkaa
open Go.RowKit
def laws_FnExactEqualAnnotated_m (x0 : (List DAnnotated)) (x1 : (List DAnnotated)) : Bool :=
  cond (decide ((laws_szAnnotatedS_m x0 1048576) < 0)) true (cond (decide ((laws_szAnnotatedS_m x1 (laws_szAnnotatedS_m x0 1048576)) < 0)) true (cond ((impl_EqualAnnotated_m (laws_toAnnotatedS_m x0) (laws_toAnnotatedS_m x1)) != (spec_EqualAnnotated_m (laws_toAnnotatedS_m x0) (laws_toAnnotatedS_m x1))) false (cond (laws_eqAnnotatedS_m (laws_toAnnotatedS_m x0) (laws_toAnnotatedS_m x0)) (cond (laws_eqAnnotatedS_m (laws_toAnnotatedS_m x1) (laws_toAnnotatedS_m x1)) true false) false)))
theorem cb9 : Cb Try.prog 9 := ⟨Try.f9, _, Try.func9, rfl, by decide⟩
set_option maxRecDepth 10000 in
theorem laws_FnExactEqualAnnotated_c (w : World) (z0 : Value) (x0 : (List DAnnotated)) (z1 : Value) (x1 : (List DAnnotated)) (r_0 : rdS tyLAnnotated w w.heap.size z0 x0) (r_1 : rdS tyLAnnotated w w.heap.size z1 x1) :
    Calls Try.prog 9 #[z0, z1] w fun e w' => e = .returned (.bool (laws_FnExactEqualAnnotated_m x0 x1)) ∧ Below w.heap.size w w' := by
  have ok0 := (rdS_sm r_0 fun _ _ h => (tyLAnnotated_sm h))
  have ok1 := (rdS_sm r_1 fun _ _ h => (tyLAnnotated_sm h))
  have r5 := r_0
  obtain ⟨m1, A2, c3, rfl, q4⟩ := r_0
  have r10 := r_1
  obtain ⟨m6, A7, c8, rfl, q9⟩ := r_1
  refine call_enterM (L := [(0, .slice A2 x0.length c3), (1, .slice A7 x1.length c8)]) (N := 45) Try.func9 rfl rfl (Nat.le_of_ble_eq_true rfl) (argsL_cons rfl (argsL_cons rfl argsL_nil)) ?_
  refine CM_seq ?_
  refine CM_region ?_
  refine WM_val (fun W hm => rv_assign rfl) (Wd_none rfl) rfl (by decide) ?_
  refine WM_nil ?_
  refine QM_then ?_
  refine CM_seq ?_
  refine CM_region ?_
  refine WM_val (fun W hm => rv_assign rfl) (Wd_none rfl) rfl (by decide) ?_
  refine WM_nil ?_
  refine QM_then ?_
  refine CM_seq ?_
  refine CM_region ?_
  refine WM_val (fun W hm => rv_move rfl) (Wd_none rfl) rfl (by decide) ?_
  refine WM_val (fun W hm => rv_move rfl) (Wd_none rfl) rfl (by decide) ?_
  refine WM_callV cb29 rfl (fun W hm => laws_szAnnotatedS_c W _ x0 1048576 (hm.rdS0 r5)) (Wd_none rfl) (by decide) ?_
  refine WM_val (fun W hm => rv_assign rfl) (Wd_none rfl) rfl (by decide) ?_
  refine WM_nil ?_
  refine QM_then ?_
  refine CM_seq ?_
  refine CM_seq ?_
  refine CM_region ?_
  refine WM_val (fun W hm => rv_move rfl) (Wd_none rfl) rfl (by decide) ?_
  refine WM_val (fun W hm => rv_lss rfl rfl) (Wd_none rfl) rfl (by decide) ?_
  refine WM_nil ?_
  refine QM_then ?_
  by_cases h11 : (laws_szAnnotatedS_m x0 1048576) < 0
  · have g12 : (decide ((laws_szAnnotatedS_m x0 1048576) < 0)) = true := decide_eq_true h11
    refine CM_condT rfl g12 ?_
    refine CM_seq ?_
    refine CM_region ?_
    refine WM_val (fun W hm => rv_assign rfl) (Wd_none rfl) rfl (by decide) ?_
    refine WM_nil ?_
    refine QM_then ?_
    refine CM_ret ?_
    refine QM_then_ret ?_
    exact QM_ret1 rfl rfl (fun W hm => ⟨ret_b (show laws_FnExactEqualAnnotated_m x0 x1 = true from by unfold laws_FnExactEqualAnnotated_m; exact cond_t g12 (rfl)), hm.below⟩)
  · have g12 : (decide ((laws_szAnnotatedS_m x0 1048576) < 0)) = false := decide_eq_false h11
    obtain ⟨hz0, hy0, hw0⟩ := sz_small laws_szAnnotatedS_ok ok0 (by omega) (by omega) g12
    refine CM_condF rfl g12 ?_
    refine CM_skip ?_
    refine QM_then ?_
    refine CM_seq ?_
    refine CM_region ?_
    refine WM_val (fun W hm => rv_move rfl) (Wd_none rfl) rfl (by decide) ?_
    refine WM_val (fun W hm => rv_move rfl) (Wd_none rfl) rfl (by decide) ?_
    refine WM_callV cb29 rfl (fun W hm => laws_szAnnotatedS_c W _ x1 (laws_szAnnotatedS_m x0 1048576) (hm.rdS0 r10)) (Wd_none rfl) (by decide) ?_
    refine WM_val (fun W hm => rv_assign rfl) (Wd_none rfl) rfl (by decide) ?_
    refine WM_nil ?_
    refine QM_then ?_
    refine CM_seq ?_
    refine CM_seq ?_
    refine CM_region ?_
    refine WM_val (fun W hm => rv_move rfl) (Wd_none rfl) rfl (by decide) ?_
    refine WM_val (fun W hm => rv_lss rfl rfl) (Wd_none rfl) rfl (by decide) ?_
    refine WM_nil ?_
    refine QM_then ?_
    by_cases h13 : (laws_szAnnotatedS_m x1 (laws_szAnnotatedS_m x0 1048576)) < 0
    · have g14 : (decide ((laws_szAnnotatedS_m x1 (laws_szAnnotatedS_m x0 1048576)) < 0)) = true := decide_eq_true h13
      refine CM_condT rfl g14 ?_
      refine CM_seq ?_
      refine CM_region ?_
      refine WM_val (fun W hm => rv_assign rfl) (Wd_none rfl) rfl (by decide) ?_
      refine WM_nil ?_
      refine QM_then ?_
      refine CM_ret ?_
      refine QM_then_ret ?_
      exact QM_ret1 rfl rfl (fun W hm => ⟨ret_b (show laws_FnExactEqualAnnotated_m x0 x1 = true from by unfold laws_FnExactEqualAnnotated_m; exact cond_f g12 (cond_t g14 (rfl))), hm.below⟩)
    · have g14 : (decide ((laws_szAnnotatedS_m x1 (laws_szAnnotatedS_m x0 1048576)) < 0)) = false := decide_eq_false h13
      obtain ⟨hz1, hy1, hw1⟩ := sz_small laws_szAnnotatedS_ok ok1 (by omega) (by omega) g14
      refine CM_condF rfl g14 ?_
      refine CM_skip ?_
      refine QM_then ?_
      refine CM_seq ?_
      refine CM_region ?_
      refine WM_val (fun W hm => rv_move rfl) (Wd_none rfl) rfl (by decide) ?_
      refine WM_call (χ := Value) (val := fun x => x) (js := fun x => [iOwn (tSl tyAnnotated 89) [x] (laws_toAnnotatedS_m x0)]) cb31 rfl (fun W hm => laws_toAnnotatedS_c W _ x0 (hm.rdS0 r5) (sm_wtS (by omega) fun y h => (smAnnotated_wt (h)))) (Wd_none rfl) (by decide) (fun z15 => ?_)
      refine WM_form (n := 0) rfl ?_
      rintro A16 c17 rfl m18
      refine WM_val (fun W hm => rv_move rfl) (Wd_none rfl) rfl (by decide) ?_
      refine WM_call (χ := Value) (val := fun x => x) (js := fun x => [iOwn (tSl tyAnnotated 89) [x] (laws_toAnnotatedS_m x1)]) cb31 rfl (fun W hm => laws_toAnnotatedS_c W _ x1 (hm.rdS0 r10) (sm_wtS (by omega) fun y h => (smAnnotated_wt (h)))) (Wd_none rfl) (by decide) (fun z20 => ?_)
      refine WM_form (n := 0) rfl ?_
      rintro A21 c22 rfl m23
      refine WM_callV cb41 rfl (fun W hm => spec_EqualAnnotated_c W _ (laws_toAnnotatedS_m x0) _ (laws_toAnnotatedS_m x1) (hm.rdSI (n := 1) rfl) (hm.rdSI (n := 0) rfl)) (Wd_none rfl) (by decide) ?_
      refine WM_val (fun W hm => rv_assign rfl) (Wd_none rfl) rfl (by decide) ?_
      refine WM_nil ?_
      refine QM_then ?_
      refine CM_seq ?_
      refine CM_region ?_
      refine WM_val (fun W hm => rv_move rfl) (Wd_none rfl) rfl (by decide) ?_
      refine WM_call (χ := Value) (val := fun x => x) (js := fun x => [iOwn (tSl tyAnnotated 89) [x] (laws_toAnnotatedS_m x0)]) cb31 rfl (fun W hm => laws_toAnnotatedS_c W _ x0 (hm.rdS0 r5) (sm_wtS (by omega) fun y h => (smAnnotated_wt (h)))) (Wd_none rfl) (by decide) (fun z25 => ?_)
      refine WM_form (n := 0) rfl ?_
      rintro A26 c27 rfl m28
      refine WM_val (fun W hm => rv_assign rfl) (Wd_none rfl) rfl (by decide) ?_
      refine WM_nil ?_
      refine QM_then ?_
      refine CM_seq ?_
      refine CM_region ?_
      refine WM_val (fun W hm => rv_move rfl) (Wd_none rfl) rfl (by decide) ?_
      refine WM_call (χ := Value) (val := fun x => x) (js := fun x => [iOwn (tSl tyAnnotated 89) [x] (laws_toAnnotatedS_m x1)]) cb31 rfl (fun W hm => laws_toAnnotatedS_c W _ x1 (hm.rdS0 r10) (sm_wtS (by omega) fun y h => (smAnnotated_wt (h)))) (Wd_none rfl) (by decide) (fun z30 => ?_)
      refine WM_form (n := 0) rfl ?_
      rintro A31 c32 rfl m33
      refine WM_val (fun W hm => rv_assign rfl) (Wd_none rfl) rfl (by decide) ?_
      refine WM_nil ?_
      refine QM_then ?_
      refine CM_seq ?_
      refine CM_region ?_
      refine WM_val (fun W hm => rv_move rfl) (Wd_none rfl) rfl (by decide) ?_
      refine WM_val (fun W hm => rv_move rfl) (Wd_none rfl) rfl (by decide) ?_
      refine WM_callV cb42 rfl (fun W hm => impl_EqualAnnotated_c W _ (laws_toAnnotatedS_m x0) _ (laws_toAnnotatedS_m x1) (hm.rdSI (n := 1) rfl) (hm.rdSI (n := 0) rfl)) (Wd_none rfl) (by decide) ?_
      refine WM_val (fun W hm => rv_assign rfl) (Wd_none rfl) rfl (by decide) ?_
      refine WM_nil ?_
      refine QM_then ?_
      refine CM_seq ?_
      refine CM_seq ?_
      refine CM_region ?_
      refine WM_val (fun W hm => rv_move rfl) (Wd_none rfl) rfl (by decide) ?_
      refine WM_val (fun W hm => rv_move rfl) (Wd_none rfl) rfl (by decide) ?_
      refine WM_val (fun W hm => rv_neqB Try.underlying4 rfl rfl) (Wd_none rfl) rfl (by decide) ?_
      refine WM_nil ?_
      refine QM_then ?_
      rcases Bool.eq_false_or_eq_true ((impl_EqualAnnotated_m (laws_toAnnotatedS_m x0) (laws_toAnnotatedS_m x1)) != (spec_EqualAnnotated_m (laws_toAnnotatedS_m x0) (laws_toAnnotatedS_m x1))) with g36 | g36
      ·
        refine CM_condT rfl g36 ?_
        refine CM_seq ?_
        refine CM_region ?_
        refine WM_val (fun W hm => rv_assign rfl) (Wd_none rfl) rfl (by decide) ?_
        refine WM_nil ?_
        refine QM_then ?_
        refine CM_ret ?_
        refine QM_then_ret ?_
        exact QM_ret1 rfl rfl (fun W hm => ⟨ret_b (show laws_FnExactEqualAnnotated_m x0 x1 = false from by unfold laws_FnExactEqualAnnotated_m; exact cond_f g12 (cond_f g14 (cond_t g36 (rfl)))), hm.below⟩)
      ·
        refine CM_condF rfl g36 ?_
        refine CM_skip ?_
        refine QM_then ?_
        refine CM_seq ?_
        refine CM_seq ?_
        refine CM_region ?_
        refine WM_val (fun W hm => rv_move rfl) (Wd_none rfl) rfl (by decide) ?_
        refine WM_val (fun W hm => rv_move rfl) (Wd_none rfl) rfl (by decide) ?_
        refine WM_call (χ := Value) (val := fun x => x) (js := fun x => [iOwn (tSl tyAnnotated 89) [x] (laws_toAnnotatedS_m x0)]) cb31 rfl (fun W hm => laws_toAnnotatedS_c W _ x0 (hm.rdS0 r5) (sm_wtS (by omega) fun y h => (smAnnotated_wt (h)))) (Wd_none rfl) (by decide) (fun z37 => ?_)
        refine WM_form (n := 0) rfl ?_
        rintro A38 c39 rfl m40
        refine WM_callV cb33 rfl (fun W hm => laws_eqAnnotatedS_c W _ (laws_toAnnotatedS_m x0) _ (laws_toAnnotatedS_m x0) (hm.rdSI (n := 2) rfl) (hm.rdSI (n := 0) rfl)) (Wd_none rfl) (by decide) ?_
        refine WM_val (fun W hm => rv_not rfl) (Wd_none rfl) rfl (by decide) ?_
        refine WM_nil ?_
        refine QM_then ?_
        rcases Bool.eq_false_or_eq_true (laws_eqAnnotatedS_m (laws_toAnnotatedS_m x0) (laws_toAnnotatedS_m x0)) with g43 | g43
        ·
          refine CM_condF rfl (nt g43) ?_
          refine CM_skip ?_
          refine QM_then ?_
          refine CM_seq ?_
          refine CM_seq ?_
          refine CM_region ?_
          refine WM_val (fun W hm => rv_move rfl) (Wd_none rfl) rfl (by decide) ?_
          refine WM_val (fun W hm => rv_move rfl) (Wd_none rfl) rfl (by decide) ?_
          refine WM_call (χ := Value) (val := fun x => x) (js := fun x => [iOwn (tSl tyAnnotated 89) [x] (laws_toAnnotatedS_m x1)]) cb31 rfl (fun W hm => laws_toAnnotatedS_c W _ x1 (hm.rdS0 r10) (sm_wtS (by omega) fun y h => (smAnnotated_wt (h)))) (Wd_none rfl) (by decide) (fun z44 => ?_)
          refine WM_form (n := 0) rfl ?_
          rintro A45 c46 rfl m47
          refine WM_callV cb33 rfl (fun W hm => laws_eqAnnotatedS_c W _ (laws_toAnnotatedS_m x1) _ (laws_toAnnotatedS_m x1) (hm.rdSI (n := 2) rfl) (hm.rdSI (n := 0) rfl)) (Wd_none rfl) (by decide) ?_
          refine WM_val (fun W hm => rv_not rfl) (Wd_none rfl) rfl (by decide) ?_
          refine WM_nil ?_
          refine QM_then ?_
          rcases Bool.eq_false_or_eq_true (laws_eqAnnotatedS_m (laws_toAnnotatedS_m x1) (laws_toAnnotatedS_m x1)) with g50 | g50
          ·
            refine CM_condF rfl (nt g50) ?_
            refine CM_skip ?_
            refine QM_then ?_
            refine CM_seq ?_
            refine CM_region ?_
            refine WM_val (fun W hm => rv_assign rfl) (Wd_none rfl) rfl (by decide) ?_
            refine WM_nil ?_
            refine QM_then ?_
            refine CM_ret ?_
            exact QM_ret1 rfl rfl (fun W hm => ⟨ret_b (show laws_FnExactEqualAnnotated_m x0 x1 = true from by unfold laws_FnExactEqualAnnotated_m; exact cond_f g12 (cond_f g14 (cond_f g36 (cond_t g43 (cond_t g50 (rfl)))))), hm.below⟩)
          ·
            refine CM_condT rfl (nf g50) ?_
            refine CM_seq ?_
            refine CM_region ?_
            refine WM_val (fun W hm => rv_assign rfl) (Wd_none rfl) rfl (by decide) ?_
            refine WM_nil ?_
            refine QM_then ?_
            refine CM_ret ?_
            refine QM_then_ret ?_
            exact QM_ret1 rfl rfl (fun W hm => ⟨ret_b (show laws_FnExactEqualAnnotated_m x0 x1 = false from by unfold laws_FnExactEqualAnnotated_m; exact cond_f g12 (cond_f g14 (cond_f g36 (cond_t g43 (cond_f g50 (rfl)))))), hm.below⟩)
        ·
          refine CM_condT rfl (nf g43) ?_
          refine CM_seq ?_
          refine CM_region ?_
          refine WM_val (fun W hm => rv_assign rfl) (Wd_none rfl) rfl (by decide) ?_
          refine WM_nil ?_
          refine QM_then ?_
          refine CM_ret ?_
          refine QM_then_ret ?_
          exact QM_ret1 rfl rfl (fun W hm => ⟨ret_b (show laws_FnExactEqualAnnotated_m x0 x1 = false from by unfold laws_FnExactEqualAnnotated_m; exact cond_f g12 (cond_f g14 (cond_f g36 (cond_f g43 (rfl))))), hm.below⟩)

end Go.Proofs.Ytlpgopanikikkaa
