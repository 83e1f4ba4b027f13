/-
  The contract of the law.
-/
import Derived.Test.YtlpgopanikikkaaL4Pl
namespace Go.Proofs.Ytlpgopanikikkaa
open Go.RowKit
def laws_FnExactGroupsOf_m (x0 : (List DGroup)) (x1 : Int) : Bool :=
  cond (decide ((laws_szGroupS_m x0 1048576) < 0)) true (cond (laws_eqGroupS_m (impl_GroupsOf_m (laws_toGroupS_m x0) x1) (spec_GroupsOf_m (laws_toGroupS_m x0) x1)) (cond (laws_eqGroupS_m (laws_toGroupS_m x0) (laws_toGroupS_m x0)) (cond (decide (((laws_markGroupS_m (laws_toGroupS_m x0) 1).1) < 0)) false (cond (decide ((laws_heldGroupS_m ((laws_markGroupS_m (impl_GroupsOf_m (laws_toGroupS_m x0) x1) 1).2) 1) < 0)) false (cond ((laws_heldGroupS_m ((laws_markGroupS_m (impl_GroupsOf_m (laws_toGroupS_m x0) x1) 1).2) 1) != ((laws_markGroupS_m (impl_GroupsOf_m (laws_toGroupS_m x0) x1) 1).1)) false true))) false) false)
theorem cb4 : Cb Try.prog 4 := ⟨Try.f4, _, Try.func4, rfl, by decide⟩
set_option maxRecDepth 10000 in
theorem laws_FnExactGroupsOf_c (w : World) (z0 : Value) (x0 : (List DGroup)) (x1 : Int) (r_0 : rdS tyLGroup w w.heap.size z0 x0) :
    Calls Try.prog 4 #[z0, .int .i64 x1] w fun e w' => e = .returned (.bool (laws_FnExactGroupsOf_m x0 x1)) ∧ Below w.heap.size w w' := by
  have ok0 := r_0.1
  have r5 := r_0
  obtain ⟨m1, A2, c3, rfl, q4⟩ := r_0
  refine call_enterM (L := [(0, .slice A2 x0.length c3), (1, .int .i64 x1)]) (N := 74) Try.func4 rfl rfl (Nat.le_of_ble_eq_true rfl) (argsL_cons rfl (argsL_cons rfl argsL_nil)) ?_
  refine CM_seq ?_
  refine CM_region ?_
  refine WM_val (fun W hm => rv_assign rfl) (Wd_none rfl) rfl (by decide) ?_
  refine WM_nil ?_
  refine QM_then ?_
  refine CM_seq ?_
  refine CM_region ?_
  refine WM_val (fun W hm => rv_assign rfl) (Wd_none rfl) rfl (by decide) ?_
  refine WM_nil ?_
  refine QM_then ?_
  refine CM_seq ?_
  refine CM_region ?_
  refine WM_val (fun W hm => rv_move rfl) (Wd_none rfl) rfl (by decide) ?_
  refine WM_val (fun W hm => rv_move rfl) (Wd_none rfl) rfl (by decide) ?_
  refine WM_callV cb17 rfl (fun W hm => laws_szGroupS_c W _ x0 1048576 (hm.rdS0 r5)) (Wd_none rfl) (by decide) ?_
  refine WM_val (fun W hm => rv_assign rfl) (Wd_none rfl) rfl (by decide) ?_
  refine WM_nil ?_
  refine QM_then ?_
  refine CM_seq ?_
  refine CM_seq ?_
  refine CM_region ?_
  refine WM_val (fun W hm => rv_move rfl) (Wd_none rfl) rfl (by decide) ?_
  refine WM_val (fun W hm => rv_lss rfl rfl) (Wd_none rfl) rfl (by decide) ?_
  refine WM_nil ?_
  refine QM_then ?_
  by_cases h6 : (laws_szGroupS_m x0 1048576) < 0
  · have g7 : (decide ((laws_szGroupS_m x0 1048576) < 0)) = true := decide_eq_true h6
    refine CM_condT rfl g7 ?_
    refine CM_seq ?_
    refine CM_region ?_
    refine WM_val (fun W hm => rv_assign rfl) (Wd_none rfl) rfl (by decide) ?_
    refine WM_nil ?_
    refine QM_then ?_
    refine CM_ret ?_
    refine QM_then_ret ?_
    exact QM_ret1 rfl rfl (fun W hm => ⟨ret_b (show laws_FnExactGroupsOf_m x0 x1 = true from by unfold laws_FnExactGroupsOf_m; exact cond_t g7 (rfl)), hm.below⟩)
  · have g7 : (decide ((laws_szGroupS_m x0 1048576) < 0)) = false := decide_eq_false h6
    obtain ⟨hz0, hy0, hw0⟩ := sz_small laws_szGroupS_ok ok0 (by omega) (by omega) g7
    refine CM_condF rfl g7 ?_
    refine CM_skip ?_
    refine QM_then ?_
    refine CM_seq ?_
    refine CM_region ?_
    refine WM_val (fun W hm => rv_move rfl) (Wd_none rfl) rfl (by decide) ?_
    refine WM_call (χ := Value) (val := fun x => x) (js := fun x => [iOwn (tSl tyGroup 80) [x] (laws_toGroupS_m x0)]) cb19 rfl (fun W hm => laws_toGroupS_c W _ x0 (hm.rdS0 r5) (by omega)) (Wd_none rfl) (by decide) (fun z8 => ?_)
    refine WM_form (n := 0) rfl ?_
    rintro A9 c10 rfl m11
    refine WM_val (fun W hm => rv_move rfl) (Wd_none rfl) rfl (by decide) ?_
    refine WM_call (χ := Value) (val := fun x => x) (js := fun x => [iOwn (tSl tyGroup 80) [x] (spec_GroupsOf_m (laws_toGroupS_m x0) x1)]) cb18 rfl (fun W hm => spec_GroupsOf_c W _ (laws_toGroupS_m x0) x1 (hm.rdSI (n := 0) rfl) (by rw [laws_toGroupS_eq]; exact (by omega))) (Wd_none rfl) (by decide) (fun z13 => ?_)
    refine WM_form (n := 0) rfl ?_
    rintro A14 c15 rfl m16
    refine WM_val (fun W hm => rv_assign rfl) (Wd_none rfl) rfl (by decide) ?_
    refine WM_nil ?_
    refine QM_then ?_
    refine CM_seq ?_
    refine CM_region ?_
    refine WM_val (fun W hm => rv_move rfl) (Wd_none rfl) rfl (by decide) ?_
    refine WM_call (χ := Value) (val := fun x => x) (js := fun x => [iOwn (tSl tyGroup 80) [x] (laws_toGroupS_m x0)]) cb19 rfl (fun W hm => laws_toGroupS_c W _ x0 (hm.rdS0 r5) (by omega)) (Wd_none rfl) (by decide) (fun z18 => ?_)
    refine WM_form (n := 0) rfl ?_
    rintro A19 c20 rfl m21
    refine WM_val (fun W hm => rv_assign rfl) (Wd_none rfl) rfl (by decide) ?_
    refine WM_nil ?_
    refine QM_then ?_
    refine CM_seq ?_
    refine CM_region ?_
    refine WM_val (fun W hm => rv_move rfl) (Wd_none rfl) rfl (by decide) ?_
    refine WM_val (fun W hm => rv_move rfl) (Wd_none rfl) rfl (by decide) ?_
    refine WM_call (χ := Value) (val := fun x => x) (js := fun x => [iOwn (tSl tyGroup 80) [x] (impl_GroupsOf_m (laws_toGroupS_m x0) x1)]) cb20 rfl (fun W hm => impl_GroupsOf_c W _ (laws_toGroupS_m x0) x1 (hm.rdSI (n := 0) rfl) (by rw [laws_toGroupS_eq]; exact (by omega))) (Wd_none rfl) (by decide) (fun z23 => ?_)
    refine WM_form (n := 0) rfl ?_
    rintro A24 c25 rfl m26
    refine WM_val (fun W hm => rv_assign rfl) (Wd_none rfl) rfl (by decide) ?_
    refine WM_nil ?_
    refine QM_then ?_
    refine CM_seq ?_
    refine CM_seq ?_
    refine CM_region ?_
    refine WM_val (fun W hm => rv_move rfl) (Wd_none rfl) rfl (by decide) ?_
    refine WM_val (fun W hm => rv_move rfl) (Wd_none rfl) rfl (by decide) ?_
    refine WM_callV cb21 rfl (fun W hm => laws_eqGroupS_c W _ (impl_GroupsOf_m (laws_toGroupS_m x0) x1) _ (spec_GroupsOf_m (laws_toGroupS_m x0) x1) (hm.rdSI (n := 0) rfl) (hm.rdSI (n := 2) rfl)) (Wd_none rfl) (by decide) ?_
    refine WM_val (fun W hm => rv_not rfl) (Wd_none rfl) rfl (by decide) ?_
    refine WM_nil ?_
    refine QM_then ?_
    rcases Bool.eq_false_or_eq_true (laws_eqGroupS_m (impl_GroupsOf_m (laws_toGroupS_m x0) x1) (spec_GroupsOf_m (laws_toGroupS_m x0) x1)) with g29 | g29
    ·
      refine CM_condF rfl (nt g29) ?_
      refine CM_skip ?_
      refine QM_then ?_
      refine CM_seq ?_
      refine CM_seq ?_
      refine CM_region ?_
      refine WM_val (fun W hm => rv_move rfl) (Wd_none rfl) rfl (by decide) ?_
      refine WM_val (fun W hm => rv_move rfl) (Wd_none rfl) rfl (by decide) ?_
      refine WM_call (χ := Value) (val := fun x => x) (js := fun x => [iOwn (tSl tyGroup 80) [x] (laws_toGroupS_m x0)]) cb19 rfl (fun W hm => laws_toGroupS_c W _ x0 (hm.rdS0 r5) (by omega)) (Wd_none rfl) (by decide) (fun z30 => ?_)
      refine WM_form (n := 0) rfl ?_
      rintro A31 c32 rfl m33
      refine WM_callV cb21 rfl (fun W hm => laws_eqGroupS_c W _ (laws_toGroupS_m x0) _ (laws_toGroupS_m x0) (hm.rdSI (n := 2) rfl) (hm.rdSI (n := 0) rfl)) (Wd_none rfl) (by decide) ?_
      refine WM_val (fun W hm => rv_not rfl) (Wd_none rfl) rfl (by decide) ?_
      refine WM_nil ?_
      refine QM_then ?_
      rcases Bool.eq_false_or_eq_true (laws_eqGroupS_m (laws_toGroupS_m x0) (laws_toGroupS_m x0)) with g36 | g36
      ·
        refine CM_condF rfl (nt g36) ?_
        refine CM_skip ?_
        refine QM_then ?_
        refine CM_seq ?_
        refine CM_region ?_
        refine WM_val (fun W hm => rv_assign rfl) (Wd_none rfl) rfl (by decide) ?_
        refine WM_nil ?_
        refine QM_then ?_
        refine CM_seq ?_
        refine CM_region ?_
        refine WM_val (fun W hm => rv_move rfl) (Wd_none rfl) rfl (by decide) ?_
        refine WM_val (fun W hm => rv_move rfl) (Wd_none rfl) rfl (by decide) ?_
        refine WM_callW (χ := Unit) (val := fun _ => .int .i64 (laws_markGroupS_m (laws_toGroupS_m x0) 1).1) (js := fun _ => (iOwn (tSl tyGroup 80) [.slice A19 (laws_toGroupS_m x0).length c20] (laws_markGroupS_m (laws_toGroupS_m x0) 1).2 :: [iOwn (tSl tyGroup 80) [.slice A31 (laws_toGroupS_m x0).length c32] (laws_toGroupS_m x0), iOwn (tSl tyGroup 80) [.slice A24 (impl_GroupsOf_m (laws_toGroupS_m x0) x1).length c25] (impl_GroupsOf_m (laws_toGroupS_m x0) x1), iOwn (tSl tyGroup 80) [.slice A14 (spec_GroupsOf_m (laws_toGroupS_m x0) x1).length c15] (spec_GroupsOf_m (laws_toGroupS_m x0) x1), iOwn (tSl tyGroup 80) [.slice A9 (laws_toGroupS_m x0).length c10] (laws_toGroupS_m x0)])) cb22 rfl (fun W hm => (laws_markGroupS_c w.heap.size w [iOwn (tSl tyGroup 80) [.slice A31 (laws_toGroupS_m x0).length c32] (laws_toGroupS_m x0), iOwn (tSl tyGroup 80) [.slice A24 (impl_GroupsOf_m (laws_toGroupS_m x0) x1).length c25] (impl_GroupsOf_m (laws_toGroupS_m x0) x1), iOwn (tSl tyGroup 80) [.slice A14 (spec_GroupsOf_m (laws_toGroupS_m x0) x1).length c15] (spec_GroupsOf_m (laws_toGroupS_m x0) x1), iOwn (tSl tyGroup 80) [.slice A9 (laws_toGroupS_m x0).length c10] (laws_toGroupS_m x0)] W (.slice A19 (laws_toGroupS_m x0).length c20) (laws_toGroupS_m x0) 1 (hm.front (n := 2) rfl)).mono (fun _ _ h => ⟨(), h.1, h.2⟩)) (Wd_none rfl) (by decide) (fun _ => ?_)
        refine WM_val (fun W hm => rv_assign rfl) (Wd_none rfl) rfl (by decide) ?_
        refine WM_nil ?_
        refine QM_then ?_
        refine CM_seq ?_
        refine CM_seq ?_
        refine CM_region ?_
        refine WM_val (fun W hm => rv_move rfl) (Wd_none rfl) rfl (by decide) ?_
        refine WM_val (fun W hm => rv_lss rfl rfl) (Wd_none rfl) rfl (by decide) ?_
        refine WM_val (fun W hm => rv_move rfl) (Wd_none rfl) rfl (by decide) ?_
        by_cases h37 : ((laws_markGroupS_m (laws_toGroupS_m x0) 1).1) < 0
        · have g38 : (decide (((laws_markGroupS_m (laws_toGroupS_m x0) 1).1) < 0)) = true := decide_eq_true h37
          refine WM_skip (Wd_some rfl rfl rfl (bw g38 rfl)) rfl (by decide) ?_
          refine WM_skip (Wd_some rfl rfl rfl (bw g38 rfl)) rfl (by decide) ?_
          refine WM_skip (Wd_some rfl rfl rfl (bw g38 rfl)) rfl (by decide) ?_
          refine WM_skip (Wd_some rfl rfl rfl (bw g38 rfl)) rfl (by decide) ?_
          refine WM_val (fun W hm => rv_pickT rfl g38 rfl) (Wd_none rfl) rfl (by decide) ?_
          refine WM_nil ?_
          refine QM_then ?_
          refine CM_condT rfl rfl ?_
          refine CM_seq ?_
          refine CM_region ?_
          refine WM_val (fun W hm => rv_assign rfl) (Wd_none rfl) rfl (by decide) ?_
          refine WM_nil ?_
          refine QM_then ?_
          refine CM_ret ?_
          refine QM_then_ret ?_
          exact QM_ret1 rfl rfl (fun W hm => ⟨ret_b (show laws_FnExactGroupsOf_m x0 x1 = false from by unfold laws_FnExactGroupsOf_m; exact cond_f g7 (cond_t g29 (cond_t g36 (cond_t g38 (rfl))))), hm.below⟩)
        · have g38 : (decide (((laws_markGroupS_m (laws_toGroupS_m x0) 1).1) < 0)) = false := decide_eq_false h37
          refine WM_val (fun W hm => rv_move rfl) (Wd_some rfl rfl rfl (bw g38 rfl)) rfl (by decide) ?_
          refine WM_val (fun W hm => rv_move rfl) (Wd_some rfl rfl rfl (bw g38 rfl)) rfl (by decide) ?_
          refine WM_callV cb21 rfl (fun W hm => laws_eqGroupS_c W _ (impl_GroupsOf_m (laws_toGroupS_m x0) x1) _ (spec_GroupsOf_m (laws_toGroupS_m x0) x1) (hm.rdSI (n := 2) rfl) (hm.rdSI (n := 3) rfl)) (Wd_some rfl rfl rfl (bw g38 rfl)) (by decide) ?_
          refine WM_val (fun W hm => rv_not rfl) (Wd_some rfl rfl rfl (bw g38 rfl)) rfl (by decide) ?_
          refine WM_val (fun W hm => rv_pickF rfl g38 rfl) (Wd_none rfl) rfl (by decide) ?_
          refine WM_nil ?_
          refine QM_then ?_
          refine CM_condF rfl (nt g29) ?_
          refine CM_skip ?_
          refine QM_then ?_
          refine CM_seq ?_
          refine CM_region ?_
          refine WM_val (fun W hm => rv_assign rfl) (Wd_none rfl) rfl (by decide) ?_
          refine WM_nil ?_
          refine QM_then ?_
          refine CM_seq ?_
          refine CM_region ?_
          refine WM_val (fun W hm => rv_move rfl) (Wd_none rfl) rfl (by decide) ?_
          refine WM_val (fun W hm => rv_move rfl) (Wd_none rfl) rfl (by decide) ?_
          refine WM_callW (χ := Unit) (val := fun _ => .int .i64 (laws_markGroupS_m (impl_GroupsOf_m (laws_toGroupS_m x0) x1) 1).1) (js := fun _ => (iOwn (tSl tyGroup 80) [.slice A24 (impl_GroupsOf_m (laws_toGroupS_m x0) x1).length c25] (laws_markGroupS_m (impl_GroupsOf_m (laws_toGroupS_m x0) x1) 1).2 :: [iOwn (tSl tyGroup 80) [.slice A19 (laws_toGroupS_m x0).length c20] ((laws_markGroupS_m (laws_toGroupS_m x0) 1).2), iOwn (tSl tyGroup 80) [.slice A31 (laws_toGroupS_m x0).length c32] (laws_toGroupS_m x0), iOwn (tSl tyGroup 80) [.slice A14 (spec_GroupsOf_m (laws_toGroupS_m x0) x1).length c15] (spec_GroupsOf_m (laws_toGroupS_m x0) x1), iOwn (tSl tyGroup 80) [.slice A9 (laws_toGroupS_m x0).length c10] (laws_toGroupS_m x0)])) cb22 rfl (fun W hm => (laws_markGroupS_c w.heap.size w [iOwn (tSl tyGroup 80) [.slice A19 (laws_toGroupS_m x0).length c20] ((laws_markGroupS_m (laws_toGroupS_m x0) 1).2), iOwn (tSl tyGroup 80) [.slice A31 (laws_toGroupS_m x0).length c32] (laws_toGroupS_m x0), iOwn (tSl tyGroup 80) [.slice A14 (spec_GroupsOf_m (laws_toGroupS_m x0) x1).length c15] (spec_GroupsOf_m (laws_toGroupS_m x0) x1), iOwn (tSl tyGroup 80) [.slice A9 (laws_toGroupS_m x0).length c10] (laws_toGroupS_m x0)] W (.slice A24 (impl_GroupsOf_m (laws_toGroupS_m x0) x1).length c25) (impl_GroupsOf_m (laws_toGroupS_m x0) x1) 1 (hm.front (n := 2) rfl)).mono (fun _ _ h => ⟨(), h.1, h.2⟩)) (Wd_none rfl) (by decide) (fun _ => ?_)
          refine WM_val (fun W hm => rv_assign rfl) (Wd_none rfl) rfl (by decide) ?_
          refine WM_nil ?_
          refine QM_then ?_
          refine CM_seq ?_
          refine CM_region ?_
          refine WM_val (fun W hm => rv_assign rfl) (Wd_none rfl) rfl (by decide) ?_
          refine WM_nil ?_
          refine QM_then ?_
          refine CM_seq ?_
          refine CM_region ?_
          refine WM_val (fun W hm => rv_move rfl) (Wd_none rfl) rfl (by decide) ?_
          refine WM_val (fun W hm => rv_move rfl) (Wd_none rfl) rfl (by decide) ?_
          refine WM_callV cb23 rfl (fun W hm => laws_heldGroupS_c W _ ((laws_markGroupS_m (impl_GroupsOf_m (laws_toGroupS_m x0) x1) 1).2) 1 (hm.rdSI (n := 0) rfl)) (Wd_none rfl) (by decide) ?_
          refine WM_val (fun W hm => rv_assign rfl) (Wd_none rfl) rfl (by decide) ?_
          refine WM_nil ?_
          refine QM_then ?_
          refine CM_seq ?_
          refine CM_seq ?_
          refine CM_region ?_
          refine WM_val (fun W hm => rv_move rfl) (Wd_none rfl) rfl (by decide) ?_
          refine WM_val (fun W hm => rv_lss rfl rfl) (Wd_none rfl) rfl (by decide) ?_
          refine WM_nil ?_
          refine QM_then ?_
          by_cases h39 : (laws_heldGroupS_m ((laws_markGroupS_m (impl_GroupsOf_m (laws_toGroupS_m x0) x1) 1).2) 1) < 0
          · have g40 : (decide ((laws_heldGroupS_m ((laws_markGroupS_m (impl_GroupsOf_m (laws_toGroupS_m x0) x1) 1).2) 1) < 0)) = true := decide_eq_true h39
            refine CM_condT rfl g40 ?_
            refine CM_seq ?_
            refine CM_region ?_
            refine WM_val (fun W hm => rv_assign rfl) (Wd_none rfl) rfl (by decide) ?_
            refine WM_nil ?_
            refine QM_then ?_
            refine CM_ret ?_
            refine QM_then_ret ?_
            exact QM_ret1 rfl rfl (fun W hm => ⟨ret_b (show laws_FnExactGroupsOf_m x0 x1 = false from by unfold laws_FnExactGroupsOf_m; exact cond_f g7 (cond_t g29 (cond_t g36 (cond_f g38 (cond_t g40 (rfl)))))), hm.below⟩)
          · have g40 : (decide ((laws_heldGroupS_m ((laws_markGroupS_m (impl_GroupsOf_m (laws_toGroupS_m x0) x1) 1).2) 1) < 0)) = false := decide_eq_false h39
            refine CM_condF rfl g40 ?_
            refine CM_skip ?_
            refine QM_then ?_
            refine CM_seq ?_
            refine CM_seq ?_
            refine CM_region ?_
            refine WM_val (fun W hm => rv_move rfl) (Wd_none rfl) rfl (by decide) ?_
            refine WM_val (fun W hm => rv_move rfl) (Wd_none rfl) rfl (by decide) ?_
            refine WM_val (fun W hm => rv_neq rfl rfl) (Wd_none rfl) rfl (by decide) ?_
            refine WM_nil ?_
            refine QM_then ?_
            by_cases h41 : (laws_heldGroupS_m ((laws_markGroupS_m (impl_GroupsOf_m (laws_toGroupS_m x0) x1) 1).2) 1) = ((laws_markGroupS_m (impl_GroupsOf_m (laws_toGroupS_m x0) x1) 1).1)
            · have g42 : ((laws_heldGroupS_m ((laws_markGroupS_m (impl_GroupsOf_m (laws_toGroupS_m x0) x1) 1).2) 1) != ((laws_markGroupS_m (impl_GroupsOf_m (laws_toGroupS_m x0) x1) 1).1)) = false := by rw [h41]; exact bne_self_eq_false _
              refine CM_condF rfl g42 ?_
              refine CM_skip ?_
              refine QM_then ?_
              refine CM_seq ?_
              refine CM_region ?_
              refine WM_val (fun W hm => rv_move rfl) (Wd_none rfl) rfl (by decide) ?_
              refine WM_call (χ := Value) (val := fun x => x) (js := fun x => [iOwn (tSl tyGroup 80) [x] (laws_toGroupS_m x0)]) cb19 rfl (fun W hm => laws_toGroupS_c W _ x0 (hm.rdS0 r5) (by omega)) (Wd_none rfl) (by decide) (fun z43 => ?_)
              refine WM_form (n := 0) rfl ?_
              rintro A44 c45 rfl m46
              refine WM_val (fun W hm => rv_move rfl) (Wd_none rfl) rfl (by decide) ?_
              refine WM_call (χ := Value) (val := fun x => x) (js := fun x => [iOwn (tSl tyGroup 80) [x] (impl_GroupsOf_m (laws_toGroupS_m x0) x1)]) cb20 rfl (fun W hm => impl_GroupsOf_c W _ (laws_toGroupS_m x0) x1 (hm.rdSI (n := 0) rfl) (by rw [laws_toGroupS_eq]; exact (by omega))) (Wd_none rfl) (by decide) (fun z48 => ?_)
              refine WM_form (n := 0) rfl ?_
              rintro A49 c50 rfl m51
              refine WM_val (fun W hm => rv_assign rfl) (Wd_none rfl) rfl (by decide) ?_
              refine WM_nil ?_
              refine QM_then ?_
              refine CM_seq ?_
              refine CM_seq ?_
              refine CM_region ?_
              refine WM_val (fun W hm => rv_move rfl) (Wd_none rfl) rfl (by decide) ?_
              refine WM_val (fun W hm => rv_move rfl) (Wd_none rfl) rfl (by decide) ?_
              refine WM_callV cb21 rfl (fun W hm => laws_eqGroupS_c W _ (impl_GroupsOf_m (laws_toGroupS_m x0) x1) _ (spec_GroupsOf_m (laws_toGroupS_m x0) x1) (hm.rdSI (n := 0) rfl) (hm.rdSI (n := 5) rfl)) (Wd_none rfl) (by decide) ?_
              refine WM_val (fun W hm => rv_not rfl) (Wd_none rfl) rfl (by decide) ?_
              refine WM_nil ?_
              refine QM_then ?_
              refine CM_condF rfl (nt g29) ?_
              refine CM_skip ?_
              refine QM_then ?_
              refine CM_seq ?_
              refine CM_region ?_
              refine WM_val (fun W hm => rv_assign rfl) (Wd_none rfl) rfl (by decide) ?_
              refine WM_nil ?_
              refine QM_then ?_
              refine CM_seq ?_
              refine CM_region ?_
              refine WM_val (fun W hm => rv_move rfl) (Wd_none rfl) rfl (by decide) ?_
              refine WM_val (fun W hm => rv_move rfl) (Wd_none rfl) rfl (by decide) ?_
              refine WM_callV cb23 rfl (fun W hm => laws_heldGroupS_c W _ ((laws_markGroupS_m (impl_GroupsOf_m (laws_toGroupS_m x0) x1) 1).2) 1 (hm.rdSI (n := 2) rfl)) (Wd_none rfl) (by decide) ?_
              refine WM_val (fun W hm => rv_assign rfl) (Wd_none rfl) rfl (by decide) ?_
              refine WM_nil ?_
              refine QM_then ?_
              refine CM_seq ?_
              refine CM_seq ?_
              refine CM_region ?_
              refine WM_val (fun W hm => rv_move rfl) (Wd_none rfl) rfl (by decide) ?_
              refine WM_val (fun W hm => rv_lss rfl rfl) (Wd_none rfl) rfl (by decide) ?_
              refine WM_nil ?_
              refine QM_then ?_
              refine CM_condF rfl g40 ?_
              refine CM_skip ?_
              refine QM_then ?_
              refine CM_seq ?_
              refine CM_seq ?_
              refine CM_region ?_
              refine WM_val (fun W hm => rv_move rfl) (Wd_none rfl) rfl (by decide) ?_
              refine WM_val (fun W hm => rv_move rfl) (Wd_none rfl) rfl (by decide) ?_
              refine WM_val (fun W hm => rv_neq rfl rfl) (Wd_none rfl) rfl (by decide) ?_
              refine WM_nil ?_
              refine QM_then ?_
              refine CM_condF rfl g42 ?_
              refine CM_skip ?_
              refine QM_then ?_
              refine CM_seq ?_
              refine CM_region ?_
              refine WM_val (fun W hm => rv_assign rfl) (Wd_none rfl) rfl (by decide) ?_
              refine WM_nil ?_
              refine QM_then ?_
              refine CM_ret ?_
              exact QM_ret1 rfl rfl (fun W hm => ⟨ret_b (show laws_FnExactGroupsOf_m x0 x1 = true from by unfold laws_FnExactGroupsOf_m; exact cond_f g7 (cond_t g29 (cond_t g36 (cond_f g38 (cond_f g40 (cond_f g42 (rfl))))))), hm.below⟩)
            · have g42 : ((laws_heldGroupS_m ((laws_markGroupS_m (impl_GroupsOf_m (laws_toGroupS_m x0) x1) 1).2) 1) != ((laws_markGroupS_m (impl_GroupsOf_m (laws_toGroupS_m x0) x1) 1).1)) = true := bne_iff_ne.2 h41
              refine CM_condT rfl g42 ?_
              refine CM_seq ?_
              refine CM_region ?_
              refine WM_val (fun W hm => rv_assign rfl) (Wd_none rfl) rfl (by decide) ?_
              refine WM_nil ?_
              refine QM_then ?_
              refine CM_ret ?_
              refine QM_then_ret ?_
              exact QM_ret1 rfl rfl (fun W hm => ⟨ret_b (show laws_FnExactGroupsOf_m x0 x1 = false from by unfold laws_FnExactGroupsOf_m; exact cond_f g7 (cond_t g29 (cond_t g36 (cond_f g38 (cond_f g40 (cond_t g42 (rfl))))))), hm.below⟩)
      ·
        refine CM_condT rfl (nf g36) ?_
        refine CM_seq ?_
        refine CM_region ?_
        refine WM_val (fun W hm => rv_assign rfl) (Wd_none rfl) rfl (by decide) ?_
        refine WM_nil ?_
        refine QM_then ?_
        refine CM_ret ?_
        refine QM_then_ret ?_
        exact QM_ret1 rfl rfl (fun W hm => ⟨ret_b (show laws_FnExactGroupsOf_m x0 x1 = false from by unfold laws_FnExactGroupsOf_m; exact cond_f g7 (cond_t g29 (cond_f g36 (rfl)))), hm.below⟩)
    ·
      refine CM_condT rfl (nf g29) ?_
      refine CM_seq ?_
      refine CM_region ?_
      refine WM_val (fun W hm => rv_assign rfl) (Wd_none rfl) rfl (by decide) ?_
      refine WM_nil ?_
      refine QM_then ?_
      refine CM_ret ?_
      refine QM_then_ret ?_
      exact QM_ret1 rfl rfl (fun W hm => ⟨ret_b (show laws_FnExactGroupsOf_m x0 x1 = false from by unfold laws_FnExactGroupsOf_m; exact cond_f g7 (cond_f g29 (rfl))), hm.below⟩)

end Go.Proofs.Ytlpgopanikikkaa
