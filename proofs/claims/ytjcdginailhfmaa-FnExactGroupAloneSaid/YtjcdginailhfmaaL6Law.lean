/-
  The contract of the law.
-/
import Derived.Test.YtjcdginailhfmaaL6Pl
namespace Go.Proofs.Ytjcdginailhfmaa
open Go.RowKit
def laws_FnExactGroupAlone_m (x0 : Int) (x1 : (List DRow)) (x2 : Int) (x3 : Int) : Bool :=
 cond (decide ((laws_szRowS_m x1 1048576) < 0)) true (cond (laws_eqGroupS_m (impl_GroupAlone_m x0 (laws_toRowS_m x1) x2 x3) (spec_GroupAlone_m x0 (laws_toRowS_m x1) x2 x3)) (cond (laws_eqRowS_m (laws_toRowS_m x1) (laws_toRowS_m x1)) (cond (decide (((laws_markRowS_m (laws_toRowS_m x1) 1).1) < 0)) false (cond (decide ((laws_heldGroupS_m ((laws_markGroupS_m (impl_GroupAlone_m x0 (laws_toRowS_m x1) x2 x3) 1).2) 1) < 0)) false (cond ((laws_heldGroupS_m ((laws_markGroupS_m (impl_GroupAlone_m x0 (laws_toRowS_m x1) x2 x3) 1).2) 1) != ((laws_markGroupS_m (impl_GroupAlone_m x0 (laws_toRowS_m x1) x2 x3) 1).1)) false true))) false) false)
set_option maxRecDepth 100000 in
theorem cb6 : Cb Try.prog 6 := ⟨Try.f6, _, Try.func6, rfl, by decide⟩
set_option maxRecDepth 10000 in
set_option maxHeartbeats 4000000 in
theorem laws_FnExactGroupAlone_c (w : World) (x0 : Int) (z1 : Value) (x1 : (List DRow)) (x2 : Int) (x3 : Int) (r_1 : rdS tyLRow w w.heap.size z1 x1) :
  Calls Try.prog 6 #[.int .i64 x0, z1, .int .i64 x2, .int .i64 x3] w fun e w' => e = .returned (.bool (laws_FnExactGroupAlone_m x0 x1 x2 x3)) ∧ Below w.heap.size w w' := by
 have ok1 := (rdS_sm r_1 fun _ _ h => (tyLRow_sm h))
 have r5 := r_1
 obtain ⟨m1, A2, c3, rfl, q4⟩ := r_1
 refine call_enterM (L := [(0, .int .i64 x0), (1, .slice A2 x1.length c3), (2, .int .i64 x2), (3, .int .i64 x3)]) (N := 84) Try.func6 rfl rfl (Nat.le_of_ble_eq_true rfl) (argsL_cons rfl (argsL_cons rfl (argsL_cons rfl (argsL_cons rfl argsL_nil)))) ?_
 refine sr ?_
 refine wa ?_
 refine nt' ?_
 refine sr ?_
 refine wa ?_
 refine nt' ?_
 refine sr ?_
 refine wm ?_
 refine wm ?_
 refine WM_callV (cl_fn cb33 rfl) (fun W hm => laws_szRowS_c W _ x1 1048576 (hm.rdS0 r5)) (Wd_none rfl) (by decide) ?_
 refine wa ?_
 refine nt' ?_
 refine CM_seq ?_
 refine sr ?_
 refine wm ?_
 refine wv (fun W hm => rv_lss rfl rfl) ?_
 refine nt' ?_
 by_cases h6 : (laws_szRowS_m x1 1048576) < 0
 ·have g7 : (decide ((laws_szRowS_m x1 1048576) < 0)) = true := decide_eq_true h6
  refine CM_condT rfl g7 ?_
  refine sr ?_
  refine wa ?_
  refine nt' ?_
  refine CM_ret ?_
  refine QM_then_ret ?_
  exact QM_ret1 rfl rfl (fun W hm => ⟨ret_b (show laws_FnExactGroupAlone_m x0 x1 x2 x3 = true from by unfold laws_FnExactGroupAlone_m; exact cond_t g7 (rfl)), hm.below⟩)
 ·have g7 : (decide ((laws_szRowS_m x1 1048576) < 0)) = false := decide_eq_false h6
  obtain ⟨hz1, hy1, hw1⟩ := sz_small laws_szRowS_ok ok1 (by omega) (by omega) g7
  refine CM_condF rfl g7 ?_
  refine CM_skip ?_
  refine QM_then ?_
  refine sr ?_
  refine wm ?_
  refine wm ?_
  refine WM_call (χ := Value) (val := fun x => x) (js := fun x => [iOwn (tSl tyRow 69) [x] (laws_toRowS_m x1)]) (cl_fn cb35 rfl) (fun W hm => laws_toRowS_c W _ x1 (hm.rdS0 r5) (sm_wtS (by omega) fun y h => (smRow_wt (h)))) (Wd_none rfl) (by decide) (fun z8 => ?_)
  refine WM_form (n := 0) rfl ?_
  rintro A9 c10 rfl m11
  refine wm ?_
  refine wm ?_
  refine WM_call (χ := Value) (val := fun x => x) (js := fun x => [iOwn (tSl tyGroup 117) [x] (spec_GroupAlone_m x0 (laws_toRowS_m x1) x2 x3)]) (cl_fn cb34 rfl) (fun W hm => spec_GroupAlone_c W x0 _ (laws_toRowS_m x1) x2 x3 (hm.rdSI (n := 0) rfl) (by rw [laws_toRowS_eq]; exact (sm_wtS (by omega) fun y h => (smRow_wt (h))))) (Wd_none rfl) (by decide) (fun z13 => ?_)
  refine WM_form (n := 0) rfl ?_
  rintro A14 c15 rfl m16
  refine wa ?_
  refine nt' ?_
  refine sr ?_
  refine wm ?_
  refine WM_call (χ := Value) (val := fun x => x) (js := fun x => [iOwn (tSl tyRow 69) [x] (laws_toRowS_m x1)]) (cl_fn cb35 rfl) (fun W hm => laws_toRowS_c W _ x1 (hm.rdS0 r5) (sm_wtS (by omega) fun y h => (smRow_wt (h)))) (Wd_none rfl) (by decide) (fun z18 => ?_)
  refine WM_form (n := 0) rfl ?_
  rintro A19 c20 rfl m21
  refine wa ?_
  refine nt' ?_
  refine sr ?_
  refine wm ?_
  refine wm ?_
  refine wm ?_
  refine wm ?_
  refine WM_call (χ := Value) (val := fun x => x) (js := fun x => [iOwn (tSl tyGroup 117) [x] (impl_GroupAlone_m x0 (laws_toRowS_m x1) x2 x3)]) (cl_fn cb36 rfl) (fun W hm => impl_GroupAlone_c W x0 _ (laws_toRowS_m x1) x2 x3 (hm.rdSI (n := 0) rfl) (by rw [laws_toRowS_eq]; exact (sm_wtS (by omega) fun y h => (smRow_wt (h))))) (Wd_none rfl) (by decide) (fun z23 => ?_)
  refine WM_form (n := 0) rfl ?_
  rintro A24 c25 rfl m26
  refine wa ?_
  refine nt' ?_
  refine CM_seq ?_
  refine sr ?_
  refine wm ?_
  refine wm ?_
  refine WM_callV (cl_fn cb37 rfl) (fun W hm => laws_eqGroupS_c W _ (impl_GroupAlone_m x0 (laws_toRowS_m x1) x2 x3) _ (spec_GroupAlone_m x0 (laws_toRowS_m x1) x2 x3) (hm.rdSI (n := 0) rfl) (hm.rdSI (n := 2) rfl)) (Wd_none rfl) (by decide) ?_
  refine wv (fun W hm => rv_not rfl) ?_
  refine nt' ?_
  rcases Bool.eq_false_or_eq_true (laws_eqGroupS_m (impl_GroupAlone_m x0 (laws_toRowS_m x1) x2 x3) (spec_GroupAlone_m x0 (laws_toRowS_m x1) x2 x3)) with g29 | g29
  ·
   refine CM_condF rfl (nt g29) ?_
   refine CM_skip ?_
   refine QM_then ?_
   refine CM_seq ?_
   refine sr ?_
   refine wm ?_
   refine wm ?_
   refine WM_call (χ := Value) (val := fun x => x) (js := fun x => [iOwn (tSl tyRow 69) [x] (laws_toRowS_m x1)]) (cl_fn cb35 rfl) (fun W hm => laws_toRowS_c W _ x1 (hm.rdS0 r5) (sm_wtS (by omega) fun y h => (smRow_wt (h)))) (Wd_none rfl) (by decide) (fun z30 => ?_)
   refine WM_form (n := 0) rfl ?_
   rintro A31 c32 rfl m33
   refine WM_callV (cl_fn cb15 rfl) (fun W hm => laws_eqRowS_c W _ (laws_toRowS_m x1) _ (laws_toRowS_m x1) (hm.rdSI (n := 2) rfl) (hm.rdSI (n := 0) rfl)) (Wd_none rfl) (by decide) ?_
   refine wv (fun W hm => rv_not rfl) ?_
   refine nt' ?_
   rcases Bool.eq_false_or_eq_true (laws_eqRowS_m (laws_toRowS_m x1) (laws_toRowS_m x1)) with g36 | g36
   ·
    refine CM_condF rfl (nt g36) ?_
    refine CM_skip ?_
    refine QM_then ?_
    refine sr ?_
    refine wa ?_
    refine nt' ?_
    refine sr ?_
    refine wm ?_
    refine wm ?_
    refine WM_callW (χ := Unit) (val := fun _ => .int .i64 (laws_markRowS_m (laws_toRowS_m x1) 1).1) (js := fun _ => (iOwn (tSl tyRow 69) [.slice A19 (laws_toRowS_m x1).length c20] (laws_markRowS_m (laws_toRowS_m x1) 1).2 :: [iOwn (tSl tyRow 69) [.slice A31 (laws_toRowS_m x1).length c32] (laws_toRowS_m x1), iOwn (tSl tyGroup 117) [.slice A24 (impl_GroupAlone_m x0 (laws_toRowS_m x1) x2 x3).length c25] (impl_GroupAlone_m x0 (laws_toRowS_m x1) x2 x3), iOwn (tSl tyGroup 117) [.slice A14 (spec_GroupAlone_m x0 (laws_toRowS_m x1) x2 x3).length c15] (spec_GroupAlone_m x0 (laws_toRowS_m x1) x2 x3), iOwn (tSl tyRow 69) [.slice A9 (laws_toRowS_m x1).length c10] (laws_toRowS_m x1)])) (cl_fn cb18 rfl) (fun W hm => (laws_markRowS_c w.heap.size w [iOwn (tSl tyRow 69) [.slice A31 (laws_toRowS_m x1).length c32] (laws_toRowS_m x1), iOwn (tSl tyGroup 117) [.slice A24 (impl_GroupAlone_m x0 (laws_toRowS_m x1) x2 x3).length c25] (impl_GroupAlone_m x0 (laws_toRowS_m x1) x2 x3), iOwn (tSl tyGroup 117) [.slice A14 (spec_GroupAlone_m x0 (laws_toRowS_m x1) x2 x3).length c15] (spec_GroupAlone_m x0 (laws_toRowS_m x1) x2 x3), iOwn (tSl tyRow 69) [.slice A9 (laws_toRowS_m x1).length c10] (laws_toRowS_m x1)] W (.slice A19 (laws_toRowS_m x1).length c20) (laws_toRowS_m x1) 1 (hm.pick [2, 0, 1, 3, 4] (by decide))).mono (fun _ _ h => ⟨(), h.1, h.2⟩)) (Wd_none rfl) (by decide) (fun _ => ?_)
    refine wa ?_
    refine nt' ?_
    refine CM_seq ?_
    refine CM_seq ?_
    refine CM_items (fun W hm => (hm.pick [2, 3] (by decide))) ?_
    refine CM_region ?_
    refine wm ?_
    refine wv (fun W hm => rv_lss rfl rfl) ?_
    refine wm ?_
    by_cases h37 : ((laws_markRowS_m (laws_toRowS_m x1) 1).1) < 0
    ·have g38 : (decide (((laws_markRowS_m (laws_toRowS_m x1) 1).1) < 0)) = true := decide_eq_true h37
     refine ws g38 ?_
     refine ws g38 ?_
     refine ws g38 ?_
     refine ws g38 ?_
     refine wv (fun W hm => rv_pickT rfl g38 rfl) ?_
     refine nt' ?_
     refine CM_condT rfl rfl ?_
     refine sr ?_
     refine wa ?_
     refine nt' ?_
     refine CM_ret ?_
     refine QM_then_ret ?_
     exact QM_ret1 rfl rfl (fun W hm => ⟨ret_b (show laws_FnExactGroupAlone_m x0 x1 x2 x3 = false from by unfold laws_FnExactGroupAlone_m; exact cond_f g7 (cond_t g29 (cond_t g36 (cond_t g38 (rfl))))), hm.below⟩)
    ·have g38 : (decide (((laws_markRowS_m (laws_toRowS_m x1) 1).1) < 0)) = false := decide_eq_false h37
     refine wg (fun W hm => rv_move rfl) g38 ?_
     refine wg (fun W hm => rv_move rfl) g38 ?_
     refine WM_callV (cl_fn cb37 rfl) (fun W hm => laws_eqGroupS_c W _ (impl_GroupAlone_m x0 (laws_toRowS_m x1) x2 x3) _ (spec_GroupAlone_m x0 (laws_toRowS_m x1) x2 x3) (hm.rdSI (n := 0) rfl) (hm.rdSI (n := 1) rfl)) (Wd_some rfl rfl rfl (bw g38 rfl)) (by decide) ?_
     refine wg (fun W hm => rv_not rfl) g38 ?_
     refine wv (fun W hm => rv_pickF rfl g38 rfl) ?_
     refine nt' ?_
     refine CM_condF rfl (nt g29) ?_
     refine CM_skip ?_
     refine QM_then ?_
     refine sr ?_
     refine wa ?_
     refine nt' ?_
     refine sr ?_
     refine wm ?_
     refine wm ?_
     refine WM_callW (χ := Unit) (val := fun _ => .int .i64 (laws_markGroupS_m (impl_GroupAlone_m x0 (laws_toRowS_m x1) x2 x3) 1).1) (js := fun _ => (iOwn (tSl tyGroup 117) [.slice A24 (impl_GroupAlone_m x0 (laws_toRowS_m x1) x2 x3).length c25] (laws_markGroupS_m (impl_GroupAlone_m x0 (laws_toRowS_m x1) x2 x3) 1).2 :: [iOwn (tSl tyGroup 117) [.slice A14 (spec_GroupAlone_m x0 (laws_toRowS_m x1) x2 x3).length c15] (spec_GroupAlone_m x0 (laws_toRowS_m x1) x2 x3)])) (cl_fn cb38 rfl) (fun W hm => (laws_markGroupS_c w.heap.size w [iOwn (tSl tyGroup 117) [.slice A14 (spec_GroupAlone_m x0 (laws_toRowS_m x1) x2 x3).length c15] (spec_GroupAlone_m x0 (laws_toRowS_m x1) x2 x3)] W (.slice A24 (impl_GroupAlone_m x0 (laws_toRowS_m x1) x2 x3).length c25) (impl_GroupAlone_m x0 (laws_toRowS_m x1) x2 x3) 1 hm).mono (fun _ _ h => ⟨(), h.1, h.2⟩)) (Wd_none rfl) (by decide) (fun _ => ?_)
     refine wa ?_
     refine nt' ?_
     refine sr ?_
     refine wa ?_
     refine nt' ?_
     refine sr ?_
     refine wm ?_
     refine wm ?_
     refine WM_callV (cl_fn cb39 rfl) (fun W hm => laws_heldGroupS_c W _ ((laws_markGroupS_m (impl_GroupAlone_m x0 (laws_toRowS_m x1) x2 x3) 1).2) 1 (hm.rdSI (n := 0) rfl)) (Wd_none rfl) (by decide) ?_
     refine wa ?_
     refine nt' ?_
     refine CM_seq ?_
     refine sr ?_
     refine wm ?_
     refine wv (fun W hm => rv_lss rfl rfl) ?_
     refine nt' ?_
     by_cases h39 : (laws_heldGroupS_m ((laws_markGroupS_m (impl_GroupAlone_m x0 (laws_toRowS_m x1) x2 x3) 1).2) 1) < 0
     ·have g40 : (decide ((laws_heldGroupS_m ((laws_markGroupS_m (impl_GroupAlone_m x0 (laws_toRowS_m x1) x2 x3) 1).2) 1) < 0)) = true := decide_eq_true h39
      refine CM_condT rfl g40 ?_
      refine sr ?_
      refine wa ?_
      refine nt' ?_
      refine CM_ret ?_
      refine QM_then_ret ?_
      exact QM_ret1 rfl rfl (fun W hm => ⟨ret_b (show laws_FnExactGroupAlone_m x0 x1 x2 x3 = false from by unfold laws_FnExactGroupAlone_m; exact cond_f g7 (cond_t g29 (cond_t g36 (cond_f g38 (cond_t g40 (rfl)))))), hm.below⟩)
     ·have g40 : (decide ((laws_heldGroupS_m ((laws_markGroupS_m (impl_GroupAlone_m x0 (laws_toRowS_m x1) x2 x3) 1).2) 1) < 0)) = false := decide_eq_false h39
      refine CM_condF rfl g40 ?_
      refine CM_skip ?_
      refine QM_then ?_
      refine CM_seq ?_
      refine sr ?_
      refine wm ?_
      refine wm ?_
      refine wv (fun W hm => rv_neq rfl rfl) ?_
      refine nt' ?_
      by_cases h41 : (laws_heldGroupS_m ((laws_markGroupS_m (impl_GroupAlone_m x0 (laws_toRowS_m x1) x2 x3) 1).2) 1) = ((laws_markGroupS_m (impl_GroupAlone_m x0 (laws_toRowS_m x1) x2 x3) 1).1)
      ·have g42 : ((laws_heldGroupS_m ((laws_markGroupS_m (impl_GroupAlone_m x0 (laws_toRowS_m x1) x2 x3) 1).2) 1) != ((laws_markGroupS_m (impl_GroupAlone_m x0 (laws_toRowS_m x1) x2 x3) 1).1)) = false := by rw [h41]; exact bne_self_eq_false _
       refine CM_condF rfl g42 ?_
       refine CM_skip ?_
       refine QM_then ?_
       refine sr ?_
       refine wm ?_
       refine wm ?_
       refine WM_call (χ := Value) (val := fun x => x) (js := fun x => [iOwn (tSl tyRow 69) [x] (laws_toRowS_m x1)]) (cl_fn cb35 rfl) (fun W hm => laws_toRowS_c W _ x1 (hm.rdS0 r5) (sm_wtS (by omega) fun y h => (smRow_wt (h)))) (Wd_none rfl) (by decide) (fun z43 => ?_)
       refine WM_form (n := 0) rfl ?_
       rintro A44 c45 rfl m46
       refine wm ?_
       refine wm ?_
       refine WM_call (χ := Value) (val := fun x => x) (js := fun x => [iOwn (tSl tyGroup 117) [x] (impl_GroupAlone_m x0 (laws_toRowS_m x1) x2 x3)]) (cl_fn cb36 rfl) (fun W hm => impl_GroupAlone_c W x0 _ (laws_toRowS_m x1) x2 x3 (hm.rdSI (n := 0) rfl) (by rw [laws_toRowS_eq]; exact (sm_wtS (by omega) fun y h => (smRow_wt (h))))) (Wd_none rfl) (by decide) (fun z48 => ?_)
       refine WM_form (n := 0) rfl ?_
       rintro A49 c50 rfl m51
       refine wa ?_
       refine nt' ?_
       refine CM_seq ?_
       refine sr ?_
       refine wm ?_
       refine wm ?_
       refine WM_callV (cl_fn cb37 rfl) (fun W hm => laws_eqGroupS_c W _ (impl_GroupAlone_m x0 (laws_toRowS_m x1) x2 x3) _ (spec_GroupAlone_m x0 (laws_toRowS_m x1) x2 x3) (hm.rdSI (n := 0) rfl) (hm.rdSI (n := 3) rfl)) (Wd_none rfl) (by decide) ?_
       refine wv (fun W hm => rv_not rfl) ?_
       refine nt' ?_
       refine CM_condF rfl (nt g29) ?_
       refine CM_skip ?_
       refine QM_then ?_
       refine sr ?_
       refine wa ?_
       refine nt' ?_
       refine sr ?_
       refine wm ?_
       refine wm ?_
       refine WM_callV (cl_fn cb39 rfl) (fun W hm => laws_heldGroupS_c W _ ((laws_markGroupS_m (impl_GroupAlone_m x0 (laws_toRowS_m x1) x2 x3) 1).2) 1 (hm.rdSI (n := 2) rfl)) (Wd_none rfl) (by decide) ?_
       refine wa ?_
       refine nt' ?_
       refine CM_seq ?_
       refine sr ?_
       refine wm ?_
       refine wv (fun W hm => rv_lss rfl rfl) ?_
       refine nt' ?_
       refine CM_condF rfl g40 ?_
       refine CM_skip ?_
       refine QM_then ?_
       refine CM_seq ?_
       refine sr ?_
       refine wm ?_
       refine wm ?_
       refine wv (fun W hm => rv_neq rfl rfl) ?_
       refine nt' ?_
       refine CM_condF rfl g42 ?_
       refine CM_skip ?_
       refine QM_then ?_
       refine sr ?_
       refine wa ?_
       refine nt' ?_
       refine CM_ret ?_
       exact QM_ret1 rfl rfl (fun W hm => ⟨ret_b (show laws_FnExactGroupAlone_m x0 x1 x2 x3 = true from by unfold laws_FnExactGroupAlone_m; exact cond_f g7 (cond_t g29 (cond_t g36 (cond_f g38 (cond_f g40 (cond_f g42 (rfl))))))), hm.below⟩)
      ·have g42 : ((laws_heldGroupS_m ((laws_markGroupS_m (impl_GroupAlone_m x0 (laws_toRowS_m x1) x2 x3) 1).2) 1) != ((laws_markGroupS_m (impl_GroupAlone_m x0 (laws_toRowS_m x1) x2 x3) 1).1)) = true := bne_iff_ne.2 h41
       refine CM_condT rfl g42 ?_
       refine sr ?_
       refine wa ?_
       refine nt' ?_
       refine CM_ret ?_
       refine QM_then_ret ?_
       exact QM_ret1 rfl rfl (fun W hm => ⟨ret_b (show laws_FnExactGroupAlone_m x0 x1 x2 x3 = false from by unfold laws_FnExactGroupAlone_m; exact cond_f g7 (cond_t g29 (cond_t g36 (cond_f g38 (cond_f g40 (cond_t g42 (rfl))))))), hm.below⟩)
   ·
    refine CM_condT rfl (nf g36) ?_
    refine CM_seq ?_
    refine CM_items (fun W hm => (hm.pick [] (by decide))) ?_
    refine CM_region ?_
    refine wa ?_
    refine nt' ?_
    refine CM_ret ?_
    refine QM_then_ret ?_
    exact QM_ret1 rfl rfl (fun W hm => ⟨ret_b (show laws_FnExactGroupAlone_m x0 x1 x2 x3 = false from by unfold laws_FnExactGroupAlone_m; exact cond_f g7 (cond_t g29 (cond_f g36 (rfl)))), hm.below⟩)
  ·
   refine CM_condT rfl (nf g29) ?_
   refine sr ?_
   refine wa ?_
   refine nt' ?_
   refine CM_ret ?_
   refine QM_then_ret ?_
   exact QM_ret1 rfl rfl (fun W hm => ⟨ret_b (show laws_FnExactGroupAlone_m x0 x1 x2 x3 = false from by unfold laws_FnExactGroupAlone_m; exact cond_f g7 (cond_f g29 (rfl))), hm.below⟩)

end Go.Proofs.Ytjcdginailhfmaa
