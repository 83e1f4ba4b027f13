/-
  The contract of the law.
-/
import Derived.Test.YtjcdginailhfmaaL4Pl
namespace Go.Proofs.Ytjcdginailhfmaa
open Go.RowKit
def laws_FnExactKeepSet_m (x0 : (List DAnnotated)) (x1 : (List Int)) : Bool :=
  cond (decide (1048576 < ((x1.length : Nat) : Int))) true (cond (decide ((laws_szAnnotatedS_m x0 1048576) < 0)) true (cond (laws_eqAnnotatedS_m (impl_KeepSet_m (laws_toAnnotatedS_m x0) (laws_toIntS_m x1)) (spec_KeepSet_m (laws_toAnnotatedS_m x0) (laws_toIntS_m x1))) (cond (laws_eqAnnotatedS_m (laws_toAnnotatedS_m x0) (laws_toAnnotatedS_m x0)) (cond (laws_eqIntS_m (laws_toIntS_m x1) (laws_toIntS_m x1)) (cond (decide (((laws_markIntS_m (laws_toIntS_m x1) ((laws_markAnnotatedS_m (laws_toAnnotatedS_m x0) 1).1)).1) < 0)) false (cond (decide ((laws_heldAnnotatedS_m ((laws_markAnnotatedS_m (impl_KeepSet_m (laws_toAnnotatedS_m x0) (laws_toIntS_m x1)) 1).2) 1) < 0)) false (cond ((laws_heldAnnotatedS_m ((laws_markAnnotatedS_m (impl_KeepSet_m (laws_toAnnotatedS_m x0) (laws_toIntS_m x1)) 1).2) 1) != ((laws_markAnnotatedS_m (impl_KeepSet_m (laws_toAnnotatedS_m x0) (laws_toIntS_m x1)) 1).1)) false true))) false) false) false))
theorem cb4 : Cb Try.prog 4 := ⟨Try.f4, _, Try.func4, rfl, by decide⟩
set_option maxRecDepth 10000 in
set_option maxHeartbeats 4000000 in
theorem laws_FnExactKeepSet_c (w : World) (z0 : Value) (x0 : (List DAnnotated)) (z1 : Value) (x1 : (List Int)) (r_0 : rdS tyLAnnotated w w.heap.size z0 x0) (r_1 : rdS tInt w w.heap.size z1 x1) :
    Calls Try.prog 4 #[z0, z1] w fun e w' => e = .returned (.bool (laws_FnExactKeepSet_m x0 x1)) ∧ Below w.heap.size w w' := by
  have ok0 := (rdS_sm r_0 fun _ _ h => (tyLAnnotated_sm h))
  have ok1 := r_1.1
  have r5 := r_0
  obtain ⟨m1, A2, c3, rfl, q4⟩ := r_0
  have r10 := r_1
  obtain ⟨m6, A7, c8, rfl, q9⟩ := r_1
  refine call_enterM (L := [(0, .slice A2 x0.length c3), (1, .slice A7 x1.length c8)]) (N := 90) Try.func4 rfl rfl (Nat.le_of_ble_eq_true rfl) (argsL_cons rfl (argsL_cons rfl argsL_nil)) ?_
  refine sr ?_
  refine wa ?_
  refine nt' ?_
  refine CM_seq ?_
  refine sr ?_
  refine wm ?_
  refine wv (fun W hm => rv_len Try.underlying33 rfl) ?_
  refine wv (fun W hm => rv_gtr rfl rfl) ?_
  refine nt' ?_
  by_cases h11 : 1048576 < ((x1.length : Nat) : Int)
  · have g12 : (decide (1048576 < ((x1.length : Nat) : Int))) = true := decide_eq_true h11
    refine CM_condT rfl g12 ?_
    refine sr ?_
    refine wa ?_
    refine nt' ?_
    refine CM_ret ?_
    refine QM_then_ret ?_
    exact QM_ret1 rfl rfl (fun W hm => ⟨ret_b (show laws_FnExactKeepSet_m x0 x1 = true from by unfold laws_FnExactKeepSet_m; exact cond_t g12 (rfl)), hm.below⟩)
  · have g12 : (decide (1048576 < ((x1.length : Nat) : Int))) = false := decide_eq_false h11
    have hl1 := of_decide_eq_false g12
    refine CM_condF rfl g12 ?_
    refine CM_skip ?_
    refine QM_then ?_
    refine sr ?_
    refine wa ?_
    refine nt' ?_
    refine sr ?_
    refine wm ?_
    refine wm ?_
    refine WM_callV (cl_fn cb11 rfl) (fun W hm => laws_szAnnotatedS_c W _ x0 1048576 (hm.rdS0 r5)) (Wd_none rfl) (by decide) ?_
    refine wa ?_
    refine nt' ?_
    refine CM_seq ?_
    refine sr ?_
    refine wm ?_
    refine wv (fun W hm => rv_lss rfl rfl) ?_
    refine nt' ?_
    by_cases h13 : (laws_szAnnotatedS_m x0 1048576) < 0
    · have g14 : (decide ((laws_szAnnotatedS_m x0 1048576) < 0)) = true := decide_eq_true h13
      refine CM_condT rfl g14 ?_
      refine sr ?_
      refine wa ?_
      refine nt' ?_
      refine CM_ret ?_
      refine QM_then_ret ?_
      exact QM_ret1 rfl rfl (fun W hm => ⟨ret_b (show laws_FnExactKeepSet_m x0 x1 = true from by unfold laws_FnExactKeepSet_m; exact cond_f g12 (cond_t g14 (rfl))), hm.below⟩)
    · have g14 : (decide ((laws_szAnnotatedS_m x0 1048576) < 0)) = false := decide_eq_false h13
      obtain ⟨hz0, hy0, hw0⟩ := sz_small laws_szAnnotatedS_ok ok0 (by omega) (by omega) g14
      refine CM_condF rfl g14 ?_
      refine CM_skip ?_
      refine QM_then ?_
      refine sr ?_
      refine wm ?_
      refine WM_call (χ := Value) (val := fun x => x) (js := fun x => [iOwn (tSl tyAnnotated 91) [x] (laws_toAnnotatedS_m x0)]) (cl_fn cb13 rfl) (fun W hm => laws_toAnnotatedS_c W _ x0 (hm.rdS0 r5) (sm_wtS (by omega) fun y h => (smAnnotated_wt (h)))) (Wd_none rfl) (by decide) (fun z15 => ?_)
      refine WM_form (n := 0) rfl ?_
      rintro A16 c17 rfl m18
      refine wm ?_
      refine WM_call (χ := Value) (val := fun x => x) (js := fun x => [iOwn (tSl tInt 3) [x] (laws_toIntS_m x1)]) (cl_fn cb21 rfl) (fun W hm => laws_toIntS_c W _ x1 (hm.rdS0 r10) (by omega)) (Wd_none rfl) (by decide) (fun z20 => ?_)
      refine WM_form (n := 0) rfl ?_
      rintro A21 c22 rfl m23
      refine WM_call (χ := Value) (val := fun x => x) (js := fun x => [iOwn (tSl tyAnnotated 91) [x] (spec_KeepSet_m (laws_toAnnotatedS_m x0) (laws_toIntS_m x1))]) (cl_fn cb20 rfl) (fun W hm => spec_KeepSet_c W _ (laws_toAnnotatedS_m x0) _ (laws_toIntS_m x1) (hm.rdSI (n := 1) rfl) (hm.rdSI (n := 0) rfl) (by rw [laws_toAnnotatedS_eq]; exact (sm_wtS (by omega) fun y h => (smAnnotated_wt (h)))) (by rw [laws_toIntS_eq]; exact (by omega))) (Wd_none rfl) (by decide) (fun z25 => ?_)
      refine WM_form (n := 0) rfl ?_
      rintro A26 c27 rfl m28
      refine wa ?_
      refine nt' ?_
      refine sr ?_
      refine wm ?_
      refine WM_call (χ := Value) (val := fun x => x) (js := fun x => [iOwn (tSl tyAnnotated 91) [x] (laws_toAnnotatedS_m x0)]) (cl_fn cb13 rfl) (fun W hm => laws_toAnnotatedS_c W _ x0 (hm.rdS0 r5) (sm_wtS (by omega) fun y h => (smAnnotated_wt (h)))) (Wd_none rfl) (by decide) (fun z30 => ?_)
      refine WM_form (n := 0) rfl ?_
      rintro A31 c32 rfl m33
      refine wa ?_
      refine nt' ?_
      refine sr ?_
      refine wm ?_
      refine WM_call (χ := Value) (val := fun x => x) (js := fun x => [iOwn (tSl tInt 3) [x] (laws_toIntS_m x1)]) (cl_fn cb21 rfl) (fun W hm => laws_toIntS_c W _ x1 (hm.rdS0 r10) (by omega)) (Wd_none rfl) (by decide) (fun z35 => ?_)
      refine WM_form (n := 0) rfl ?_
      rintro A36 c37 rfl m38
      refine wa ?_
      refine nt' ?_
      refine sr ?_
      refine wm ?_
      refine wm ?_
      refine WM_call (χ := Value) (val := fun x => x) (js := fun x => [iOwn (tSl tyAnnotated 91) [x] (impl_KeepSet_m (laws_toAnnotatedS_m x0) (laws_toIntS_m x1))]) (cl_fn cb22 rfl) (fun W hm => impl_KeepSet_c W _ (laws_toAnnotatedS_m x0) _ (laws_toIntS_m x1) (hm.rdSI (n := 1) rfl) (hm.rdSI (n := 0) rfl) (by rw [laws_toAnnotatedS_eq]; exact (sm_wtS (by omega) fun y h => (smAnnotated_wt (h)))) (by rw [laws_toIntS_eq]; exact (by omega))) (Wd_none rfl) (by decide) (fun z40 => ?_)
      refine WM_form (n := 0) rfl ?_
      rintro A41 c42 rfl m43
      refine wa ?_
      refine nt' ?_
      refine CM_seq ?_
      refine sr ?_
      refine wm ?_
      refine wm ?_
      refine WM_callV (cl_fn cb16 rfl) (fun W hm => laws_eqAnnotatedS_c W _ (impl_KeepSet_m (laws_toAnnotatedS_m x0) (laws_toIntS_m x1)) _ (spec_KeepSet_m (laws_toAnnotatedS_m x0) (laws_toIntS_m x1)) (hm.rdSI (n := 0) rfl) (hm.rdSI (n := 3) rfl)) (Wd_none rfl) (by decide) ?_
      refine wv (fun W hm => rv_not rfl) ?_
      refine nt' ?_
      rcases Bool.eq_false_or_eq_true (laws_eqAnnotatedS_m (impl_KeepSet_m (laws_toAnnotatedS_m x0) (laws_toIntS_m x1)) (spec_KeepSet_m (laws_toAnnotatedS_m x0) (laws_toIntS_m x1))) with g46 | g46
      ·
        refine CM_condF rfl (nt g46) ?_
        refine CM_skip ?_
        refine QM_then ?_
        refine CM_seq ?_
        refine sr ?_
        refine wm ?_
        refine wm ?_
        refine WM_call (χ := Value) (val := fun x => x) (js := fun x => [iOwn (tSl tyAnnotated 91) [x] (laws_toAnnotatedS_m x0)]) (cl_fn cb13 rfl) (fun W hm => laws_toAnnotatedS_c W _ x0 (hm.rdS0 r5) (sm_wtS (by omega) fun y h => (smAnnotated_wt (h)))) (Wd_none rfl) (by decide) (fun z47 => ?_)
        refine WM_form (n := 0) rfl ?_
        rintro A48 c49 rfl m50
        refine WM_callV (cl_fn cb16 rfl) (fun W hm => laws_eqAnnotatedS_c W _ (laws_toAnnotatedS_m x0) _ (laws_toAnnotatedS_m x0) (hm.rdSI (n := 3) rfl) (hm.rdSI (n := 0) rfl)) (Wd_none rfl) (by decide) ?_
        refine wv (fun W hm => rv_not rfl) ?_
        refine nt' ?_
        rcases Bool.eq_false_or_eq_true (laws_eqAnnotatedS_m (laws_toAnnotatedS_m x0) (laws_toAnnotatedS_m x0)) with g53 | g53
        ·
          refine CM_condF rfl (nt g53) ?_
          refine CM_skip ?_
          refine QM_then ?_
          refine CM_seq ?_
          refine CM_seq ?_
          refine CM_items (fun W hm => (hm.pick [1, 2, 3, 4] (by decide))) ?_
          refine CM_region ?_
          refine wm ?_
          refine wm ?_
          refine WM_call (χ := Value) (val := fun x => x) (js := fun x => [iOwn (tSl tInt 3) [x] (laws_toIntS_m x1)]) (cl_fn cb21 rfl) (fun W hm => laws_toIntS_c W _ x1 (hm.rdS0 r10) (by omega)) (Wd_none rfl) (by decide) (fun z54 => ?_)
          refine WM_form (n := 0) rfl ?_
          rintro A55 c56 rfl m57
          refine WM_callV (cl_fn cb23 rfl) (fun W hm => laws_eqIntS_c W _ (laws_toIntS_m x1) _ (laws_toIntS_m x1) (hm.rdSI (n := 2) rfl) (hm.rdSI (n := 0) rfl)) (Wd_none rfl) (by decide) ?_
          refine wv (fun W hm => rv_not rfl) ?_
          refine nt' ?_
          rcases Bool.eq_false_or_eq_true (laws_eqIntS_m (laws_toIntS_m x1) (laws_toIntS_m x1)) with g60 | g60
          ·
            refine CM_condF rfl (nt g60) ?_
            refine CM_skip ?_
            refine QM_then ?_
            refine sr ?_
            refine wa ?_
            refine nt' ?_
            refine sr ?_
            refine wm ?_
            refine wm ?_
            refine WM_callW (χ := Unit) (val := fun _ => .int .i64 (laws_markAnnotatedS_m (laws_toAnnotatedS_m x0) 1).1) (js := fun _ => (iOwn (tSl tyAnnotated 91) [.slice A31 (laws_toAnnotatedS_m x0).length c32] (laws_markAnnotatedS_m (laws_toAnnotatedS_m x0) 1).2 :: [iOwn (tSl tInt 3) [.slice A55 (laws_toIntS_m x1).length c56] (laws_toIntS_m x1), iOwn (tSl tyAnnotated 91) [.slice A41 (impl_KeepSet_m (laws_toAnnotatedS_m x0) (laws_toIntS_m x1)).length c42] (impl_KeepSet_m (laws_toAnnotatedS_m x0) (laws_toIntS_m x1)), iOwn (tSl tInt 3) [.slice A36 (laws_toIntS_m x1).length c37] (laws_toIntS_m x1), iOwn (tSl tyAnnotated 91) [.slice A26 (spec_KeepSet_m (laws_toAnnotatedS_m x0) (laws_toIntS_m x1)).length c27] (spec_KeepSet_m (laws_toAnnotatedS_m x0) (laws_toIntS_m x1))])) (cl_fn cb17 rfl) (fun W hm => (laws_markAnnotatedS_c w.heap.size w [iOwn (tSl tInt 3) [.slice A55 (laws_toIntS_m x1).length c56] (laws_toIntS_m x1), iOwn (tSl tyAnnotated 91) [.slice A41 (impl_KeepSet_m (laws_toAnnotatedS_m x0) (laws_toIntS_m x1)).length c42] (impl_KeepSet_m (laws_toAnnotatedS_m x0) (laws_toIntS_m x1)), iOwn (tSl tInt 3) [.slice A36 (laws_toIntS_m x1).length c37] (laws_toIntS_m x1), iOwn (tSl tyAnnotated 91) [.slice A26 (spec_KeepSet_m (laws_toAnnotatedS_m x0) (laws_toIntS_m x1)).length c27] (spec_KeepSet_m (laws_toAnnotatedS_m x0) (laws_toIntS_m x1))] W (.slice A31 (laws_toAnnotatedS_m x0).length c32) (laws_toAnnotatedS_m x0) 1 (hm.pick [3, 0, 1, 2, 4] (by decide))).mono (fun _ _ h => ⟨(), h.1, h.2⟩)) (Wd_none rfl) (by decide) (fun _ => ?_)
            refine wa ?_
            refine nt' ?_
            refine sr ?_
            refine wm ?_
            refine wm ?_
            refine WM_callW (χ := Unit) (val := fun _ => .int .i64 (laws_markIntS_m (laws_toIntS_m x1) ((laws_markAnnotatedS_m (laws_toAnnotatedS_m x0) 1).1)).1) (js := fun _ => (iOwn (tSl tInt 3) [.slice A36 (laws_toIntS_m x1).length c37] (laws_markIntS_m (laws_toIntS_m x1) ((laws_markAnnotatedS_m (laws_toAnnotatedS_m x0) 1).1)).2 :: [iOwn (tSl tyAnnotated 91) [.slice A31 (laws_toAnnotatedS_m x0).length c32] ((laws_markAnnotatedS_m (laws_toAnnotatedS_m x0) 1).2), iOwn (tSl tInt 3) [.slice A55 (laws_toIntS_m x1).length c56] (laws_toIntS_m x1), iOwn (tSl tyAnnotated 91) [.slice A41 (impl_KeepSet_m (laws_toAnnotatedS_m x0) (laws_toIntS_m x1)).length c42] (impl_KeepSet_m (laws_toAnnotatedS_m x0) (laws_toIntS_m x1)), iOwn (tSl tyAnnotated 91) [.slice A26 (spec_KeepSet_m (laws_toAnnotatedS_m x0) (laws_toIntS_m x1)).length c27] (spec_KeepSet_m (laws_toAnnotatedS_m x0) (laws_toIntS_m x1))])) (cl_fn cb24 rfl) (fun W hm => (laws_markIntS_c w.heap.size w [iOwn (tSl tyAnnotated 91) [.slice A31 (laws_toAnnotatedS_m x0).length c32] ((laws_markAnnotatedS_m (laws_toAnnotatedS_m x0) 1).2), iOwn (tSl tInt 3) [.slice A55 (laws_toIntS_m x1).length c56] (laws_toIntS_m x1), iOwn (tSl tyAnnotated 91) [.slice A41 (impl_KeepSet_m (laws_toAnnotatedS_m x0) (laws_toIntS_m x1)).length c42] (impl_KeepSet_m (laws_toAnnotatedS_m x0) (laws_toIntS_m x1)), iOwn (tSl tyAnnotated 91) [.slice A26 (spec_KeepSet_m (laws_toAnnotatedS_m x0) (laws_toIntS_m x1)).length c27] (spec_KeepSet_m (laws_toAnnotatedS_m x0) (laws_toIntS_m x1))] W (.slice A36 (laws_toIntS_m x1).length c37) (laws_toIntS_m x1) ((laws_markAnnotatedS_m (laws_toAnnotatedS_m x0) 1).1) (hm.pick [3, 0, 1, 2, 4] (by decide))).mono (fun _ _ h => ⟨(), h.1, h.2⟩)) (Wd_none rfl) (by decide) (fun _ => ?_)
            refine wa ?_
            refine nt' ?_
            refine CM_seq ?_
            refine CM_seq ?_
            refine CM_items (fun W hm => (hm.pick [3, 4] (by decide))) ?_
            refine CM_region ?_
            refine wm ?_
            refine wv (fun W hm => rv_lss rfl rfl) ?_
            refine wm ?_
            by_cases h61 : ((laws_markIntS_m (laws_toIntS_m x1) ((laws_markAnnotatedS_m (laws_toAnnotatedS_m x0) 1).1)).1) < 0
            · have g62 : (decide (((laws_markIntS_m (laws_toIntS_m x1) ((laws_markAnnotatedS_m (laws_toAnnotatedS_m x0) 1).1)).1) < 0)) = true := decide_eq_true h61
              refine ws g62 ?_
              refine ws g62 ?_
              refine ws g62 ?_
              refine ws g62 ?_
              refine wv (fun W hm => rv_pickT rfl g62 rfl) ?_
              refine nt' ?_
              refine CM_condT rfl rfl ?_
              refine sr ?_
              refine wa ?_
              refine nt' ?_
              refine CM_ret ?_
              refine QM_then_ret ?_
              exact QM_ret1 rfl rfl (fun W hm => ⟨ret_b (show laws_FnExactKeepSet_m x0 x1 = false from by unfold laws_FnExactKeepSet_m; exact cond_f g12 (cond_f g14 (cond_t g46 (cond_t g53 (cond_t g60 (cond_t g62 (rfl))))))), hm.below⟩)
            · have g62 : (decide (((laws_markIntS_m (laws_toIntS_m x1) ((laws_markAnnotatedS_m (laws_toAnnotatedS_m x0) 1).1)).1) < 0)) = false := decide_eq_false h61
              refine wg (fun W hm => rv_move rfl) g62 ?_
              refine wg (fun W hm => rv_move rfl) g62 ?_
              refine WM_callV (cl_fn cb16 rfl) (fun W hm => laws_eqAnnotatedS_c W _ (impl_KeepSet_m (laws_toAnnotatedS_m x0) (laws_toIntS_m x1)) _ (spec_KeepSet_m (laws_toAnnotatedS_m x0) (laws_toIntS_m x1)) (hm.rdSI (n := 0) rfl) (hm.rdSI (n := 1) rfl)) (Wd_some rfl rfl rfl (bw g62 rfl)) (by decide) ?_
              refine wg (fun W hm => rv_not rfl) g62 ?_
              refine wv (fun W hm => rv_pickF rfl g62 rfl) ?_
              refine nt' ?_
              refine CM_condF rfl (nt g46) ?_
              refine CM_skip ?_
              refine QM_then ?_
              refine sr ?_
              refine wa ?_
              refine nt' ?_
              refine sr ?_
              refine wm ?_
              refine wm ?_
              refine WM_callW (χ := Unit) (val := fun _ => .int .i64 (laws_markAnnotatedS_m (impl_KeepSet_m (laws_toAnnotatedS_m x0) (laws_toIntS_m x1)) 1).1) (js := fun _ => (iOwn (tSl tyAnnotated 91) [.slice A41 (impl_KeepSet_m (laws_toAnnotatedS_m x0) (laws_toIntS_m x1)).length c42] (laws_markAnnotatedS_m (impl_KeepSet_m (laws_toAnnotatedS_m x0) (laws_toIntS_m x1)) 1).2 :: [iOwn (tSl tyAnnotated 91) [.slice A26 (spec_KeepSet_m (laws_toAnnotatedS_m x0) (laws_toIntS_m x1)).length c27] (spec_KeepSet_m (laws_toAnnotatedS_m x0) (laws_toIntS_m x1))])) (cl_fn cb17 rfl) (fun W hm => (laws_markAnnotatedS_c w.heap.size w [iOwn (tSl tyAnnotated 91) [.slice A26 (spec_KeepSet_m (laws_toAnnotatedS_m x0) (laws_toIntS_m x1)).length c27] (spec_KeepSet_m (laws_toAnnotatedS_m x0) (laws_toIntS_m x1))] W (.slice A41 (impl_KeepSet_m (laws_toAnnotatedS_m x0) (laws_toIntS_m x1)).length c42) (impl_KeepSet_m (laws_toAnnotatedS_m x0) (laws_toIntS_m x1)) 1 hm).mono (fun _ _ h => ⟨(), h.1, h.2⟩)) (Wd_none rfl) (by decide) (fun _ => ?_)
              refine wa ?_
              refine nt' ?_
              refine sr ?_
              refine wa ?_
              refine nt' ?_
              refine sr ?_
              refine wm ?_
              refine wm ?_
              refine WM_callV (cl_fn cb25 rfl) (fun W hm => laws_heldAnnotatedS_c W _ ((laws_markAnnotatedS_m (impl_KeepSet_m (laws_toAnnotatedS_m x0) (laws_toIntS_m x1)) 1).2) 1 (hm.rdSI (n := 0) rfl)) (Wd_none rfl) (by decide) ?_
              refine wa ?_
              refine nt' ?_
              refine CM_seq ?_
              refine sr ?_
              refine wm ?_
              refine wv (fun W hm => rv_lss rfl rfl) ?_
              refine nt' ?_
              by_cases h63 : (laws_heldAnnotatedS_m ((laws_markAnnotatedS_m (impl_KeepSet_m (laws_toAnnotatedS_m x0) (laws_toIntS_m x1)) 1).2) 1) < 0
              · have g64 : (decide ((laws_heldAnnotatedS_m ((laws_markAnnotatedS_m (impl_KeepSet_m (laws_toAnnotatedS_m x0) (laws_toIntS_m x1)) 1).2) 1) < 0)) = true := decide_eq_true h63
                refine CM_condT rfl g64 ?_
                refine sr ?_
                refine wa ?_
                refine nt' ?_
                refine CM_ret ?_
                refine QM_then_ret ?_
                exact QM_ret1 rfl rfl (fun W hm => ⟨ret_b (show laws_FnExactKeepSet_m x0 x1 = false from by unfold laws_FnExactKeepSet_m; exact cond_f g12 (cond_f g14 (cond_t g46 (cond_t g53 (cond_t g60 (cond_f g62 (cond_t g64 (rfl)))))))), hm.below⟩)
              · have g64 : (decide ((laws_heldAnnotatedS_m ((laws_markAnnotatedS_m (impl_KeepSet_m (laws_toAnnotatedS_m x0) (laws_toIntS_m x1)) 1).2) 1) < 0)) = false := decide_eq_false h63
                refine CM_condF rfl g64 ?_
                refine CM_skip ?_
                refine QM_then ?_
                refine CM_seq ?_
                refine sr ?_
                refine wm ?_
                refine wm ?_
                refine wv (fun W hm => rv_neq rfl rfl) ?_
                refine nt' ?_
                by_cases h65 : (laws_heldAnnotatedS_m ((laws_markAnnotatedS_m (impl_KeepSet_m (laws_toAnnotatedS_m x0) (laws_toIntS_m x1)) 1).2) 1) = ((laws_markAnnotatedS_m (impl_KeepSet_m (laws_toAnnotatedS_m x0) (laws_toIntS_m x1)) 1).1)
                · have g66 : ((laws_heldAnnotatedS_m ((laws_markAnnotatedS_m (impl_KeepSet_m (laws_toAnnotatedS_m x0) (laws_toIntS_m x1)) 1).2) 1) != ((laws_markAnnotatedS_m (impl_KeepSet_m (laws_toAnnotatedS_m x0) (laws_toIntS_m x1)) 1).1)) = false := by rw [h65]; exact bne_self_eq_false _
                  refine CM_condF rfl g66 ?_
                  refine CM_skip ?_
                  refine QM_then ?_
                  refine sr ?_
                  refine wm ?_
                  refine WM_call (χ := Value) (val := fun x => x) (js := fun x => [iOwn (tSl tyAnnotated 91) [x] (laws_toAnnotatedS_m x0)]) (cl_fn cb13 rfl) (fun W hm => laws_toAnnotatedS_c W _ x0 (hm.rdS0 r5) (sm_wtS (by omega) fun y h => (smAnnotated_wt (h)))) (Wd_none rfl) (by decide) (fun z67 => ?_)
                  refine WM_form (n := 0) rfl ?_
                  rintro A68 c69 rfl m70
                  refine wm ?_
                  refine WM_call (χ := Value) (val := fun x => x) (js := fun x => [iOwn (tSl tInt 3) [x] (laws_toIntS_m x1)]) (cl_fn cb21 rfl) (fun W hm => laws_toIntS_c W _ x1 (hm.rdS0 r10) (by omega)) (Wd_none rfl) (by decide) (fun z72 => ?_)
                  refine WM_form (n := 0) rfl ?_
                  rintro A73 c74 rfl m75
                  refine WM_call (χ := Value) (val := fun x => x) (js := fun x => [iOwn (tSl tyAnnotated 91) [x] (impl_KeepSet_m (laws_toAnnotatedS_m x0) (laws_toIntS_m x1))]) (cl_fn cb22 rfl) (fun W hm => impl_KeepSet_c W _ (laws_toAnnotatedS_m x0) _ (laws_toIntS_m x1) (hm.rdSI (n := 1) rfl) (hm.rdSI (n := 0) rfl) (by rw [laws_toAnnotatedS_eq]; exact (sm_wtS (by omega) fun y h => (smAnnotated_wt (h)))) (by rw [laws_toIntS_eq]; exact (by omega))) (Wd_none rfl) (by decide) (fun z77 => ?_)
                  refine WM_form (n := 0) rfl ?_
                  rintro A78 c79 rfl m80
                  refine wa ?_
                  refine nt' ?_
                  refine CM_seq ?_
                  refine sr ?_
                  refine wm ?_
                  refine wm ?_
                  refine WM_callV (cl_fn cb16 rfl) (fun W hm => laws_eqAnnotatedS_c W _ (impl_KeepSet_m (laws_toAnnotatedS_m x0) (laws_toIntS_m x1)) _ (spec_KeepSet_m (laws_toAnnotatedS_m x0) (laws_toIntS_m x1)) (hm.rdSI (n := 0) rfl) (hm.rdSI (n := 4) rfl)) (Wd_none rfl) (by decide) ?_
                  refine wv (fun W hm => rv_not rfl) ?_
                  refine nt' ?_
                  refine CM_condF rfl (nt g46) ?_
                  refine CM_skip ?_
                  refine QM_then ?_
                  refine CM_seq ?_
                  refine CM_items (fun W hm => (hm.pick [3] (by decide))) ?_
                  refine CM_region ?_
                  refine wa ?_
                  refine nt' ?_
                  refine sr ?_
                  refine wm ?_
                  refine wm ?_
                  refine WM_callV (cl_fn cb25 rfl) (fun W hm => laws_heldAnnotatedS_c W _ ((laws_markAnnotatedS_m (impl_KeepSet_m (laws_toAnnotatedS_m x0) (laws_toIntS_m x1)) 1).2) 1 (hm.rdSI (n := 0) rfl)) (Wd_none rfl) (by decide) ?_
                  refine wa ?_
                  refine nt' ?_
                  refine CM_seq ?_
                  refine sr ?_
                  refine wm ?_
                  refine wv (fun W hm => rv_lss rfl rfl) ?_
                  refine nt' ?_
                  refine CM_condF rfl g64 ?_
                  refine CM_skip ?_
                  refine QM_then ?_
                  refine CM_seq ?_
                  refine sr ?_
                  refine wm ?_
                  refine wm ?_
                  refine wv (fun W hm => rv_neq rfl rfl) ?_
                  refine nt' ?_
                  refine CM_condF rfl g66 ?_
                  refine CM_skip ?_
                  refine QM_then ?_
                  refine sr ?_
                  refine wa ?_
                  refine nt' ?_
                  refine CM_ret ?_
                  exact QM_ret1 rfl rfl (fun W hm => ⟨ret_b (show laws_FnExactKeepSet_m x0 x1 = true from by unfold laws_FnExactKeepSet_m; exact cond_f g12 (cond_f g14 (cond_t g46 (cond_t g53 (cond_t g60 (cond_f g62 (cond_f g64 (cond_f g66 (rfl))))))))), hm.below⟩)
                · have g66 : ((laws_heldAnnotatedS_m ((laws_markAnnotatedS_m (impl_KeepSet_m (laws_toAnnotatedS_m x0) (laws_toIntS_m x1)) 1).2) 1) != ((laws_markAnnotatedS_m (impl_KeepSet_m (laws_toAnnotatedS_m x0) (laws_toIntS_m x1)) 1).1)) = true := bne_iff_ne.2 h65
                  refine CM_condT rfl g66 ?_
                  refine sr ?_
                  refine wa ?_
                  refine nt' ?_
                  refine CM_ret ?_
                  refine QM_then_ret ?_
                  exact QM_ret1 rfl rfl (fun W hm => ⟨ret_b (show laws_FnExactKeepSet_m x0 x1 = false from by unfold laws_FnExactKeepSet_m; exact cond_f g12 (cond_f g14 (cond_t g46 (cond_t g53 (cond_t g60 (cond_f g62 (cond_f g64 (cond_t g66 (rfl))))))))), hm.below⟩)
          ·
            refine CM_condT rfl (nf g60) ?_
            refine CM_seq ?_
            refine CM_items (fun W hm => (hm.pick [] (by decide))) ?_
            refine CM_region ?_
            refine wa ?_
            refine nt' ?_
            refine CM_ret ?_
            refine QM_then_ret ?_
            exact QM_ret1 rfl rfl (fun W hm => ⟨ret_b (show laws_FnExactKeepSet_m x0 x1 = false from by unfold laws_FnExactKeepSet_m; exact cond_f g12 (cond_f g14 (cond_t g46 (cond_t g53 (cond_f g60 (rfl)))))), hm.below⟩)
        ·
          refine CM_condT rfl (nf g53) ?_
          refine CM_seq ?_
          refine CM_items (fun W hm => (hm.pick [] (by decide))) ?_
          refine CM_region ?_
          refine wa ?_
          refine nt' ?_
          refine CM_ret ?_
          refine QM_then_ret ?_
          exact QM_ret1 rfl rfl (fun W hm => ⟨ret_b (show laws_FnExactKeepSet_m x0 x1 = false from by unfold laws_FnExactKeepSet_m; exact cond_f g12 (cond_f g14 (cond_t g46 (cond_f g53 (rfl))))), hm.below⟩)
      ·
        refine CM_condT rfl (nf g46) ?_
        refine CM_seq ?_
        refine CM_items (fun W hm => (hm.pick [] (by decide))) ?_
        refine CM_region ?_
        refine wa ?_
        refine nt' ?_
        refine CM_ret ?_
        refine QM_then_ret ?_
        exact QM_ret1 rfl rfl (fun W hm => ⟨ret_b (show laws_FnExactKeepSet_m x0 x1 = false from by unfold laws_FnExactKeepSet_m; exact cond_f g12 (cond_f g14 (cond_f g46 (rfl)))), hm.below⟩)

end Go.Proofs.Ytjcdginailhfmaa
