/-
  The contract of the law.
-/
import Derived.Test.YtjcdginailhfmaaL9Pl
namespace Go.Proofs.Ytjcdginailhfmaa
open Go.RowKit
def laws_FnExactApplyUpdates_m (x0 : DStore) (x1 : (List DUpdate)) : Bool :=
  cond (decide ((laws_szStore_m x0 1048576) < 0)) true (cond (decide ((laws_szUpdateS_m x1 (laws_szStore_m x0 1048576)) < 0)) true (cond (laws_eqStore_m ((impl_ApplyUpdates_m (laws_toStore_m x0) (laws_toUpdateS_m x1)).1) ((spec_ApplyUpdates_m (laws_toStore_m x0) (laws_toUpdateS_m x1)).1)) (cond (((impl_ApplyUpdates_m (laws_toStore_m x0) (laws_toUpdateS_m x1)).2) != ((spec_ApplyUpdates_m (laws_toStore_m x0) (laws_toUpdateS_m x1)).2)) false (cond (laws_eqStore_m (laws_toStore_m x0) (laws_toStore_m x0)) (cond (laws_eqUpdateS_m (laws_toUpdateS_m x1) (laws_toUpdateS_m x1)) (cond (decide (((laws_markUpdateS_m (laws_toUpdateS_m x1) ((laws_markStore_m (laws_toStore_m x0) 1).1)).1) < 0)) false (cond (decide ((laws_heldStore_m (⟨(laws_markStore_m ((impl_ApplyUpdates_m (laws_toStore_m x0) (laws_toUpdateS_m x1)).1) 1).2.Segments, ((impl_ApplyUpdates_m (laws_toStore_m x0) (laws_toUpdateS_m x1)).1).Now⟩ : DStore) 1) < 0)) false (cond ((laws_heldStore_m (⟨(laws_markStore_m ((impl_ApplyUpdates_m (laws_toStore_m x0) (laws_toUpdateS_m x1)).1) 1).2.Segments, ((impl_ApplyUpdates_m (laws_toStore_m x0) (laws_toUpdateS_m x1)).1).Now⟩ : DStore) 1) != ((laws_markStore_m ((impl_ApplyUpdates_m (laws_toStore_m x0) (laws_toUpdateS_m x1)).1) 1).1)) false true))) false) false)) false))
set_option maxRecDepth 100000 in
theorem cb9 : Cb Try.prog 9 := ⟨Try.f9, _, Try.func9, rfl, by decide⟩
set_option maxRecDepth 10000 in
set_option maxHeartbeats 4000000 in
theorem laws_FnExactApplyUpdates_c (w : World) (z0 : List Value) (x0 : DStore) (z1 : Value) (x1 : (List DUpdate)) (r_0 : tyLStore.rd w w.heap.size z0 x0) (r_1 : rdS tyLUpdate w w.heap.size z1 x1) :
    Calls Try.prog 9 #[.agg z0.toArray, z1] w fun e w' => e = .returned (.bool (laws_FnExactApplyUpdates_m x0 x1)) ∧ Below w.heap.size w w' := by
  have ok0 := (tyLStore_sm r_0)
  have ok1 := (rdS_sm r_1 fun _ _ h => (tyLUpdate_sm h))
  obtain ⟨v1, rfl, r2⟩ := tyLStore_rd r_0
  have r7 := r2
  obtain ⟨m3, A4, c5, rfl, q6⟩ := r2
  have r12 := r_1
  obtain ⟨m8, A9, c10, rfl, q11⟩ := r_1
  refine call_enterM (L := [(0, .agg #[.slice A4 x0.Segments.length c5, .int .i64 x0.Now]), (1, .slice A9 x1.length c10)]) (N := 119) Try.func9 rfl rfl (Nat.le_of_ble_eq_true rfl) (argsL_cons rfl (argsL_cons rfl argsL_nil)) ?_
  refine sr ?_
  refine WM_box rfl (Wd_none rfl) (by decide) (fun p13 => ?_)
  refine wa ?_
  refine nt' ?_
  refine sr ?_
  refine wa ?_
  refine nt' ?_
  refine sr ?_
  refine wv (fun W hm => rv_loadN (cs := [.slice A4 x0.Segments.length c5, .int .i64 x0.Now]) Try.underlying41 Try.type41 rfl rfl (hm.boxCells (n := 0) rfl)) ?_
  refine wm ?_
  refine WM_callV (cl_fn cb26 rfl) (fun W hm => laws_szStore_c W _ x0 1048576 (tyLStore_mk (x := x0) (hm.rdS0 r7))) (Wd_none rfl) (by decide) ?_
  refine wa ?_
  refine nt' ?_
  refine CM_seq ?_
  refine sr ?_
  refine wm ?_
  refine wv (fun W hm => rv_lss rfl rfl) ?_
  refine nt' ?_
  by_cases h14 : (laws_szStore_m x0 1048576) < 0
  · have g15 : (decide ((laws_szStore_m x0 1048576) < 0)) = true := decide_eq_true h14
    refine CM_condT rfl g15 ?_
    refine sr ?_
    refine wa ?_
    refine nt' ?_
    refine CM_ret ?_
    refine QM_then_ret ?_
    exact QM_ret1 rfl rfl (fun W hm => ⟨ret_b (show laws_FnExactApplyUpdates_m x0 x1 = true from by unfold laws_FnExactApplyUpdates_m; exact cond_t g15 (rfl)), hm.below⟩)
  · have g15 : (decide ((laws_szStore_m x0 1048576) < 0)) = false := decide_eq_false h14
    obtain ⟨hz0, hy0, hw0⟩ := sz_small laws_szStore_ok ok0 (by omega) (by omega) g15
    refine CM_condF rfl g15 ?_
    refine CM_skip ?_
    refine QM_then ?_
    refine sr ?_
    refine wm ?_
    refine wm ?_
    refine WM_callV (cl_fn cb48 rfl) (fun W hm => laws_szUpdateS_c W _ x1 (laws_szStore_m x0 1048576) (hm.rdS0 r12)) (Wd_none rfl) (by decide) ?_
    refine wa ?_
    refine nt' ?_
    refine CM_seq ?_
    refine sr ?_
    refine wm ?_
    refine wv (fun W hm => rv_lss rfl rfl) ?_
    refine nt' ?_
    by_cases h16 : (laws_szUpdateS_m x1 (laws_szStore_m x0 1048576)) < 0
    · have g17 : (decide ((laws_szUpdateS_m x1 (laws_szStore_m x0 1048576)) < 0)) = true := decide_eq_true h16
      refine CM_condT rfl g17 ?_
      refine sr ?_
      refine wa ?_
      refine nt' ?_
      refine CM_ret ?_
      refine QM_then_ret ?_
      exact QM_ret1 rfl rfl (fun W hm => ⟨ret_b (show laws_FnExactApplyUpdates_m x0 x1 = true from by unfold laws_FnExactApplyUpdates_m; exact cond_f g15 (cond_t g17 (rfl))), hm.below⟩)
    · have g17 : (decide ((laws_szUpdateS_m x1 (laws_szStore_m x0 1048576)) < 0)) = false := decide_eq_false h16
      obtain ⟨hz1, hy1, hw1⟩ := sz_small laws_szUpdateS_ok ok1 (by omega) (by omega) g17
      refine CM_condF rfl g17 ?_
      refine CM_skip ?_
      refine QM_then ?_
      refine sr ?_
      refine wv (fun W hm => rv_loadN (cs := [.slice A4 x0.Segments.length c5, .int .i64 x0.Now]) Try.underlying41 Try.type41 rfl rfl (hm.boxCells (n := 0) rfl)) ?_
      refine WM_call (χ := List Value) (val := fun x => .agg x.toArray) (js := fun x => [iOwn tyStore x (laws_toStore_m x0)]) (cl_fn cb28 rfl) (fun W hm => laws_toStore_c W _ x0 (tyLStore_mk (x := x0) (hm.rdS0 r7)) (smStore_wt (by omega))) (Wd_none rfl) (by decide) (fun z18 => ?_)
      refine WM_split (γ := Value) (js := fun g => [iOwn (tSl (tSl tyVersion 102) 100) [g] ((laws_toStore_m x0).Segments)]) (C := fun g => z18 = [g, .int .i64 ((laws_toStore_m x0).Now)]) (fun _ _ h => tyStore_split h) ?_
      rintro v19 rfl
      refine WM_form (n := 0) rfl ?_
      rintro A20 c21 rfl m22
      refine wm ?_
      refine WM_call (χ := Value) (val := fun x => x) (js := fun x => [iOwn (tSl tyUpdate 71) [x] (laws_toUpdateS_m x1)]) (cl_fn cb50 rfl) (fun W hm => laws_toUpdateS_c W _ x1 (hm.rdS0 r12) (sm_wtS (by omega) fun y h => (smUpdate_wt (h)))) (Wd_none rfl) (by decide) (fun z24 => ?_)
      refine WM_form (n := 0) rfl ?_
      rintro A25 c26 rfl m27
      refine WM_call (χ := List Value) (val := fun x => .tuple #[.agg x.toArray, .int .i64 ((spec_ApplyUpdates_m (laws_toStore_m x0) (laws_toUpdateS_m x1)).2)]) (js := fun x => [iOwn tyStore x ((spec_ApplyUpdates_m (laws_toStore_m x0) (laws_toUpdateS_m x1)).1)]) (cl_fn cb49 rfl) (fun W hm => spec_ApplyUpdates_c W _ (laws_toStore_m x0) _ (laws_toUpdateS_m x1) (tyStore_mk (x := (laws_toStore_m x0)) (hm.rdSI (n := 1) rfl)) (hm.rdSI (n := 0) rfl) (by rw [laws_toStore_eq]; exact (smStore_wt (by omega))) (by rw [laws_toUpdateS_eq]; exact (sm_wtS (by omega) fun y h => (smUpdate_wt (h))))) (Wd_none rfl) (by decide) (fun z29 => ?_)
      refine WM_split (γ := Value) (js := fun g => [iOwn (tSl (tSl tyVersion 102) 100) [g] (((spec_ApplyUpdates_m (laws_toStore_m x0) (laws_toUpdateS_m x1)).1).Segments)]) (C := fun g => z29 = [g, .int .i64 (((spec_ApplyUpdates_m (laws_toStore_m x0) (laws_toUpdateS_m x1)).1).Now)]) (fun _ _ h => tyStore_split h) ?_
      rintro v30 rfl
      refine WM_form (n := 0) rfl ?_
      rintro A31 c32 rfl m33
      refine wm ?_
      refine wv (fun W hm => rv_extract rfl rfl) ?_
      refine wv (fun W hm => rv_extract rfl rfl) ?_
      refine WM_alloc Try.type45 rfl (Wd_none rfl) (by decide) (fun p35 => ?_)
      refine WM_storeBox (p := p35) (o := 0) (cs := [.slice none 0 0, .int .i64 0]) (cs' := [.slice A31 (((spec_ApplyUpdates_m (laws_toStore_m x0) (laws_toUpdateS_m x1)).1).Segments).length c32, .int .i64 (((spec_ApplyUpdates_m (laws_toStore_m x0) (laws_toUpdateS_m x1)).1).Now)]) (js := [iOwn (tSl (tSl tyVersion 102) 100) [.slice A31 (((spec_ApplyUpdates_m (laws_toStore_m x0) (laws_toUpdateS_m x1)).1).Segments).length c32] (((spec_ApplyUpdates_m (laws_toStore_m x0) (laws_toUpdateS_m x1)).1).Segments), iOwn (tSl tyUpdate 71) [.slice A25 (laws_toUpdateS_m x1).length c26] (laws_toUpdateS_m x1), iOwn (tSl (tSl tyVersion 102) 100) [.slice A20 ((laws_toStore_m x0).Segments).length c21] ((laws_toStore_m x0).Segments), iBox p13 41 [.slice A4 x0.Segments.length c5, .int .i64 x0.Now]]) (fun W hm => hm) Try.type45 rfl (Nat.le_of_ble_eq_true rfl) rfl rfl rfl rfl (Wd_none rfl) ?_
      refine wa ?_
      refine nt' ?_
      refine sr ?_
      refine wv (fun W hm => rv_loadN (cs := [.slice A4 x0.Segments.length c5, .int .i64 x0.Now]) Try.underlying41 Try.type41 rfl rfl (hm.boxCells (n := 4) rfl)) ?_
      refine WM_call (χ := List Value) (val := fun x => .agg x.toArray) (js := fun x => [iOwn tyStore x (laws_toStore_m x0)]) (cl_fn cb28 rfl) (fun W hm => laws_toStore_c W _ x0 (tyLStore_mk (x := x0) (hm.rdS0 r7)) (smStore_wt (by omega))) (Wd_none rfl) (by decide) (fun z36 => ?_)
      refine WM_split (γ := Value) (js := fun g => [iOwn (tSl (tSl tyVersion 102) 100) [g] ((laws_toStore_m x0).Segments)]) (C := fun g => z36 = [g, .int .i64 ((laws_toStore_m x0).Now)]) (fun _ _ h => tyStore_split h) ?_
      rintro v37 rfl
      refine WM_form (n := 0) rfl ?_
      rintro A38 c39 rfl m40
      refine WM_alloc Try.type45 rfl (Wd_none rfl) (by decide) (fun p42 => ?_)
      refine WM_storeBox (p := p42) (o := 0) (cs := [.slice none 0 0, .int .i64 0]) (cs' := [.slice A38 ((laws_toStore_m x0).Segments).length c39, .int .i64 ((laws_toStore_m x0).Now)]) (js := [iOwn (tSl (tSl tyVersion 102) 100) [.slice A38 ((laws_toStore_m x0).Segments).length c39] ((laws_toStore_m x0).Segments), iBox p35 45 [.slice A31 (((spec_ApplyUpdates_m (laws_toStore_m x0) (laws_toUpdateS_m x1)).1).Segments).length c32, .int .i64 (((spec_ApplyUpdates_m (laws_toStore_m x0) (laws_toUpdateS_m x1)).1).Now)], iOwn (tSl (tSl tyVersion 102) 100) [.slice A31 (((spec_ApplyUpdates_m (laws_toStore_m x0) (laws_toUpdateS_m x1)).1).Segments).length c32] (((spec_ApplyUpdates_m (laws_toStore_m x0) (laws_toUpdateS_m x1)).1).Segments), iOwn (tSl tyUpdate 71) [.slice A25 (laws_toUpdateS_m x1).length c26] (laws_toUpdateS_m x1), iOwn (tSl (tSl tyVersion 102) 100) [.slice A20 ((laws_toStore_m x0).Segments).length c21] ((laws_toStore_m x0).Segments), iBox p13 41 [.slice A4 x0.Segments.length c5, .int .i64 x0.Now]]) (fun W hm => hm) Try.type45 rfl (Nat.le_of_ble_eq_true rfl) rfl rfl rfl rfl (Wd_none rfl) ?_
      refine nt' ?_
      refine sr ?_
      refine wm ?_
      refine WM_call (χ := Value) (val := fun x => x) (js := fun x => [iOwn (tSl tyUpdate 71) [x] (laws_toUpdateS_m x1)]) (cl_fn cb50 rfl) (fun W hm => laws_toUpdateS_c W _ x1 (hm.rdS0 r12) (sm_wtS (by omega) fun y h => (smUpdate_wt (h)))) (Wd_none rfl) (by decide) (fun z43 => ?_)
      refine WM_form (n := 0) rfl ?_
      rintro A44 c45 rfl m46
      refine wa ?_
      refine nt' ?_
      refine sr ?_
      refine wv (fun W hm => rv_loadN (cs := [.slice A38 ((laws_toStore_m x0).Segments).length c39, .int .i64 ((laws_toStore_m x0).Now)]) Try.underlying45 Try.type45 rfl rfl (hm.boxCells (n := 1) rfl)) ?_
      refine wm ?_
      refine WM_call (χ := List Value) (val := fun x => .tuple #[.agg x.toArray, .int .i64 ((impl_ApplyUpdates_m (laws_toStore_m x0) (laws_toUpdateS_m x1)).2)]) (js := fun x => [iOwn tyStore x ((impl_ApplyUpdates_m (laws_toStore_m x0) (laws_toUpdateS_m x1)).1)]) (cl_fn cb51 rfl) (fun W hm => impl_ApplyUpdates_c W _ (laws_toStore_m x0) _ (laws_toUpdateS_m x1) (tyStore_mk (x := (laws_toStore_m x0)) (hm.rdSI (n := 2) rfl)) (hm.rdSI (n := 0) rfl) (by rw [laws_toStore_eq]; exact (smStore_wt (by omega))) (by rw [laws_toUpdateS_eq]; exact (sm_wtS (by omega) fun y h => (smUpdate_wt (h))))) (Wd_none rfl) (by decide) (fun z48 => ?_)
      refine WM_split (γ := Value) (js := fun g => [iOwn (tSl (tSl tyVersion 102) 100) [g] (((impl_ApplyUpdates_m (laws_toStore_m x0) (laws_toUpdateS_m x1)).1).Segments)]) (C := fun g => z48 = [g, .int .i64 (((impl_ApplyUpdates_m (laws_toStore_m x0) (laws_toUpdateS_m x1)).1).Now)]) (fun _ _ h => tyStore_split h) ?_
      rintro v49 rfl
      refine WM_form (n := 0) rfl ?_
      rintro A50 c51 rfl m52
      refine wm ?_
      refine wv (fun W hm => rv_extract rfl rfl) ?_
      refine wv (fun W hm => rv_extract rfl rfl) ?_
      refine WM_alloc Try.type45 rfl (Wd_none rfl) (by decide) (fun p54 => ?_)
      refine WM_storeBox (p := p54) (o := 0) (cs := [.slice none 0 0, .int .i64 0]) (cs' := [.slice A50 (((impl_ApplyUpdates_m (laws_toStore_m x0) (laws_toUpdateS_m x1)).1).Segments).length c51, .int .i64 (((impl_ApplyUpdates_m (laws_toStore_m x0) (laws_toUpdateS_m x1)).1).Now)]) (js := [iOwn (tSl (tSl tyVersion 102) 100) [.slice A50 (((impl_ApplyUpdates_m (laws_toStore_m x0) (laws_toUpdateS_m x1)).1).Segments).length c51] (((impl_ApplyUpdates_m (laws_toStore_m x0) (laws_toUpdateS_m x1)).1).Segments), iOwn (tSl tyUpdate 71) [.slice A44 (laws_toUpdateS_m x1).length c45] (laws_toUpdateS_m x1), iBox p42 45 [.slice A38 ((laws_toStore_m x0).Segments).length c39, .int .i64 ((laws_toStore_m x0).Now)], iOwn (tSl (tSl tyVersion 102) 100) [.slice A38 ((laws_toStore_m x0).Segments).length c39] ((laws_toStore_m x0).Segments), iBox p35 45 [.slice A31 (((spec_ApplyUpdates_m (laws_toStore_m x0) (laws_toUpdateS_m x1)).1).Segments).length c32, .int .i64 (((spec_ApplyUpdates_m (laws_toStore_m x0) (laws_toUpdateS_m x1)).1).Now)], iOwn (tSl (tSl tyVersion 102) 100) [.slice A31 (((spec_ApplyUpdates_m (laws_toStore_m x0) (laws_toUpdateS_m x1)).1).Segments).length c32] (((spec_ApplyUpdates_m (laws_toStore_m x0) (laws_toUpdateS_m x1)).1).Segments), iOwn (tSl tyUpdate 71) [.slice A25 (laws_toUpdateS_m x1).length c26] (laws_toUpdateS_m x1), iOwn (tSl (tSl tyVersion 102) 100) [.slice A20 ((laws_toStore_m x0).Segments).length c21] ((laws_toStore_m x0).Segments), iBox p13 41 [.slice A4 x0.Segments.length c5, .int .i64 x0.Now]]) (fun W hm => hm) Try.type45 rfl (Nat.le_of_ble_eq_true rfl) rfl rfl rfl rfl (Wd_none rfl) ?_
      refine wa ?_
      refine nt' ?_
      refine CM_seq ?_
      refine sr ?_
      refine wv (fun W hm => rv_loadN (cs := [.slice A50 (((impl_ApplyUpdates_m (laws_toStore_m x0) (laws_toUpdateS_m x1)).1).Segments).length c51, .int .i64 (((impl_ApplyUpdates_m (laws_toStore_m x0) (laws_toUpdateS_m x1)).1).Now)]) Try.underlying45 Try.type45 rfl rfl (hm.boxCells (n := 0) rfl)) ?_
      refine wv (fun W hm => rv_loadN (cs := [.slice A31 (((spec_ApplyUpdates_m (laws_toStore_m x0) (laws_toUpdateS_m x1)).1).Segments).length c32, .int .i64 (((spec_ApplyUpdates_m (laws_toStore_m x0) (laws_toUpdateS_m x1)).1).Now)]) Try.underlying45 Try.type45 rfl rfl (hm.boxCells (n := 5) rfl)) ?_
      refine WM_callV (cl_fn cb30 rfl) (fun W hm => laws_eqStore_c W _ ((impl_ApplyUpdates_m (laws_toStore_m x0) (laws_toUpdateS_m x1)).1) _ ((spec_ApplyUpdates_m (laws_toStore_m x0) (laws_toUpdateS_m x1)).1) (tyStore_mk (x := ((impl_ApplyUpdates_m (laws_toStore_m x0) (laws_toUpdateS_m x1)).1)) (hm.rdSI (n := 1) rfl)) (tyStore_mk (x := ((spec_ApplyUpdates_m (laws_toStore_m x0) (laws_toUpdateS_m x1)).1)) (hm.rdSI (n := 6) rfl))) (Wd_none rfl) (by decide) ?_
      refine wv (fun W hm => rv_not rfl) ?_
      refine wm ?_
      rcases Bool.eq_false_or_eq_true (laws_eqStore_m ((impl_ApplyUpdates_m (laws_toStore_m x0) (laws_toUpdateS_m x1)).1) ((spec_ApplyUpdates_m (laws_toStore_m x0) (laws_toUpdateS_m x1)).1)) with g56 | g56
      ·
        refine wg (fun W hm => rv_move rfl) (nt g56) ?_
        refine wg (fun W hm => rv_move rfl) (nt g56) ?_
        refine wg (fun W hm => rv_neq rfl rfl) (nt g56) ?_
        refine wv (fun W hm => rv_pickF rfl (nt g56) rfl) ?_
        refine nt' ?_
        by_cases h57 : ((impl_ApplyUpdates_m (laws_toStore_m x0) (laws_toUpdateS_m x1)).2) = ((spec_ApplyUpdates_m (laws_toStore_m x0) (laws_toUpdateS_m x1)).2)
        · have g58 : (((impl_ApplyUpdates_m (laws_toStore_m x0) (laws_toUpdateS_m x1)).2) != ((spec_ApplyUpdates_m (laws_toStore_m x0) (laws_toUpdateS_m x1)).2)) = false := by rw [h57]; exact bne_self_eq_false _
          refine CM_condF rfl g58 ?_
          refine CM_skip ?_
          refine QM_then ?_
          refine CM_seq ?_
          refine CM_seq ?_
          refine CM_regionB (n := 5) (listed := #[false, false, false, false, false]) (s := [iBox p54 45 [.slice A50 (((impl_ApplyUpdates_m (laws_toStore_m x0) (laws_toUpdateS_m x1)).1).Segments).length c51, .int .i64 (((impl_ApplyUpdates_m (laws_toStore_m x0) (laws_toUpdateS_m x1)).1).Now)], iOwn (tSl (tSl tyVersion 102) 100) [.slice A50 (((impl_ApplyUpdates_m (laws_toStore_m x0) (laws_toUpdateS_m x1)).1).Segments).length c51] (((impl_ApplyUpdates_m (laws_toStore_m x0) (laws_toUpdateS_m x1)).1).Segments), iOwn (tSl tyUpdate 71) [.slice A44 (laws_toUpdateS_m x1).length c45] (laws_toUpdateS_m x1), iBox p42 45 [.slice A38 ((laws_toStore_m x0).Segments).length c39, .int .i64 ((laws_toStore_m x0).Now)], iOwn (tSl (tSl tyVersion 102) 100) [.slice A38 ((laws_toStore_m x0).Segments).length c39] ((laws_toStore_m x0).Segments), iBox p35 45 [.slice A31 (((spec_ApplyUpdates_m (laws_toStore_m x0) (laws_toUpdateS_m x1)).1).Segments).length c32, .int .i64 (((spec_ApplyUpdates_m (laws_toStore_m x0) (laws_toUpdateS_m x1)).1).Now)], iOwn (tSl (tSl tyVersion 102) 100) [.slice A31 (((spec_ApplyUpdates_m (laws_toStore_m x0) (laws_toUpdateS_m x1)).1).Segments).length c32] (((spec_ApplyUpdates_m (laws_toStore_m x0) (laws_toUpdateS_m x1)).1).Segments), iOwn (tSl tyUpdate 71) [.slice A25 (laws_toUpdateS_m x1).length c26] (laws_toUpdateS_m x1), iOwn (tSl (tSl tyVersion 102) 100) [.slice A20 ((laws_toStore_m x0).Segments).length c21] ((laws_toStore_m x0).Segments), iBox p13 41 [.slice A4 x0.Segments.length c5, .int .i64 x0.Now]]) (by kernel_rfl) rfl (by kernel_rfl) (fun W hm => hm) ?_
          refine QB_take 0 (listed' := #[true, false, false, false, false]) (by kernel_rfl) rfl (by kernel_rfl) (by kernel_rfl) (by kernel_rfl) (fun _ _ _ h => h) (fun W hm => rv_loadN (cs := [.slice A38 ((laws_toStore_m x0).Segments).length c39, .int .i64 ((laws_toStore_m x0).Now)]) Try.underlying45 Try.type45 rfl rfl (hm.boxCells (n := 3) rfl)) (Wd_none rfl) rfl (by decide) ?_
          refine QB_take 1 (listed' := #[true, true, false, false, false]) (by kernel_rfl) rfl (by kernel_rfl) (by kernel_rfl) (by kernel_rfl) (fun _ _ _ h => h) (fun W hm => rv_loadN (cs := [.slice A4 x0.Segments.length c5, .int .i64 x0.Now]) Try.underlying41 Try.type41 rfl rfl (hm.boxCells (n := 9) rfl)) (Wd_none rfl) rfl (by decide) ?_
          refine QB_one 2 (listed' := #[true, true, true, false, false]) (by kernel_rfl) rfl (by kernel_rfl) ?_
          refine WM_call (χ := List Value) (val := fun x => .agg x.toArray) (js := fun x => [iOwn tyStore x (laws_toStore_m x0)]) (cl_fn cb28 rfl) (fun W hm => laws_toStore_c W _ x0 (tyLStore_mk (x := x0) (hm.rdS0 r7)) (smStore_wt (by omega))) (Wd_none rfl) (by decide) (fun z59 => ?_)
          refine WM_split (γ := Value) (js := fun g => [iOwn (tSl (tSl tyVersion 102) 100) [g] ((laws_toStore_m x0).Segments)]) (C := fun g => z59 = [g, .int .i64 ((laws_toStore_m x0).Now)]) (fun _ _ h => tyStore_split h) ?_
          rintro v60 rfl
          refine WM_form (n := 0) rfl ?_
          rintro A61 c62 rfl m63
          refine WM_nil ?_
          refine QB_next (fun W hm => (hm.pick [1, 2, 3, 4, 5, 6, 7, 8, 9, 10] (by decide))) ?_
          refine QB_one 3 (listed' := #[true, true, true, true, false]) (by kernel_rfl) rfl (by kernel_rfl) ?_
          refine WM_callV (cl_fn cb30 rfl) (fun W hm => laws_eqStore_c W _ (laws_toStore_m x0) _ (laws_toStore_m x0) (tyStore_mk (x := (laws_toStore_m x0)) (hm.rdSI (n := 5) rfl)) (tyStore_mk (x := (laws_toStore_m x0)) (hm.rdSI (n := 0) rfl))) (Wd_none rfl) (by decide) ?_
          refine WM_nil ?_
          refine QB_next (fun W hm => (hm.pick [1, 2, 3, 4, 5, 6, 7, 8, 9, 10] (by decide))) ?_
          refine QB_take 4 (listed' := #[true, true, true, true, true]) (by kernel_rfl) rfl (by kernel_rfl) (by kernel_rfl) (by kernel_rfl) (fun _ _ _ h => h) (fun W hm => rv_not rfl) (Wd_none rfl) rfl (by decide) ?_
          refine QB_done (by kernel_rfl) ?_
          refine QM_then ?_
          rcases Bool.eq_false_or_eq_true (laws_eqStore_m (laws_toStore_m x0) (laws_toStore_m x0)) with g66 | g66
          ·
            refine CM_condF rfl (nt g66) ?_
            refine CM_skip ?_
            refine QM_then ?_
            refine CM_seq ?_
            refine CM_seq ?_
            refine CM_items (fun W hm => (hm.pick [1, 2, 3, 4, 5, 6, 7, 10] (by decide))) ?_
            refine CM_region ?_
            refine wm ?_
            refine wm ?_
            refine WM_call (χ := Value) (val := fun x => x) (js := fun x => [iOwn (tSl tyUpdate 71) [x] (laws_toUpdateS_m x1)]) (cl_fn cb50 rfl) (fun W hm => laws_toUpdateS_c W _ x1 (hm.rdS0 r12) (sm_wtS (by omega) fun y h => (smUpdate_wt (h)))) (Wd_none rfl) (by decide) (fun z67 => ?_)
            refine WM_form (n := 0) rfl ?_
            rintro A68 c69 rfl m70
            refine WM_callV (cl_fn cb52 rfl) (fun W hm => laws_eqUpdateS_c W _ (laws_toUpdateS_m x1) _ (laws_toUpdateS_m x1) (hm.rdSI (n := 3) rfl) (hm.rdSI (n := 0) rfl)) (Wd_none rfl) (by decide) ?_
            refine wv (fun W hm => rv_not rfl) ?_
            refine nt' ?_
            rcases Bool.eq_false_or_eq_true (laws_eqUpdateS_m (laws_toUpdateS_m x1) (laws_toUpdateS_m x1)) with g73 | g73
            ·
              refine CM_condF rfl (nt g73) ?_
              refine CM_skip ?_
              refine QM_then ?_
              refine sr ?_
              refine wa ?_
              refine nt' ?_
              refine sr ?_
              refine wv (fun W hm => rv_loadN (cs := [.slice A38 ((laws_toStore_m x0).Segments).length c39, .int .i64 ((laws_toStore_m x0).Now)]) Try.underlying45 Try.type45 rfl rfl (hm.boxCells (n := 4) rfl)) ?_
              refine wm ?_
              refine WM_items (js := (iOwn tyStore [.slice A38 ((laws_toStore_m x0).Segments).length c39, .int .i64 ((laws_toStore_m x0).Now)] (laws_toStore_m x0) :: [iOwn (tSl tyUpdate 71) [.slice A68 (laws_toUpdateS_m x1).length c69] (laws_toUpdateS_m x1), iBox p54 45 [.slice A50 (((impl_ApplyUpdates_m (laws_toStore_m x0) (laws_toUpdateS_m x1)).1).Segments).length c51, .int .i64 (((impl_ApplyUpdates_m (laws_toStore_m x0) (laws_toUpdateS_m x1)).1).Now)], iOwn (tSl (tSl tyVersion 102) 100) [.slice A50 (((impl_ApplyUpdates_m (laws_toStore_m x0) (laws_toUpdateS_m x1)).1).Segments).length c51] (((impl_ApplyUpdates_m (laws_toStore_m x0) (laws_toUpdateS_m x1)).1).Segments), iOwn (tSl tyUpdate 71) [.slice A44 (laws_toUpdateS_m x1).length c45] (laws_toUpdateS_m x1), iBox p42 45 [.slice A38 ((laws_toStore_m x0).Segments).length c39, .int .i64 ((laws_toStore_m x0).Now)], iBox p35 45 [.slice A31 (((spec_ApplyUpdates_m (laws_toStore_m x0) (laws_toUpdateS_m x1)).1).Segments).length c32, .int .i64 (((spec_ApplyUpdates_m (laws_toStore_m x0) (laws_toUpdateS_m x1)).1).Now)], iOwn (tSl (tSl tyVersion 102) 100) [.slice A31 (((spec_ApplyUpdates_m (laws_toStore_m x0) (laws_toUpdateS_m x1)).1).Segments).length c32] (((spec_ApplyUpdates_m (laws_toStore_m x0) (laws_toUpdateS_m x1)).1).Segments), iBox p13 41 [.slice A4 x0.Segments.length c5, .int .i64 x0.Now]])) (fun W hm => Mem.join (is := [iOwn (tSl (tSl tyVersion 102) 100) [.slice A38 ((laws_toStore_m x0).Segments).length c39] ((laws_toStore_m x0).Segments)]) (js := [iOwn (tSl tyUpdate 71) [.slice A68 (laws_toUpdateS_m x1).length c69] (laws_toUpdateS_m x1), iBox p54 45 [.slice A50 (((impl_ApplyUpdates_m (laws_toStore_m x0) (laws_toUpdateS_m x1)).1).Segments).length c51, .int .i64 (((impl_ApplyUpdates_m (laws_toStore_m x0) (laws_toUpdateS_m x1)).1).Now)], iOwn (tSl (tSl tyVersion 102) 100) [.slice A50 (((impl_ApplyUpdates_m (laws_toStore_m x0) (laws_toUpdateS_m x1)).1).Segments).length c51] (((impl_ApplyUpdates_m (laws_toStore_m x0) (laws_toUpdateS_m x1)).1).Segments), iOwn (tSl tyUpdate 71) [.slice A44 (laws_toUpdateS_m x1).length c45] (laws_toUpdateS_m x1), iBox p42 45 [.slice A38 ((laws_toStore_m x0).Segments).length c39, .int .i64 ((laws_toStore_m x0).Now)], iBox p35 45 [.slice A31 (((spec_ApplyUpdates_m (laws_toStore_m x0) (laws_toUpdateS_m x1)).1).Segments).length c32, .int .i64 (((spec_ApplyUpdates_m (laws_toStore_m x0) (laws_toUpdateS_m x1)).1).Now)], iOwn (tSl (tSl tyVersion 102) 100) [.slice A31 (((spec_ApplyUpdates_m (laws_toStore_m x0) (laws_toUpdateS_m x1)).1).Segments).length c32] (((spec_ApplyUpdates_m (laws_toStore_m x0) (laws_toUpdateS_m x1)).1).Segments), iBox p13 41 [.slice A4 x0.Segments.length c5, .int .i64 x0.Now]]) (fun _ _ hs => tyStore_join (x := (laws_toStore_m x0)) hs) (hm.pick [5, 0, 1, 2, 3, 4, 6, 7, 8] (by decide))) ?_
              refine WM_callW (χ := Unit) (val := fun _ => .int .i64 (laws_markStore_m (laws_toStore_m x0) 1).1) (js := fun _ => (iOwn tyStore [.slice A38 ((laws_toStore_m x0).Segments).length c39, .int .i64 ((laws_toStore_m x0).Now)] (laws_markStore_m (laws_toStore_m x0) 1).2 :: [iOwn (tSl tyUpdate 71) [.slice A68 (laws_toUpdateS_m x1).length c69] (laws_toUpdateS_m x1), iBox p54 45 [.slice A50 (((impl_ApplyUpdates_m (laws_toStore_m x0) (laws_toUpdateS_m x1)).1).Segments).length c51, .int .i64 (((impl_ApplyUpdates_m (laws_toStore_m x0) (laws_toUpdateS_m x1)).1).Now)], iOwn (tSl (tSl tyVersion 102) 100) [.slice A50 (((impl_ApplyUpdates_m (laws_toStore_m x0) (laws_toUpdateS_m x1)).1).Segments).length c51] (((impl_ApplyUpdates_m (laws_toStore_m x0) (laws_toUpdateS_m x1)).1).Segments), iOwn (tSl tyUpdate 71) [.slice A44 (laws_toUpdateS_m x1).length c45] (laws_toUpdateS_m x1), iBox p42 45 [.slice A38 ((laws_toStore_m x0).Segments).length c39, .int .i64 ((laws_toStore_m x0).Now)], iBox p35 45 [.slice A31 (((spec_ApplyUpdates_m (laws_toStore_m x0) (laws_toUpdateS_m x1)).1).Segments).length c32, .int .i64 (((spec_ApplyUpdates_m (laws_toStore_m x0) (laws_toUpdateS_m x1)).1).Now)], iOwn (tSl (tSl tyVersion 102) 100) [.slice A31 (((spec_ApplyUpdates_m (laws_toStore_m x0) (laws_toUpdateS_m x1)).1).Segments).length c32] (((spec_ApplyUpdates_m (laws_toStore_m x0) (laws_toUpdateS_m x1)).1).Segments), iBox p13 41 [.slice A4 x0.Segments.length c5, .int .i64 x0.Now]])) (cl_fn cb31 rfl) (fun W hm => (laws_markStore_c w.heap.size w [iOwn (tSl tyUpdate 71) [.slice A68 (laws_toUpdateS_m x1).length c69] (laws_toUpdateS_m x1), iBox p54 45 [.slice A50 (((impl_ApplyUpdates_m (laws_toStore_m x0) (laws_toUpdateS_m x1)).1).Segments).length c51, .int .i64 (((impl_ApplyUpdates_m (laws_toStore_m x0) (laws_toUpdateS_m x1)).1).Now)], iOwn (tSl (tSl tyVersion 102) 100) [.slice A50 (((impl_ApplyUpdates_m (laws_toStore_m x0) (laws_toUpdateS_m x1)).1).Segments).length c51] (((impl_ApplyUpdates_m (laws_toStore_m x0) (laws_toUpdateS_m x1)).1).Segments), iOwn (tSl tyUpdate 71) [.slice A44 (laws_toUpdateS_m x1).length c45] (laws_toUpdateS_m x1), iBox p42 45 [.slice A38 ((laws_toStore_m x0).Segments).length c39, .int .i64 ((laws_toStore_m x0).Now)], iBox p35 45 [.slice A31 (((spec_ApplyUpdates_m (laws_toStore_m x0) (laws_toUpdateS_m x1)).1).Segments).length c32, .int .i64 (((spec_ApplyUpdates_m (laws_toStore_m x0) (laws_toUpdateS_m x1)).1).Now)], iOwn (tSl (tSl tyVersion 102) 100) [.slice A31 (((spec_ApplyUpdates_m (laws_toStore_m x0) (laws_toUpdateS_m x1)).1).Segments).length c32] (((spec_ApplyUpdates_m (laws_toStore_m x0) (laws_toUpdateS_m x1)).1).Segments), iBox p13 41 [.slice A4 x0.Segments.length c5, .int .i64 x0.Now]] W [.slice A38 ((laws_toStore_m x0).Segments).length c39, .int .i64 ((laws_toStore_m x0).Now)] (laws_toStore_m x0) 1 hm).mono (fun _ _ h => ⟨(), h.1, h.2⟩)) (Wd_none rfl) (by decide) (fun _ => ?_)
              refine WM_split (γ := Value) (js := fun g => [iOwn (tSl (tSl tyVersion 102) 100) [g] ((laws_markStore_m (laws_toStore_m x0) 1).2.Segments)]) (C := fun g => [.slice A38 ((laws_toStore_m x0).Segments).length c39, .int .i64 ((laws_toStore_m x0).Now)] = [g, .int .i64 ((laws_markStore_m (laws_toStore_m x0) 1).2.Now)]) (fun _ _ h => tyStore_split h) ?_
              rintro v75 h74
              simp only [List.cons.injEq] at h74
              obtain ⟨rfl, -, -⟩ := h74
              refine wa ?_
              refine nt' ?_
              refine CM_seq ?_
              refine CM_items (fun W hm => (hm.pick [2, 3, 4, 6, 7, 8] (by decide))) ?_
              refine CM_region ?_
              refine wm ?_
              refine wm ?_
              refine WM_callW (χ := Unit) (val := fun _ => .int .i64 (laws_markUpdateS_m (laws_toUpdateS_m x1) ((laws_markStore_m (laws_toStore_m x0) 1).1)).1) (js := fun _ => (iOwn (tSl tyUpdate 71) [.slice A44 (laws_toUpdateS_m x1).length c45] (laws_markUpdateS_m (laws_toUpdateS_m x1) ((laws_markStore_m (laws_toStore_m x0) 1).1)).2 :: [iBox p54 45 [.slice A50 (((impl_ApplyUpdates_m (laws_toStore_m x0) (laws_toUpdateS_m x1)).1).Segments).length c51, .int .i64 (((impl_ApplyUpdates_m (laws_toStore_m x0) (laws_toUpdateS_m x1)).1).Now)], iOwn (tSl (tSl tyVersion 102) 100) [.slice A50 (((impl_ApplyUpdates_m (laws_toStore_m x0) (laws_toUpdateS_m x1)).1).Segments).length c51] (((impl_ApplyUpdates_m (laws_toStore_m x0) (laws_toUpdateS_m x1)).1).Segments), iBox p35 45 [.slice A31 (((spec_ApplyUpdates_m (laws_toStore_m x0) (laws_toUpdateS_m x1)).1).Segments).length c32, .int .i64 (((spec_ApplyUpdates_m (laws_toStore_m x0) (laws_toUpdateS_m x1)).1).Now)], iOwn (tSl (tSl tyVersion 102) 100) [.slice A31 (((spec_ApplyUpdates_m (laws_toStore_m x0) (laws_toUpdateS_m x1)).1).Segments).length c32] (((spec_ApplyUpdates_m (laws_toStore_m x0) (laws_toUpdateS_m x1)).1).Segments), iBox p13 41 [.slice A4 x0.Segments.length c5, .int .i64 x0.Now]])) (cl_fn cb53 rfl) (fun W hm => (laws_markUpdateS_c w.heap.size w [iBox p54 45 [.slice A50 (((impl_ApplyUpdates_m (laws_toStore_m x0) (laws_toUpdateS_m x1)).1).Segments).length c51, .int .i64 (((impl_ApplyUpdates_m (laws_toStore_m x0) (laws_toUpdateS_m x1)).1).Now)], iOwn (tSl (tSl tyVersion 102) 100) [.slice A50 (((impl_ApplyUpdates_m (laws_toStore_m x0) (laws_toUpdateS_m x1)).1).Segments).length c51] (((impl_ApplyUpdates_m (laws_toStore_m x0) (laws_toUpdateS_m x1)).1).Segments), iBox p35 45 [.slice A31 (((spec_ApplyUpdates_m (laws_toStore_m x0) (laws_toUpdateS_m x1)).1).Segments).length c32, .int .i64 (((spec_ApplyUpdates_m (laws_toStore_m x0) (laws_toUpdateS_m x1)).1).Now)], iOwn (tSl (tSl tyVersion 102) 100) [.slice A31 (((spec_ApplyUpdates_m (laws_toStore_m x0) (laws_toUpdateS_m x1)).1).Segments).length c32] (((spec_ApplyUpdates_m (laws_toStore_m x0) (laws_toUpdateS_m x1)).1).Segments), iBox p13 41 [.slice A4 x0.Segments.length c5, .int .i64 x0.Now]] W (.slice A44 (laws_toUpdateS_m x1).length c45) (laws_toUpdateS_m x1) ((laws_markStore_m (laws_toStore_m x0) 1).1) (hm.pick [2, 0, 1, 3, 4, 5] (by decide))).mono (fun _ _ h => ⟨(), h.1, h.2⟩)) (Wd_none rfl) (by decide) (fun _ => ?_)
              refine wa ?_
              refine nt' ?_
              refine CM_seq ?_
              refine sr ?_
              refine wm ?_
              refine wv (fun W hm => rv_lss rfl rfl) ?_
              refine wm ?_
              by_cases h76 : ((laws_markUpdateS_m (laws_toUpdateS_m x1) ((laws_markStore_m (laws_toStore_m x0) 1).1)).1) < 0
              · have g77 : (decide (((laws_markUpdateS_m (laws_toUpdateS_m x1) ((laws_markStore_m (laws_toStore_m x0) 1).1)).1) < 0)) = true := decide_eq_true h76
                refine ws g77 ?_
                refine ws g77 ?_
                refine ws g77 ?_
                refine ws g77 ?_
                refine wv (fun W hm => rv_pickT rfl g77 rfl) ?_
                refine wm ?_
                refine WM_skip (Wd_some rfl rfl rfl rfl) rfl (by decide) ?_
                refine WM_skip (Wd_some rfl rfl rfl rfl) rfl (by decide) ?_
                refine WM_skip (Wd_some rfl rfl rfl rfl) rfl (by decide) ?_
                refine wv (fun W hm => rv_pickT rfl rfl rfl) ?_
                refine nt' ?_
                refine CM_condT rfl rfl ?_
                refine CM_seq ?_
                refine CM_items (fun W hm => (hm.pick [] (by decide))) ?_
                refine CM_region ?_
                refine wa ?_
                refine nt' ?_
                refine CM_ret ?_
                refine QM_then_ret ?_
                exact QM_ret1 rfl rfl (fun W hm => ⟨ret_b (show laws_FnExactApplyUpdates_m x0 x1 = false from by unfold laws_FnExactApplyUpdates_m; exact cond_f g15 (cond_f g17 (cond_t g56 (cond_f g58 (cond_t g66 (cond_t g73 (cond_t g77 (rfl)))))))), hm.below⟩)
              · have g77 : (decide (((laws_markUpdateS_m (laws_toUpdateS_m x1) ((laws_markStore_m (laws_toStore_m x0) 1).1)).1) < 0)) = false := decide_eq_false h76
                refine wg (fun W hm => rv_loadN (cs := [.slice A50 (((impl_ApplyUpdates_m (laws_toStore_m x0) (laws_toUpdateS_m x1)).1).Segments).length c51, .int .i64 (((impl_ApplyUpdates_m (laws_toStore_m x0) (laws_toUpdateS_m x1)).1).Now)]) Try.underlying45 Try.type45 rfl rfl (hm.boxCells (n := 1) rfl)) g77 ?_
                refine wg (fun W hm => rv_loadN (cs := [.slice A31 (((spec_ApplyUpdates_m (laws_toStore_m x0) (laws_toUpdateS_m x1)).1).Segments).length c32, .int .i64 (((spec_ApplyUpdates_m (laws_toStore_m x0) (laws_toUpdateS_m x1)).1).Now)]) Try.underlying45 Try.type45 rfl rfl (hm.boxCells (n := 3) rfl)) g77 ?_
                refine WM_callV (cl_fn cb30 rfl) (fun W hm => laws_eqStore_c W _ ((impl_ApplyUpdates_m (laws_toStore_m x0) (laws_toUpdateS_m x1)).1) _ ((spec_ApplyUpdates_m (laws_toStore_m x0) (laws_toUpdateS_m x1)).1) (tyStore_mk (x := ((impl_ApplyUpdates_m (laws_toStore_m x0) (laws_toUpdateS_m x1)).1)) (hm.rdSI (n := 2) rfl)) (tyStore_mk (x := ((spec_ApplyUpdates_m (laws_toStore_m x0) (laws_toUpdateS_m x1)).1)) (hm.rdSI (n := 4) rfl))) (Wd_some rfl rfl rfl (bw g77 rfl)) (by decide) ?_
                refine wg (fun W hm => rv_not rfl) g77 ?_
                refine wv (fun W hm => rv_pickF rfl g77 rfl) ?_
                refine wm ?_
                refine wg (fun W hm => rv_move rfl) (nt g56) ?_
                refine wg (fun W hm => rv_move rfl) (nt g56) ?_
                refine wg (fun W hm => rv_neq rfl rfl) (nt g56) ?_
                refine wv (fun W hm => rv_pickF rfl (nt g56) rfl) ?_
                refine nt' ?_
                refine CM_condF rfl g58 ?_
                refine CM_skip ?_
                refine QM_then ?_
                refine sr ?_
                refine wa ?_
                refine nt' ?_
                refine sr ?_
                refine wv (fun W hm => rv_loadN (cs := [.slice A50 (((impl_ApplyUpdates_m (laws_toStore_m x0) (laws_toUpdateS_m x1)).1).Segments).length c51, .int .i64 (((impl_ApplyUpdates_m (laws_toStore_m x0) (laws_toUpdateS_m x1)).1).Now)]) Try.underlying45 Try.type45 rfl rfl (hm.boxCells (n := 1) rfl)) ?_
                refine wm ?_
                refine WM_items (js := (iOwn tyStore [.slice A50 (((impl_ApplyUpdates_m (laws_toStore_m x0) (laws_toUpdateS_m x1)).1).Segments).length c51, .int .i64 (((impl_ApplyUpdates_m (laws_toStore_m x0) (laws_toUpdateS_m x1)).1).Now)] ((impl_ApplyUpdates_m (laws_toStore_m x0) (laws_toUpdateS_m x1)).1) :: [iOwn (tSl tyUpdate 71) [.slice A44 (laws_toUpdateS_m x1).length c45] ((laws_markUpdateS_m (laws_toUpdateS_m x1) ((laws_markStore_m (laws_toStore_m x0) 1).1)).2), iBox p54 45 [.slice A50 (((impl_ApplyUpdates_m (laws_toStore_m x0) (laws_toUpdateS_m x1)).1).Segments).length c51, .int .i64 (((impl_ApplyUpdates_m (laws_toStore_m x0) (laws_toUpdateS_m x1)).1).Now)], iBox p35 45 [.slice A31 (((spec_ApplyUpdates_m (laws_toStore_m x0) (laws_toUpdateS_m x1)).1).Segments).length c32, .int .i64 (((spec_ApplyUpdates_m (laws_toStore_m x0) (laws_toUpdateS_m x1)).1).Now)], iOwn (tSl (tSl tyVersion 102) 100) [.slice A31 (((spec_ApplyUpdates_m (laws_toStore_m x0) (laws_toUpdateS_m x1)).1).Segments).length c32] (((spec_ApplyUpdates_m (laws_toStore_m x0) (laws_toUpdateS_m x1)).1).Segments), iBox p13 41 [.slice A4 x0.Segments.length c5, .int .i64 x0.Now]])) (fun W hm => Mem.join (is := [iOwn (tSl (tSl tyVersion 102) 100) [.slice A50 (((impl_ApplyUpdates_m (laws_toStore_m x0) (laws_toUpdateS_m x1)).1).Segments).length c51] (((impl_ApplyUpdates_m (laws_toStore_m x0) (laws_toUpdateS_m x1)).1).Segments)]) (js := [iOwn (tSl tyUpdate 71) [.slice A44 (laws_toUpdateS_m x1).length c45] ((laws_markUpdateS_m (laws_toUpdateS_m x1) ((laws_markStore_m (laws_toStore_m x0) 1).1)).2), iBox p54 45 [.slice A50 (((impl_ApplyUpdates_m (laws_toStore_m x0) (laws_toUpdateS_m x1)).1).Segments).length c51, .int .i64 (((impl_ApplyUpdates_m (laws_toStore_m x0) (laws_toUpdateS_m x1)).1).Now)], iBox p35 45 [.slice A31 (((spec_ApplyUpdates_m (laws_toStore_m x0) (laws_toUpdateS_m x1)).1).Segments).length c32, .int .i64 (((spec_ApplyUpdates_m (laws_toStore_m x0) (laws_toUpdateS_m x1)).1).Now)], iOwn (tSl (tSl tyVersion 102) 100) [.slice A31 (((spec_ApplyUpdates_m (laws_toStore_m x0) (laws_toUpdateS_m x1)).1).Segments).length c32] (((spec_ApplyUpdates_m (laws_toStore_m x0) (laws_toUpdateS_m x1)).1).Segments), iBox p13 41 [.slice A4 x0.Segments.length c5, .int .i64 x0.Now]]) (fun _ _ hs => tyStore_join (x := ((impl_ApplyUpdates_m (laws_toStore_m x0) (laws_toUpdateS_m x1)).1)) hs) (hm.pick [2, 0, 1, 3, 4, 5] (by decide))) ?_
                refine WM_callW (χ := Unit) (val := fun _ => .int .i64 (laws_markStore_m ((impl_ApplyUpdates_m (laws_toStore_m x0) (laws_toUpdateS_m x1)).1) 1).1) (js := fun _ => (iOwn tyStore [.slice A50 (((impl_ApplyUpdates_m (laws_toStore_m x0) (laws_toUpdateS_m x1)).1).Segments).length c51, .int .i64 (((impl_ApplyUpdates_m (laws_toStore_m x0) (laws_toUpdateS_m x1)).1).Now)] (laws_markStore_m ((impl_ApplyUpdates_m (laws_toStore_m x0) (laws_toUpdateS_m x1)).1) 1).2 :: [iOwn (tSl tyUpdate 71) [.slice A44 (laws_toUpdateS_m x1).length c45] ((laws_markUpdateS_m (laws_toUpdateS_m x1) ((laws_markStore_m (laws_toStore_m x0) 1).1)).2), iBox p54 45 [.slice A50 (((impl_ApplyUpdates_m (laws_toStore_m x0) (laws_toUpdateS_m x1)).1).Segments).length c51, .int .i64 (((impl_ApplyUpdates_m (laws_toStore_m x0) (laws_toUpdateS_m x1)).1).Now)], iBox p35 45 [.slice A31 (((spec_ApplyUpdates_m (laws_toStore_m x0) (laws_toUpdateS_m x1)).1).Segments).length c32, .int .i64 (((spec_ApplyUpdates_m (laws_toStore_m x0) (laws_toUpdateS_m x1)).1).Now)], iOwn (tSl (tSl tyVersion 102) 100) [.slice A31 (((spec_ApplyUpdates_m (laws_toStore_m x0) (laws_toUpdateS_m x1)).1).Segments).length c32] (((spec_ApplyUpdates_m (laws_toStore_m x0) (laws_toUpdateS_m x1)).1).Segments), iBox p13 41 [.slice A4 x0.Segments.length c5, .int .i64 x0.Now]])) (cl_fn cb31 rfl) (fun W hm => (laws_markStore_c w.heap.size w [iOwn (tSl tyUpdate 71) [.slice A44 (laws_toUpdateS_m x1).length c45] ((laws_markUpdateS_m (laws_toUpdateS_m x1) ((laws_markStore_m (laws_toStore_m x0) 1).1)).2), iBox p54 45 [.slice A50 (((impl_ApplyUpdates_m (laws_toStore_m x0) (laws_toUpdateS_m x1)).1).Segments).length c51, .int .i64 (((impl_ApplyUpdates_m (laws_toStore_m x0) (laws_toUpdateS_m x1)).1).Now)], iBox p35 45 [.slice A31 (((spec_ApplyUpdates_m (laws_toStore_m x0) (laws_toUpdateS_m x1)).1).Segments).length c32, .int .i64 (((spec_ApplyUpdates_m (laws_toStore_m x0) (laws_toUpdateS_m x1)).1).Now)], iOwn (tSl (tSl tyVersion 102) 100) [.slice A31 (((spec_ApplyUpdates_m (laws_toStore_m x0) (laws_toUpdateS_m x1)).1).Segments).length c32] (((spec_ApplyUpdates_m (laws_toStore_m x0) (laws_toUpdateS_m x1)).1).Segments), iBox p13 41 [.slice A4 x0.Segments.length c5, .int .i64 x0.Now]] W [.slice A50 (((impl_ApplyUpdates_m (laws_toStore_m x0) (laws_toUpdateS_m x1)).1).Segments).length c51, .int .i64 (((impl_ApplyUpdates_m (laws_toStore_m x0) (laws_toUpdateS_m x1)).1).Now)] ((impl_ApplyUpdates_m (laws_toStore_m x0) (laws_toUpdateS_m x1)).1) 1 hm).mono (fun _ _ h => ⟨(), h.1, h.2⟩)) (Wd_none rfl) (by decide) (fun _ => ?_)
                refine WM_split (γ := Value) (js := fun g => [iOwn (tSl (tSl tyVersion 102) 100) [g] ((laws_markStore_m ((impl_ApplyUpdates_m (laws_toStore_m x0) (laws_toUpdateS_m x1)).1) 1).2.Segments)]) (C := fun g => [.slice A50 (((impl_ApplyUpdates_m (laws_toStore_m x0) (laws_toUpdateS_m x1)).1).Segments).length c51, .int .i64 (((impl_ApplyUpdates_m (laws_toStore_m x0) (laws_toUpdateS_m x1)).1).Now)] = [g, .int .i64 ((laws_markStore_m ((impl_ApplyUpdates_m (laws_toStore_m x0) (laws_toUpdateS_m x1)).1) 1).2.Now)]) (fun _ _ h => tyStore_split h) ?_
                rintro v79 h78
                simp only [List.cons.injEq] at h78
                obtain ⟨rfl, -, -⟩ := h78
                refine wa ?_
                refine nt' ?_
                refine sr ?_
                refine wa ?_
                refine nt' ?_
                refine sr ?_
                refine wv (fun W hm => rv_loadN (cs := [.slice A50 (((impl_ApplyUpdates_m (laws_toStore_m x0) (laws_toUpdateS_m x1)).1).Segments).length c51, .int .i64 (((impl_ApplyUpdates_m (laws_toStore_m x0) (laws_toUpdateS_m x1)).1).Now)]) Try.underlying45 Try.type45 rfl rfl (hm.boxCells (n := 2) rfl)) ?_
                refine wm ?_
                refine WM_callV (cl_fn cb32 rfl) (fun W hm => laws_heldStore_c W _ (⟨(laws_markStore_m ((impl_ApplyUpdates_m (laws_toStore_m x0) (laws_toUpdateS_m x1)).1) 1).2.Segments, ((impl_ApplyUpdates_m (laws_toStore_m x0) (laws_toUpdateS_m x1)).1).Now⟩ : DStore) 1 (tyStore_mk (x := (⟨(laws_markStore_m ((impl_ApplyUpdates_m (laws_toStore_m x0) (laws_toUpdateS_m x1)).1) 1).2.Segments, ((impl_ApplyUpdates_m (laws_toStore_m x0) (laws_toUpdateS_m x1)).1).Now⟩ : DStore)) (hm.rdSI (n := 0) rfl))) (Wd_none rfl) (by decide) ?_
                refine wa ?_
                refine nt' ?_
                refine CM_seq ?_
                refine sr ?_
                refine wm ?_
                refine wv (fun W hm => rv_lss rfl rfl) ?_
                refine nt' ?_
                by_cases h80 : (laws_heldStore_m (⟨(laws_markStore_m ((impl_ApplyUpdates_m (laws_toStore_m x0) (laws_toUpdateS_m x1)).1) 1).2.Segments, ((impl_ApplyUpdates_m (laws_toStore_m x0) (laws_toUpdateS_m x1)).1).Now⟩ : DStore) 1) < 0
                · have g81 : (decide ((laws_heldStore_m (⟨(laws_markStore_m ((impl_ApplyUpdates_m (laws_toStore_m x0) (laws_toUpdateS_m x1)).1) 1).2.Segments, ((impl_ApplyUpdates_m (laws_toStore_m x0) (laws_toUpdateS_m x1)).1).Now⟩ : DStore) 1) < 0)) = true := decide_eq_true h80
                  refine CM_condT rfl g81 ?_
                  refine CM_seq ?_
                  refine CM_items (fun W hm => (hm.pick [] (by decide))) ?_
                  refine CM_region ?_
                  refine wa ?_
                  refine nt' ?_
                  refine CM_ret ?_
                  refine QM_then_ret ?_
                  exact QM_ret1 rfl rfl (fun W hm => ⟨ret_b (show laws_FnExactApplyUpdates_m x0 x1 = false from by unfold laws_FnExactApplyUpdates_m; exact cond_f g15 (cond_f g17 (cond_t g56 (cond_f g58 (cond_t g66 (cond_t g73 (cond_f g77 (cond_t g81 (rfl))))))))), hm.below⟩)
                · have g81 : (decide ((laws_heldStore_m (⟨(laws_markStore_m ((impl_ApplyUpdates_m (laws_toStore_m x0) (laws_toUpdateS_m x1)).1) 1).2.Segments, ((impl_ApplyUpdates_m (laws_toStore_m x0) (laws_toUpdateS_m x1)).1).Now⟩ : DStore) 1) < 0)) = false := decide_eq_false h80
                  refine CM_condF rfl g81 ?_
                  refine CM_skip ?_
                  refine QM_then ?_
                  refine CM_seq ?_
                  refine sr ?_
                  refine wm ?_
                  refine wm ?_
                  refine wv (fun W hm => rv_neq rfl rfl) ?_
                  refine nt' ?_
                  by_cases h82 : (laws_heldStore_m (⟨(laws_markStore_m ((impl_ApplyUpdates_m (laws_toStore_m x0) (laws_toUpdateS_m x1)).1) 1).2.Segments, ((impl_ApplyUpdates_m (laws_toStore_m x0) (laws_toUpdateS_m x1)).1).Now⟩ : DStore) 1) = ((laws_markStore_m ((impl_ApplyUpdates_m (laws_toStore_m x0) (laws_toUpdateS_m x1)).1) 1).1)
                  · have g83 : ((laws_heldStore_m (⟨(laws_markStore_m ((impl_ApplyUpdates_m (laws_toStore_m x0) (laws_toUpdateS_m x1)).1) 1).2.Segments, ((impl_ApplyUpdates_m (laws_toStore_m x0) (laws_toUpdateS_m x1)).1).Now⟩ : DStore) 1) != ((laws_markStore_m ((impl_ApplyUpdates_m (laws_toStore_m x0) (laws_toUpdateS_m x1)).1) 1).1)) = false := by rw [h82]; exact bne_self_eq_false _
                    refine CM_condF rfl g83 ?_
                    refine CM_skip ?_
                    refine QM_then ?_
                    refine sr ?_
                    refine wv (fun W hm => rv_loadN (cs := [.slice A4 x0.Segments.length c5, .int .i64 x0.Now]) Try.underlying41 Try.type41 rfl rfl (hm.boxCells (n := 5) rfl)) ?_
                    refine WM_call (χ := List Value) (val := fun x => .agg x.toArray) (js := fun x => [iOwn tyStore x (laws_toStore_m x0)]) (cl_fn cb28 rfl) (fun W hm => laws_toStore_c W _ x0 (tyLStore_mk (x := x0) (hm.rdS0 r7)) (smStore_wt (by omega))) (Wd_none rfl) (by decide) (fun z84 => ?_)
                    refine WM_split (γ := Value) (js := fun g => [iOwn (tSl (tSl tyVersion 102) 100) [g] ((laws_toStore_m x0).Segments)]) (C := fun g => z84 = [g, .int .i64 ((laws_toStore_m x0).Now)]) (fun _ _ h => tyStore_split h) ?_
                    rintro v85 rfl
                    refine WM_form (n := 0) rfl ?_
                    rintro A86 c87 rfl m88
                    refine wm ?_
                    refine WM_call (χ := Value) (val := fun x => x) (js := fun x => [iOwn (tSl tyUpdate 71) [x] (laws_toUpdateS_m x1)]) (cl_fn cb50 rfl) (fun W hm => laws_toUpdateS_c W _ x1 (hm.rdS0 r12) (sm_wtS (by omega) fun y h => (smUpdate_wt (h)))) (Wd_none rfl) (by decide) (fun z90 => ?_)
                    refine WM_form (n := 0) rfl ?_
                    rintro A91 c92 rfl m93
                    refine WM_call (χ := List Value) (val := fun x => .tuple #[.agg x.toArray, .int .i64 ((impl_ApplyUpdates_m (laws_toStore_m x0) (laws_toUpdateS_m x1)).2)]) (js := fun x => [iOwn tyStore x ((impl_ApplyUpdates_m (laws_toStore_m x0) (laws_toUpdateS_m x1)).1)]) (cl_fn cb51 rfl) (fun W hm => impl_ApplyUpdates_c W _ (laws_toStore_m x0) _ (laws_toUpdateS_m x1) (tyStore_mk (x := (laws_toStore_m x0)) (hm.rdSI (n := 1) rfl)) (hm.rdSI (n := 0) rfl) (by rw [laws_toStore_eq]; exact (smStore_wt (by omega))) (by rw [laws_toUpdateS_eq]; exact (sm_wtS (by omega) fun y h => (smUpdate_wt (h))))) (Wd_none rfl) (by decide) (fun z95 => ?_)
                    refine WM_split (γ := Value) (js := fun g => [iOwn (tSl (tSl tyVersion 102) 100) [g] (((impl_ApplyUpdates_m (laws_toStore_m x0) (laws_toUpdateS_m x1)).1).Segments)]) (C := fun g => z95 = [g, .int .i64 (((impl_ApplyUpdates_m (laws_toStore_m x0) (laws_toUpdateS_m x1)).1).Now)]) (fun _ _ h => tyStore_split h) ?_
                    rintro v96 rfl
                    refine WM_form (n := 0) rfl ?_
                    rintro A97 c98 rfl m99
                    refine wm ?_
                    refine wv (fun W hm => rv_extract rfl rfl) ?_
                    refine wv (fun W hm => rv_extract rfl rfl) ?_
                    refine WM_alloc Try.type45 rfl (Wd_none rfl) (by decide) (fun p101 => ?_)
                    refine WM_storeBox (p := p101) (o := 0) (cs := [.slice none 0 0, .int .i64 0]) (cs' := [.slice A97 (((impl_ApplyUpdates_m (laws_toStore_m x0) (laws_toUpdateS_m x1)).1).Segments).length c98, .int .i64 (((impl_ApplyUpdates_m (laws_toStore_m x0) (laws_toUpdateS_m x1)).1).Now)]) (js := [iOwn (tSl (tSl tyVersion 102) 100) [.slice A97 (((impl_ApplyUpdates_m (laws_toStore_m x0) (laws_toUpdateS_m x1)).1).Segments).length c98] (((impl_ApplyUpdates_m (laws_toStore_m x0) (laws_toUpdateS_m x1)).1).Segments), iOwn (tSl tyUpdate 71) [.slice A91 (laws_toUpdateS_m x1).length c92] (laws_toUpdateS_m x1), iOwn (tSl (tSl tyVersion 102) 100) [.slice A86 ((laws_toStore_m x0).Segments).length c87] ((laws_toStore_m x0).Segments), iOwn (tSl (tSl tyVersion 102) 100) [.slice A50 (((impl_ApplyUpdates_m (laws_toStore_m x0) (laws_toUpdateS_m x1)).1).Segments).length c51] ((laws_markStore_m ((impl_ApplyUpdates_m (laws_toStore_m x0) (laws_toUpdateS_m x1)).1) 1).2.Segments), iOwn (tSl tyUpdate 71) [.slice A44 (laws_toUpdateS_m x1).length c45] ((laws_markUpdateS_m (laws_toUpdateS_m x1) ((laws_markStore_m (laws_toStore_m x0) 1).1)).2), iBox p54 45 [.slice A50 (((impl_ApplyUpdates_m (laws_toStore_m x0) (laws_toUpdateS_m x1)).1).Segments).length c51, .int .i64 (((impl_ApplyUpdates_m (laws_toStore_m x0) (laws_toUpdateS_m x1)).1).Now)], iBox p35 45 [.slice A31 (((spec_ApplyUpdates_m (laws_toStore_m x0) (laws_toUpdateS_m x1)).1).Segments).length c32, .int .i64 (((spec_ApplyUpdates_m (laws_toStore_m x0) (laws_toUpdateS_m x1)).1).Now)], iOwn (tSl (tSl tyVersion 102) 100) [.slice A31 (((spec_ApplyUpdates_m (laws_toStore_m x0) (laws_toUpdateS_m x1)).1).Segments).length c32] (((spec_ApplyUpdates_m (laws_toStore_m x0) (laws_toUpdateS_m x1)).1).Segments), iBox p13 41 [.slice A4 x0.Segments.length c5, .int .i64 x0.Now]]) (fun W hm => hm) Try.type45 rfl (Nat.le_of_ble_eq_true rfl) rfl rfl rfl rfl (Wd_none rfl) ?_
                    refine wa ?_
                    refine nt' ?_
                    refine CM_seq ?_
                    refine CM_seq ?_
                    refine CM_items (fun W hm => (hm.pick [0, 1, 4, 6, 7, 8] (by decide))) ?_
                    refine CM_region ?_
                    refine wv (fun W hm => rv_loadN (cs := [.slice A97 (((impl_ApplyUpdates_m (laws_toStore_m x0) (laws_toUpdateS_m x1)).1).Segments).length c98, .int .i64 (((impl_ApplyUpdates_m (laws_toStore_m x0) (laws_toUpdateS_m x1)).1).Now)]) Try.underlying45 Try.type45 rfl rfl (hm.boxCells (n := 0) rfl)) ?_
                    refine wv (fun W hm => rv_loadN (cs := [.slice A31 (((spec_ApplyUpdates_m (laws_toStore_m x0) (laws_toUpdateS_m x1)).1).Segments).length c32, .int .i64 (((spec_ApplyUpdates_m (laws_toStore_m x0) (laws_toUpdateS_m x1)).1).Now)]) Try.underlying45 Try.type45 rfl rfl (hm.boxCells (n := 4) rfl)) ?_
                    refine WM_callV (cl_fn cb30 rfl) (fun W hm => laws_eqStore_c W _ ((impl_ApplyUpdates_m (laws_toStore_m x0) (laws_toUpdateS_m x1)).1) _ ((spec_ApplyUpdates_m (laws_toStore_m x0) (laws_toUpdateS_m x1)).1) (tyStore_mk (x := ((impl_ApplyUpdates_m (laws_toStore_m x0) (laws_toUpdateS_m x1)).1)) (hm.rdSI (n := 1) rfl)) (tyStore_mk (x := ((spec_ApplyUpdates_m (laws_toStore_m x0) (laws_toUpdateS_m x1)).1)) (hm.rdSI (n := 5) rfl))) (Wd_none rfl) (by decide) ?_
                    refine wv (fun W hm => rv_not rfl) ?_
                    refine wm ?_
                    refine wg (fun W hm => rv_move rfl) (nt g56) ?_
                    refine wg (fun W hm => rv_move rfl) (nt g56) ?_
                    refine wg (fun W hm => rv_neq rfl rfl) (nt g56) ?_
                    refine wv (fun W hm => rv_pickF rfl (nt g56) rfl) ?_
                    refine nt' ?_
                    refine CM_condF rfl g58 ?_
                    refine CM_skip ?_
                    refine QM_then ?_
                    refine CM_seq ?_
                    refine CM_items (fun W hm => (hm.pick [2, 3] (by decide))) ?_
                    refine CM_region ?_
                    refine wa ?_
                    refine nt' ?_
                    refine sr ?_
                    refine wv (fun W hm => rv_loadN (cs := [.slice A50 (((impl_ApplyUpdates_m (laws_toStore_m x0) (laws_toUpdateS_m x1)).1).Segments).length c51, .int .i64 (((impl_ApplyUpdates_m (laws_toStore_m x0) (laws_toUpdateS_m x1)).1).Now)]) Try.underlying45 Try.type45 rfl rfl (hm.boxCells (n := 1) rfl)) ?_
                    refine wm ?_
                    refine WM_callV (cl_fn cb32 rfl) (fun W hm => laws_heldStore_c W _ (⟨(laws_markStore_m ((impl_ApplyUpdates_m (laws_toStore_m x0) (laws_toUpdateS_m x1)).1) 1).2.Segments, ((impl_ApplyUpdates_m (laws_toStore_m x0) (laws_toUpdateS_m x1)).1).Now⟩ : DStore) 1 (tyStore_mk (x := (⟨(laws_markStore_m ((impl_ApplyUpdates_m (laws_toStore_m x0) (laws_toUpdateS_m x1)).1) 1).2.Segments, ((impl_ApplyUpdates_m (laws_toStore_m x0) (laws_toUpdateS_m x1)).1).Now⟩ : DStore)) (hm.rdSI (n := 0) rfl))) (Wd_none rfl) (by decide) ?_
                    refine wa ?_
                    refine nt' ?_
                    refine CM_seq ?_
                    refine sr ?_
                    refine wm ?_
                    refine wv (fun W hm => rv_lss rfl rfl) ?_
                    refine nt' ?_
                    refine CM_condF rfl g81 ?_
                    refine CM_skip ?_
                    refine QM_then ?_
                    refine CM_seq ?_
                    refine sr ?_
                    refine wm ?_
                    refine wm ?_
                    refine wv (fun W hm => rv_neq rfl rfl) ?_
                    refine nt' ?_
                    refine CM_condF rfl g83 ?_
                    refine CM_skip ?_
                    refine QM_then ?_
                    refine sr ?_
                    refine wa ?_
                    refine nt' ?_
                    refine CM_ret ?_
                    exact QM_ret1 rfl rfl (fun W hm => ⟨ret_b (show laws_FnExactApplyUpdates_m x0 x1 = true from by unfold laws_FnExactApplyUpdates_m; exact cond_f g15 (cond_f g17 (cond_t g56 (cond_f g58 (cond_t g66 (cond_t g73 (cond_f g77 (cond_f g81 (cond_f g83 (rfl)))))))))), hm.below⟩)
                  · have g83 : ((laws_heldStore_m (⟨(laws_markStore_m ((impl_ApplyUpdates_m (laws_toStore_m x0) (laws_toUpdateS_m x1)).1) 1).2.Segments, ((impl_ApplyUpdates_m (laws_toStore_m x0) (laws_toUpdateS_m x1)).1).Now⟩ : DStore) 1) != ((laws_markStore_m ((impl_ApplyUpdates_m (laws_toStore_m x0) (laws_toUpdateS_m x1)).1) 1).1)) = true := bne_iff_ne.2 h82
                    refine CM_condT rfl g83 ?_
                    refine CM_seq ?_
                    refine CM_items (fun W hm => (hm.pick [] (by decide))) ?_
                    refine CM_region ?_
                    refine wa ?_
                    refine nt' ?_
                    refine CM_ret ?_
                    refine QM_then_ret ?_
                    exact QM_ret1 rfl rfl (fun W hm => ⟨ret_b (show laws_FnExactApplyUpdates_m x0 x1 = false from by unfold laws_FnExactApplyUpdates_m; exact cond_f g15 (cond_f g17 (cond_t g56 (cond_f g58 (cond_t g66 (cond_t g73 (cond_f g77 (cond_f g81 (cond_t g83 (rfl)))))))))), hm.below⟩)
            ·
              refine CM_condT rfl (nf g73) ?_
              refine CM_seq ?_
              refine CM_items (fun W hm => (hm.pick [] (by decide))) ?_
              refine CM_region ?_
              refine wa ?_
              refine nt' ?_
              refine CM_ret ?_
              refine QM_then_ret ?_
              exact QM_ret1 rfl rfl (fun W hm => ⟨ret_b (show laws_FnExactApplyUpdates_m x0 x1 = false from by unfold laws_FnExactApplyUpdates_m; exact cond_f g15 (cond_f g17 (cond_t g56 (cond_f g58 (cond_t g66 (cond_f g73 (rfl))))))), hm.below⟩)
          ·
            refine CM_condT rfl (nf g66) ?_
            refine CM_seq ?_
            refine CM_items (fun W hm => (hm.pick [] (by decide))) ?_
            refine CM_region ?_
            refine wa ?_
            refine nt' ?_
            refine CM_ret ?_
            refine QM_then_ret ?_
            exact QM_ret1 rfl rfl (fun W hm => ⟨ret_b (show laws_FnExactApplyUpdates_m x0 x1 = false from by unfold laws_FnExactApplyUpdates_m; exact cond_f g15 (cond_f g17 (cond_t g56 (cond_f g58 (cond_f g66 (rfl)))))), hm.below⟩)
        · have g58 : (((impl_ApplyUpdates_m (laws_toStore_m x0) (laws_toUpdateS_m x1)).2) != ((spec_ApplyUpdates_m (laws_toStore_m x0) (laws_toUpdateS_m x1)).2)) = true := bne_iff_ne.2 h57
          refine CM_condT rfl g58 ?_
          refine CM_seq ?_
          refine CM_items (fun W hm => (hm.pick [] (by decide))) ?_
          refine CM_region ?_
          refine wa ?_
          refine nt' ?_
          refine CM_ret ?_
          refine QM_then_ret ?_
          exact QM_ret1 rfl rfl (fun W hm => ⟨ret_b (show laws_FnExactApplyUpdates_m x0 x1 = false from by unfold laws_FnExactApplyUpdates_m; exact cond_f g15 (cond_f g17 (cond_t g56 (cond_t g58 (rfl))))), hm.below⟩)
      ·
        refine ws (nf g56) ?_
        refine ws (nf g56) ?_
        refine ws (nf g56) ?_
        refine wv (fun W hm => rv_pickT rfl (nf g56) rfl) ?_
        refine nt' ?_
        refine CM_condT rfl rfl ?_
        refine CM_seq ?_
        refine CM_items (fun W hm => (hm.pick [] (by decide))) ?_
        refine CM_region ?_
        refine wa ?_
        refine nt' ?_
        refine CM_ret ?_
        refine QM_then_ret ?_
        exact QM_ret1 rfl rfl (fun W hm => ⟨ret_b (show laws_FnExactApplyUpdates_m x0 x1 = false from by unfold laws_FnExactApplyUpdates_m; exact cond_f g15 (cond_f g17 (cond_f g56 (rfl)))), hm.below⟩)

end Go.Proofs.Ytjcdginailhfmaa
