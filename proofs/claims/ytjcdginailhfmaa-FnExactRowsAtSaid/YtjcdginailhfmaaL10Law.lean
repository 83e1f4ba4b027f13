/-
  The contract of the law.
-/
import Derived.Test.YtjcdginailhfmaaL10Pl
namespace Go.Proofs.Ytjcdginailhfmaa
open Go.RowKit
def laws_FnExactRowsAt_m (x0 : DStore) (x1 : Int) : Bool :=
 cond (decide ((laws_szStore_m x0 1048576) < 0)) true (cond (laws_eqRowS_m (impl_RowsAt_m (laws_toStore_m x0) x1) (spec_RowsAt_m (laws_toStore_m x0) x1)) (cond (laws_eqStore_m (laws_toStore_m x0) (laws_toStore_m x0)) (cond (decide (((laws_markStore_m (laws_toStore_m x0) 1).1) < 0)) false (cond (decide ((laws_heldRowS_m ((laws_markRowS_m (impl_RowsAt_m (laws_toStore_m x0) x1) 1).2) 1) < 0)) false (cond ((laws_heldRowS_m ((laws_markRowS_m (impl_RowsAt_m (laws_toStore_m x0) x1) 1).2) 1) != ((laws_markRowS_m (impl_RowsAt_m (laws_toStore_m x0) x1) 1).1)) false true))) false) false)
set_option maxRecDepth 100000 in
theorem cb10 : Cb Try.prog 10 := ⟨Try.f10, _, Try.func10, rfl, by decide⟩
set_option maxRecDepth 10000 in
set_option maxHeartbeats 4000000 in
theorem laws_FnExactRowsAt_c (w : World) (z0 : List Value) (x0 : DStore) (x1 : Int) (r_0 : tyLStore.rd w w.heap.size z0 x0) :
  Calls Try.prog 10 #[.agg z0.toArray, .int .i64 x1] w fun e w' => e = .returned (.bool (laws_FnExactRowsAt_m x0 x1)) ∧ Below w.heap.size w w' := by
 have ok0 := (tyLStore_sm r_0)
 obtain ⟨v1, rfl, r2⟩ := tyLStore_rd r_0
 have r7 := r2
 obtain ⟨m3, A4, c5, rfl, q6⟩ := r2
 refine call_enterM (L := [(0, .agg #[.slice A4 x0.Segments.length c5, .int .i64 x0.Now]), (1, .int .i64 x1)]) (N := 74) Try.func10 rfl rfl (Nat.le_of_ble_eq_true rfl) (argsL_cons rfl (argsL_cons rfl argsL_nil)) ?_
 refine sr ?_
 refine WM_box rfl (Wd_none rfl) (by decide) (fun p8 => ?_)
 refine wa ?_
 refine nt' ?_
 refine sr ?_
 refine wa ?_
 refine nt' ?_
 refine sr ?_
 refine wv (fun W hm => rv_loadN (cs := [.slice A4 x0.Segments.length c5, .int .i64 x0.Now]) Try.underlying41 Try.type41 rfl rfl (hm.boxCells (n := 0) rfl)) ?_
 refine wm ?_
 refine WM_callV (cl_fn cb26 rfl) (fun W hm => laws_szStore_c W _ x0 1048576 (tyLStore_mk (x := x0) (hm.rdS0 r7))) (Wd_none rfl) (by decide) ?_
 refine wa ?_
 refine nt' ?_
 refine CM_seq ?_
 refine sr ?_
 refine wm ?_
 refine wv (fun W hm => rv_lss rfl rfl) ?_
 refine nt' ?_
 by_cases h9 : (laws_szStore_m x0 1048576) < 0
 ·have g10 : (decide ((laws_szStore_m x0 1048576) < 0)) = true := decide_eq_true h9
  refine CM_condT rfl g10 ?_
  refine sr ?_
  refine wa ?_
  refine nt' ?_
  refine CM_ret ?_
  refine QM_then_ret ?_
  exact QM_ret1 rfl rfl (fun W hm => ⟨ret_b (show laws_FnExactRowsAt_m x0 x1 = true from by unfold laws_FnExactRowsAt_m; exact cond_t g10 (rfl)), hm.below⟩)
 ·have g10 : (decide ((laws_szStore_m x0 1048576) < 0)) = false := decide_eq_false h9
  obtain ⟨hz0, hy0, hw0⟩ := sz_small laws_szStore_ok ok0 (by omega) (by omega) g10
  refine CM_condF rfl g10 ?_
  refine CM_skip ?_
  refine QM_then ?_
  refine sr ?_
  refine wv (fun W hm => rv_loadN (cs := [.slice A4 x0.Segments.length c5, .int .i64 x0.Now]) Try.underlying41 Try.type41 rfl rfl (hm.boxCells (n := 0) rfl)) ?_
  refine WM_call (χ := List Value) (val := fun x => .agg x.toArray) (js := fun x => [iOwn tyStore x (laws_toStore_m x0)]) (cl_fn cb28 rfl) (fun W hm => laws_toStore_c W _ x0 (tyLStore_mk (x := x0) (hm.rdS0 r7)) (smStore_wt (by omega))) (Wd_none rfl) (by decide) (fun z11 => ?_)
  refine WM_split (γ := Value) (js := fun g => [iOwn (tSl (tSl tyVersion 102) 100) [g] ((laws_toStore_m x0).Segments)]) (C := fun g => z11 = [g, .int .i64 ((laws_toStore_m x0).Now)]) (fun _ _ h => tyStore_split h) ?_
  rintro v12 rfl
  refine WM_form (n := 0) rfl ?_
  rintro A13 c14 rfl m15
  refine wm ?_
  refine WM_call (χ := Value) (val := fun x => x) (js := fun x => [iOwn (tSl tyRow 69) [x] (spec_RowsAt_m (laws_toStore_m x0) x1)]) (cl_fn cb54 rfl) (fun W hm => spec_RowsAt_c W _ (laws_toStore_m x0) x1 (tyStore_mk (x := (laws_toStore_m x0)) (hm.rdSI (n := 0) rfl)) (by rw [laws_toStore_eq]; exact (smStore_wt (by omega)))) (Wd_none rfl) (by decide) (fun z17 => ?_)
  refine WM_form (n := 0) rfl ?_
  rintro A18 c19 rfl m20
  refine wa ?_
  refine nt' ?_
  refine sr ?_
  refine wv (fun W hm => rv_loadN (cs := [.slice A4 x0.Segments.length c5, .int .i64 x0.Now]) Try.underlying41 Try.type41 rfl rfl (hm.boxCells (n := 2) rfl)) ?_
  refine WM_call (χ := List Value) (val := fun x => .agg x.toArray) (js := fun x => [iOwn tyStore x (laws_toStore_m x0)]) (cl_fn cb28 rfl) (fun W hm => laws_toStore_c W _ x0 (tyLStore_mk (x := x0) (hm.rdS0 r7)) (smStore_wt (by omega))) (Wd_none rfl) (by decide) (fun z22 => ?_)
  refine WM_split (γ := Value) (js := fun g => [iOwn (tSl (tSl tyVersion 102) 100) [g] ((laws_toStore_m x0).Segments)]) (C := fun g => z22 = [g, .int .i64 ((laws_toStore_m x0).Now)]) (fun _ _ h => tyStore_split h) ?_
  rintro v23 rfl
  refine WM_form (n := 0) rfl ?_
  rintro A24 c25 rfl m26
  refine WM_alloc Try.type45 rfl (Wd_none rfl) (by decide) (fun p28 => ?_)
  refine WM_storeBox (p := p28) (o := 0) (cs' := [.slice A24 ((laws_toStore_m x0).Segments).length c25, .int .i64 ((laws_toStore_m x0).Now)]) (js := [iOwn (tSl (tSl tyVersion 102) 100) [.slice A24 ((laws_toStore_m x0).Segments).length c25] ((laws_toStore_m x0).Segments), iOwn (tSl tyRow 69) [.slice A18 (spec_RowsAt_m (laws_toStore_m x0) x1).length c19] (spec_RowsAt_m (laws_toStore_m x0) x1), iOwn (tSl (tSl tyVersion 102) 100) [.slice A13 ((laws_toStore_m x0).Segments).length c14] ((laws_toStore_m x0).Segments), iBox p8 41 [.slice A4 x0.Segments.length c5, .int .i64 x0.Now]]) (fun W hm => hm) Try.type45 rfl (Nat.le_of_ble_eq_true rfl) rfl rfl rfl rfl (Wd_none rfl) ?_
  refine nt' ?_
  refine sr ?_
  refine wv (fun W hm => rv_loadN (cs := [.slice A24 ((laws_toStore_m x0).Segments).length c25, .int .i64 ((laws_toStore_m x0).Now)]) Try.underlying45 Try.type45 rfl rfl (hm.boxCells (n := 0) rfl)) ?_
  refine wm ?_
  refine WM_call (χ := Value) (val := fun x => x) (js := fun x => [iOwn (tSl tyRow 69) [x] (impl_RowsAt_m (laws_toStore_m x0) x1)]) (cl_fn cb55 rfl) (fun W hm => impl_RowsAt_c W _ (laws_toStore_m x0) x1 (tyStore_mk (x := (laws_toStore_m x0)) (hm.rdSI (n := 1) rfl)) (by rw [laws_toStore_eq]; exact (smStore_wt (by omega)))) (Wd_none rfl) (by decide) (fun z29 => ?_)
  refine WM_form (n := 0) rfl ?_
  rintro A30 c31 rfl m32
  refine wa ?_
  refine nt' ?_
  refine CM_seq ?_
  refine sr ?_
  refine wm ?_
  refine wm ?_
  refine WM_callV (cl_fn cb15 rfl) (fun W hm => laws_eqRowS_c W _ (impl_RowsAt_m (laws_toStore_m x0) x1) _ (spec_RowsAt_m (laws_toStore_m x0) x1) (hm.rdSI (n := 0) rfl) (hm.rdSI (n := 3) rfl)) (Wd_none rfl) (by decide) ?_
  refine wv (fun W hm => rv_not rfl) ?_
  refine nt' ?_
  rcases Bool.eq_false_or_eq_true (laws_eqRowS_m (impl_RowsAt_m (laws_toStore_m x0) x1) (spec_RowsAt_m (laws_toStore_m x0) x1)) with g35 | g35
  ·
   refine CM_condF rfl (nt g35) ?_
   refine CM_skip ?_
   refine QM_then ?_
   refine CM_seq ?_
   refine CM_seq ?_
   refine rb 5 (s := [iOwn (tSl tyRow 69) [.slice A30 (impl_RowsAt_m (laws_toStore_m x0) x1).length c31] (impl_RowsAt_m (laws_toStore_m x0) x1), iBox p28 45 [.slice A24 ((laws_toStore_m x0).Segments).length c25, .int .i64 ((laws_toStore_m x0).Now)], iOwn (tSl (tSl tyVersion 102) 100) [.slice A24 ((laws_toStore_m x0).Segments).length c25] ((laws_toStore_m x0).Segments), iOwn (tSl tyRow 69) [.slice A18 (spec_RowsAt_m (laws_toStore_m x0) x1).length c19] (spec_RowsAt_m (laws_toStore_m x0) x1), iOwn (tSl (tSl tyVersion 102) 100) [.slice A13 ((laws_toStore_m x0).Segments).length c14] ((laws_toStore_m x0).Segments), iBox p8 41 [.slice A4 x0.Segments.length c5, .int .i64 x0.Now]]) (fun W hm => hm) ?_
   refine qt 5 0 1 rfl (fun W hm => rv_loadN (cs := [.slice A24 ((laws_toStore_m x0).Segments).length c25, .int .i64 ((laws_toStore_m x0).Now)]) Try.underlying45 Try.type45 rfl rfl (hm.boxCells (n := 1) rfl)) ?_
   refine qt 5 1 3 rfl (fun W hm => rv_loadN (cs := [.slice A4 x0.Segments.length c5, .int .i64 x0.Now]) Try.underlying41 Try.type41 rfl rfl (hm.boxCells (n := 5) rfl)) ?_
   refine qo 5 2 7 rfl ?_
   refine WM_call (χ := List Value) (val := fun x => .agg x.toArray) (js := fun x => [iOwn tyStore x (laws_toStore_m x0)]) (cl_fn cb28 rfl) (fun W hm => laws_toStore_c W _ x0 (tyLStore_mk (x := x0) (hm.rdS0 r7)) (smStore_wt (by omega))) (Wd_none rfl) (by decide) (fun z36 => ?_)
   refine WM_split (γ := Value) (js := fun g => [iOwn (tSl (tSl tyVersion 102) 100) [g] ((laws_toStore_m x0).Segments)]) (C := fun g => z36 = [g, .int .i64 ((laws_toStore_m x0).Now)]) (fun _ _ h => tyStore_split h) ?_
   rintro v37 rfl
   refine WM_form (n := 0) rfl ?_
   rintro A38 c39 rfl m40
   refine qn (fun W hm => (hm.pick [1, 2, 3, 4, 5, 6] (by decide))) ?_
   refine qo 5 3 15 rfl ?_
   refine WM_callV (cl_fn cb30 rfl) (fun W hm => laws_eqStore_c W _ (laws_toStore_m x0) _ (laws_toStore_m x0) (tyStore_mk (x := (laws_toStore_m x0)) (hm.rdSI (n := 3) rfl)) (tyStore_mk (x := (laws_toStore_m x0)) (hm.rdSI (n := 0) rfl))) (Wd_none rfl) (by decide) ?_
   refine qn (fun W hm => (hm.pick [1, 2, 3, 4, 5, 6] (by decide))) ?_
   refine qt 5 4 31 rfl (fun W hm => rv_not rfl) ?_
   refine QB_done (by kernel_rfl) ?_
   refine QM_then ?_
   rcases Bool.eq_false_or_eq_true (laws_eqStore_m (laws_toStore_m x0) (laws_toStore_m x0)) with g43 | g43
   ·
    refine CM_condF rfl (nt g43) ?_
    refine CM_skip ?_
    refine QM_then ?_
    refine sr ?_
    refine wa ?_
    refine nt' ?_
    refine sr ?_
    refine wv (fun W hm => rv_loadN (cs := [.slice A24 ((laws_toStore_m x0).Segments).length c25, .int .i64 ((laws_toStore_m x0).Now)]) Try.underlying45 Try.type45 rfl rfl (hm.boxCells (n := 2) rfl)) ?_
    refine wm ?_
    refine WM_items (js := (iOwn tyStore [.slice A24 ((laws_toStore_m x0).Segments).length c25, .int .i64 ((laws_toStore_m x0).Now)] (laws_toStore_m x0) :: [iOwn (tSl (tSl tyVersion 102) 100) [.slice A38 ((laws_toStore_m x0).Segments).length c39] ((laws_toStore_m x0).Segments), iOwn (tSl tyRow 69) [.slice A30 (impl_RowsAt_m (laws_toStore_m x0) x1).length c31] (impl_RowsAt_m (laws_toStore_m x0) x1), iBox p28 45 [.slice A24 ((laws_toStore_m x0).Segments).length c25, .int .i64 ((laws_toStore_m x0).Now)], iOwn (tSl tyRow 69) [.slice A18 (spec_RowsAt_m (laws_toStore_m x0) x1).length c19] (spec_RowsAt_m (laws_toStore_m x0) x1), iOwn (tSl (tSl tyVersion 102) 100) [.slice A13 ((laws_toStore_m x0).Segments).length c14] ((laws_toStore_m x0).Segments), iBox p8 41 [.slice A4 x0.Segments.length c5, .int .i64 x0.Now]])) (fun W hm => Mem.join (is := [iOwn (tSl (tSl tyVersion 102) 100) [.slice A24 ((laws_toStore_m x0).Segments).length c25] ((laws_toStore_m x0).Segments)]) (js := [iOwn (tSl (tSl tyVersion 102) 100) [.slice A38 ((laws_toStore_m x0).Segments).length c39] ((laws_toStore_m x0).Segments), iOwn (tSl tyRow 69) [.slice A30 (impl_RowsAt_m (laws_toStore_m x0) x1).length c31] (impl_RowsAt_m (laws_toStore_m x0) x1), iBox p28 45 [.slice A24 ((laws_toStore_m x0).Segments).length c25, .int .i64 ((laws_toStore_m x0).Now)], iOwn (tSl tyRow 69) [.slice A18 (spec_RowsAt_m (laws_toStore_m x0) x1).length c19] (spec_RowsAt_m (laws_toStore_m x0) x1), iOwn (tSl (tSl tyVersion 102) 100) [.slice A13 ((laws_toStore_m x0).Segments).length c14] ((laws_toStore_m x0).Segments), iBox p8 41 [.slice A4 x0.Segments.length c5, .int .i64 x0.Now]]) (fun _ _ hs => tyStore_join (x := (laws_toStore_m x0)) hs) (hm.pick [3, 0, 1, 2, 4, 5, 6] (by decide))) ?_
    refine WM_callW (χ := Unit) (val := fun _ => .int .i64 (laws_markStore_m (laws_toStore_m x0) 1).1) (js := fun _ => (iOwn tyStore [.slice A24 ((laws_toStore_m x0).Segments).length c25, .int .i64 ((laws_toStore_m x0).Now)] (laws_markStore_m (laws_toStore_m x0) 1).2 :: [iOwn (tSl (tSl tyVersion 102) 100) [.slice A38 ((laws_toStore_m x0).Segments).length c39] ((laws_toStore_m x0).Segments), iOwn (tSl tyRow 69) [.slice A30 (impl_RowsAt_m (laws_toStore_m x0) x1).length c31] (impl_RowsAt_m (laws_toStore_m x0) x1), iBox p28 45 [.slice A24 ((laws_toStore_m x0).Segments).length c25, .int .i64 ((laws_toStore_m x0).Now)], iOwn (tSl tyRow 69) [.slice A18 (spec_RowsAt_m (laws_toStore_m x0) x1).length c19] (spec_RowsAt_m (laws_toStore_m x0) x1), iOwn (tSl (tSl tyVersion 102) 100) [.slice A13 ((laws_toStore_m x0).Segments).length c14] ((laws_toStore_m x0).Segments), iBox p8 41 [.slice A4 x0.Segments.length c5, .int .i64 x0.Now]])) (cl_fn cb31 rfl) (fun W hm => (laws_markStore_c w.heap.size w [iOwn (tSl (tSl tyVersion 102) 100) [.slice A38 ((laws_toStore_m x0).Segments).length c39] ((laws_toStore_m x0).Segments), iOwn (tSl tyRow 69) [.slice A30 (impl_RowsAt_m (laws_toStore_m x0) x1).length c31] (impl_RowsAt_m (laws_toStore_m x0) x1), iBox p28 45 [.slice A24 ((laws_toStore_m x0).Segments).length c25, .int .i64 ((laws_toStore_m x0).Now)], iOwn (tSl tyRow 69) [.slice A18 (spec_RowsAt_m (laws_toStore_m x0) x1).length c19] (spec_RowsAt_m (laws_toStore_m x0) x1), iOwn (tSl (tSl tyVersion 102) 100) [.slice A13 ((laws_toStore_m x0).Segments).length c14] ((laws_toStore_m x0).Segments), iBox p8 41 [.slice A4 x0.Segments.length c5, .int .i64 x0.Now]] W [.slice A24 ((laws_toStore_m x0).Segments).length c25, .int .i64 ((laws_toStore_m x0).Now)] (laws_toStore_m x0) 1 hm).mono (fun _ _ h => ⟨(), h.1, h.2⟩)) (Wd_none rfl) (by decide) (fun _ => ?_)
    refine WM_split (γ := Value) (js := fun g => [iOwn (tSl (tSl tyVersion 102) 100) [g] ((laws_markStore_m (laws_toStore_m x0) 1).2.Segments)]) (C := fun g => [.slice A24 ((laws_toStore_m x0).Segments).length c25, .int .i64 ((laws_toStore_m x0).Now)] = [g, .int .i64 ((laws_markStore_m (laws_toStore_m x0) 1).2.Now)]) (fun _ _ h => tyStore_split h) ?_
    rintro v45 h44
    simp only [List.cons.injEq] at h44
    obtain ⟨rfl, -, -⟩ := h44
    refine wa ?_
    refine nt' ?_
    refine CM_seq ?_
    refine CM_seq ?_
    refine CM_items (fun W hm => (hm.pick [2, 4, 6] (by decide))) ?_
    refine CM_region ?_
    refine wm ?_
    refine wv (fun W hm => rv_lss rfl rfl) ?_
    refine wm ?_
    by_cases h46 : ((laws_markStore_m (laws_toStore_m x0) 1).1) < 0
    ·have g47 : (decide (((laws_markStore_m (laws_toStore_m x0) 1).1) < 0)) = true := decide_eq_true h46
     refine ws g47 ?_
     refine ws g47 ?_
     refine ws g47 ?_
     refine ws g47 ?_
     refine wv (fun W hm => rv_pickT rfl g47 rfl) ?_
     refine nt' ?_
     refine CM_condT rfl rfl ?_
     refine sr ?_
     refine wa ?_
     refine nt' ?_
     refine CM_ret ?_
     refine QM_then_ret ?_
     exact QM_ret1 rfl rfl (fun W hm => ⟨ret_b (show laws_FnExactRowsAt_m x0 x1 = false from by unfold laws_FnExactRowsAt_m; exact cond_f g10 (cond_t g35 (cond_t g43 (cond_t g47 (rfl))))), hm.below⟩)
    ·have g47 : (decide (((laws_markStore_m (laws_toStore_m x0) 1).1) < 0)) = false := decide_eq_false h46
     refine wg (fun W hm => rv_move rfl) g47 ?_
     refine wg (fun W hm => rv_move rfl) g47 ?_
     refine WM_callV (cl_fn cb15 rfl) (fun W hm => laws_eqRowS_c W _ (impl_RowsAt_m (laws_toStore_m x0) x1) _ (spec_RowsAt_m (laws_toStore_m x0) x1) (hm.rdSI (n := 0) rfl) (hm.rdSI (n := 1) rfl)) (Wd_some rfl rfl rfl (bw g47 rfl)) (by decide) ?_
     refine wg (fun W hm => rv_not rfl) g47 ?_
     refine wv (fun W hm => rv_pickF rfl g47 rfl) ?_
     refine nt' ?_
     refine CM_condF rfl (nt g35) ?_
     refine CM_skip ?_
     refine QM_then ?_
     refine sr ?_
     refine wa ?_
     refine nt' ?_
     refine sr ?_
     refine wm ?_
     refine wm ?_
     refine WM_callW (χ := Unit) (val := fun _ => .int .i64 (laws_markRowS_m (impl_RowsAt_m (laws_toStore_m x0) x1) 1).1) (js := fun _ => (iOwn (tSl tyRow 69) [.slice A30 (impl_RowsAt_m (laws_toStore_m x0) x1).length c31] (laws_markRowS_m (impl_RowsAt_m (laws_toStore_m x0) x1) 1).2 :: [iOwn (tSl tyRow 69) [.slice A18 (spec_RowsAt_m (laws_toStore_m x0) x1).length c19] (spec_RowsAt_m (laws_toStore_m x0) x1), iBox p8 41 [.slice A4 x0.Segments.length c5, .int .i64 x0.Now]])) (cl_fn cb18 rfl) (fun W hm => (laws_markRowS_c w.heap.size w [iOwn (tSl tyRow 69) [.slice A18 (spec_RowsAt_m (laws_toStore_m x0) x1).length c19] (spec_RowsAt_m (laws_toStore_m x0) x1), iBox p8 41 [.slice A4 x0.Segments.length c5, .int .i64 x0.Now]] W (.slice A30 (impl_RowsAt_m (laws_toStore_m x0) x1).length c31) (impl_RowsAt_m (laws_toStore_m x0) x1) 1 hm).mono (fun _ _ h => ⟨(), h.1, h.2⟩)) (Wd_none rfl) (by decide) (fun _ => ?_)
     refine wa ?_
     refine nt' ?_
     refine sr ?_
     refine wa ?_
     refine nt' ?_
     refine sr ?_
     refine wm ?_
     refine wm ?_
     refine WM_callV (cl_fn cb19 rfl) (fun W hm => laws_heldRowS_c W _ ((laws_markRowS_m (impl_RowsAt_m (laws_toStore_m x0) x1) 1).2) 1 (hm.rdSI (n := 0) rfl)) (Wd_none rfl) (by decide) ?_
     refine wa ?_
     refine nt' ?_
     refine CM_seq ?_
     refine sr ?_
     refine wm ?_
     refine wv (fun W hm => rv_lss rfl rfl) ?_
     refine nt' ?_
     by_cases h48 : (laws_heldRowS_m ((laws_markRowS_m (impl_RowsAt_m (laws_toStore_m x0) x1) 1).2) 1) < 0
     ·have g49 : (decide ((laws_heldRowS_m ((laws_markRowS_m (impl_RowsAt_m (laws_toStore_m x0) x1) 1).2) 1) < 0)) = true := decide_eq_true h48
      refine CM_condT rfl g49 ?_
      refine sr ?_
      refine wa ?_
      refine nt' ?_
      refine CM_ret ?_
      refine QM_then_ret ?_
      exact QM_ret1 rfl rfl (fun W hm => ⟨ret_b (show laws_FnExactRowsAt_m x0 x1 = false from by unfold laws_FnExactRowsAt_m; exact cond_f g10 (cond_t g35 (cond_t g43 (cond_f g47 (cond_t g49 (rfl)))))), hm.below⟩)
     ·have g49 : (decide ((laws_heldRowS_m ((laws_markRowS_m (impl_RowsAt_m (laws_toStore_m x0) x1) 1).2) 1) < 0)) = false := decide_eq_false h48
      refine CM_condF rfl g49 ?_
      refine CM_skip ?_
      refine QM_then ?_
      refine CM_seq ?_
      refine sr ?_
      refine wm ?_
      refine wm ?_
      refine wv (fun W hm => rv_neq rfl rfl) ?_
      refine nt' ?_
      by_cases h50 : (laws_heldRowS_m ((laws_markRowS_m (impl_RowsAt_m (laws_toStore_m x0) x1) 1).2) 1) = ((laws_markRowS_m (impl_RowsAt_m (laws_toStore_m x0) x1) 1).1)
      ·have g51 : ((laws_heldRowS_m ((laws_markRowS_m (impl_RowsAt_m (laws_toStore_m x0) x1) 1).2) 1) != ((laws_markRowS_m (impl_RowsAt_m (laws_toStore_m x0) x1) 1).1)) = false := by rw [h50]; exact bne_self_eq_false _
       refine CM_condF rfl g51 ?_
       refine CM_skip ?_
       refine QM_then ?_
       refine sr ?_
       refine wv (fun W hm => rv_loadN (cs := [.slice A4 x0.Segments.length c5, .int .i64 x0.Now]) Try.underlying41 Try.type41 rfl rfl (hm.boxCells (n := 2) rfl)) ?_
       refine WM_call (χ := List Value) (val := fun x => .agg x.toArray) (js := fun x => [iOwn tyStore x (laws_toStore_m x0)]) (cl_fn cb28 rfl) (fun W hm => laws_toStore_c W _ x0 (tyLStore_mk (x := x0) (hm.rdS0 r7)) (smStore_wt (by omega))) (Wd_none rfl) (by decide) (fun z52 => ?_)
       refine WM_split (γ := Value) (js := fun g => [iOwn (tSl (tSl tyVersion 102) 100) [g] ((laws_toStore_m x0).Segments)]) (C := fun g => z52 = [g, .int .i64 ((laws_toStore_m x0).Now)]) (fun _ _ h => tyStore_split h) ?_
       rintro v53 rfl
       refine WM_form (n := 0) rfl ?_
       rintro A54 c55 rfl m56
       refine wm ?_
       refine WM_call (χ := Value) (val := fun x => x) (js := fun x => [iOwn (tSl tyRow 69) [x] (impl_RowsAt_m (laws_toStore_m x0) x1)]) (cl_fn cb55 rfl) (fun W hm => impl_RowsAt_c W _ (laws_toStore_m x0) x1 (tyStore_mk (x := (laws_toStore_m x0)) (hm.rdSI (n := 0) rfl)) (by rw [laws_toStore_eq]; exact (smStore_wt (by omega)))) (Wd_none rfl) (by decide) (fun z58 => ?_)
       refine WM_form (n := 0) rfl ?_
       rintro A59 c60 rfl m61
       refine wa ?_
       refine nt' ?_
       refine CM_seq ?_
       refine sr ?_
       refine wm ?_
       refine wm ?_
       refine WM_callV (cl_fn cb15 rfl) (fun W hm => laws_eqRowS_c W _ (impl_RowsAt_m (laws_toStore_m x0) x1) _ (spec_RowsAt_m (laws_toStore_m x0) x1) (hm.rdSI (n := 0) rfl) (hm.rdSI (n := 3) rfl)) (Wd_none rfl) (by decide) ?_
       refine wv (fun W hm => rv_not rfl) ?_
       refine nt' ?_
       refine CM_condF rfl (nt g35) ?_
       refine CM_skip ?_
       refine QM_then ?_
       refine CM_seq ?_
       refine CM_items (fun W hm => (hm.pick [2] (by decide))) ?_
       refine CM_region ?_
       refine wa ?_
       refine nt' ?_
       refine sr ?_
       refine wm ?_
       refine wm ?_
       refine WM_callV (cl_fn cb19 rfl) (fun W hm => laws_heldRowS_c W _ ((laws_markRowS_m (impl_RowsAt_m (laws_toStore_m x0) x1) 1).2) 1 (hm.rdSI (n := 0) rfl)) (Wd_none rfl) (by decide) ?_
       refine wa ?_
       refine nt' ?_
       refine CM_seq ?_
       refine sr ?_
       refine wm ?_
       refine wv (fun W hm => rv_lss rfl rfl) ?_
       refine nt' ?_
       refine CM_condF rfl g49 ?_
       refine CM_skip ?_
       refine QM_then ?_
       refine CM_seq ?_
       refine sr ?_
       refine wm ?_
       refine wm ?_
       refine wv (fun W hm => rv_neq rfl rfl) ?_
       refine nt' ?_
       refine CM_condF rfl g51 ?_
       refine CM_skip ?_
       refine QM_then ?_
       refine sr ?_
       refine wa ?_
       refine nt' ?_
       refine CM_ret ?_
       exact QM_ret1 rfl rfl (fun W hm => ⟨ret_b (show laws_FnExactRowsAt_m x0 x1 = true from by unfold laws_FnExactRowsAt_m; exact cond_f g10 (cond_t g35 (cond_t g43 (cond_f g47 (cond_f g49 (cond_f g51 (rfl))))))), hm.below⟩)
      ·have g51 : ((laws_heldRowS_m ((laws_markRowS_m (impl_RowsAt_m (laws_toStore_m x0) x1) 1).2) 1) != ((laws_markRowS_m (impl_RowsAt_m (laws_toStore_m x0) x1) 1).1)) = true := bne_iff_ne.2 h50
       refine CM_condT rfl g51 ?_
       refine sr ?_
       refine wa ?_
       refine nt' ?_
       refine CM_ret ?_
       refine QM_then_ret ?_
       exact QM_ret1 rfl rfl (fun W hm => ⟨ret_b (show laws_FnExactRowsAt_m x0 x1 = false from by unfold laws_FnExactRowsAt_m; exact cond_f g10 (cond_t g35 (cond_t g43 (cond_f g47 (cond_f g49 (cond_t g51 (rfl))))))), hm.below⟩)
   ·
    refine CM_condT rfl (nf g43) ?_
    refine CM_seq ?_
    refine CM_items (fun W hm => (hm.pick [] (by decide))) ?_
    refine CM_region ?_
    refine wa ?_
    refine nt' ?_
    refine CM_ret ?_
    refine QM_then_ret ?_
    exact QM_ret1 rfl rfl (fun W hm => ⟨ret_b (show laws_FnExactRowsAt_m x0 x1 = false from by unfold laws_FnExactRowsAt_m; exact cond_f g10 (cond_t g35 (cond_f g43 (rfl)))), hm.below⟩)
  ·
   refine CM_condT rfl (nf g35) ?_
   refine CM_seq ?_
   refine CM_items (fun W hm => (hm.pick [] (by decide))) ?_
   refine CM_region ?_
   refine wa ?_
   refine nt' ?_
   refine CM_ret ?_
   refine QM_then_ret ?_
   exact QM_ret1 rfl rfl (fun W hm => ⟨ret_b (show laws_FnExactRowsAt_m x0 x1 = false from by unfold laws_FnExactRowsAt_m; exact cond_f g10 (cond_f g35 (rfl))), hm.below⟩)

end Go.Proofs.Ytjcdginailhfmaa
