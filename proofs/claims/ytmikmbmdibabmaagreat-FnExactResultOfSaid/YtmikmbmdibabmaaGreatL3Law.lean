/-
  The contract of the law.
-/
import Derived.Test.YtmikmbmdibabmaaGreatL3Pl
namespace Go.Proofs.YtmikmbmdibabmaaGreat
open Go.RowKit
set_option maxRecDepth 100000
set_option maxHeartbeats 4000000
open _root_.Go.Proofs.Tryz
def laws_FnExactResultOf_m (x0 : DEngine) (x1 : Int) : Bool :=
 cond (decide ((laws_szEngine_m x0 1048576) < 0)) true (cond (laws_eqFinished_m ((impl_ResultOf_m (laws_toEngine_m x0) x1).1) ((spec_ResultOf_m (laws_toEngine_m x0) x1).1)) (cond ((impl_ResultOf_m (laws_toEngine_m x0) x1).2 != (spec_ResultOf_m (laws_toEngine_m x0) x1).2) false (cond (laws_eqEngine_m (laws_toEngine_m x0) (laws_toEngine_m x0)) (cond (decide (((laws_markEngine_m (laws_toEngine_m x0) 1).1) < 0)) false (cond (decide ((laws_heldFinished_m (⟨(⟨((impl_ResultOf_m (laws_toEngine_m x0) x1).1).Query.Id, ((impl_ResultOf_m (laws_toEngine_m x0) x1).1).Query.Tenant, (laws_markFinished_m ((impl_ResultOf_m (laws_toEngine_m x0) x1).1) 1).2.Query.Conds, (laws_markFinished_m ((impl_ResultOf_m (laws_toEngine_m x0) x1).1) 1).2.Query.Out⟩ : DQuery), ((impl_ResultOf_m (laws_toEngine_m x0) x1).1).Time, ((impl_ResultOf_m (laws_toEngine_m x0) x1).1).Steps, (laws_markFinished_m ((impl_ResultOf_m (laws_toEngine_m x0) x1).1) 1).2.Rows⟩ : DFinished) 1) < 0)) false (cond ((laws_heldFinished_m (⟨(⟨((impl_ResultOf_m (laws_toEngine_m x0) x1).1).Query.Id, ((impl_ResultOf_m (laws_toEngine_m x0) x1).1).Query.Tenant, (laws_markFinished_m ((impl_ResultOf_m (laws_toEngine_m x0) x1).1) 1).2.Query.Conds, (laws_markFinished_m ((impl_ResultOf_m (laws_toEngine_m x0) x1).1) 1).2.Query.Out⟩ : DQuery), ((impl_ResultOf_m (laws_toEngine_m x0) x1).1).Time, ((impl_ResultOf_m (laws_toEngine_m x0) x1).1).Steps, (laws_markFinished_m ((impl_ResultOf_m (laws_toEngine_m x0) x1).1) 1).2.Rows⟩ : DFinished) 1) != ((laws_markFinished_m ((impl_ResultOf_m (laws_toEngine_m x0) x1).1) 1).1)) false true))) false)) false)
theorem cb3 : Cb Tryz.prog 3 := ⟨f3, _, func3, rfl, by decide⟩
theorem laws_FnExactResultOf_c (w : World) (z0 : List Value) (x0 : DEngine) (x1 : Int) (r_0 : tyLEngine.rd w w.heap.size z0 x0) :
  Calls Tryz.prog 3 #[.agg z0.toArray, .int .i64 x1] w fun e w' => e = .returned (.bool (laws_FnExactResultOf_m x0 x1)) ∧ Below w.heap.size w w' := by
 have ok0 := (tyLEngine_sm r_0)
 obtain ⟨v1, v3, v5, v7, v9, rfl, r2, r4, r6, r8, r10⟩ := tyLEngine_rd r_0
 have r15 := r2
 obtain ⟨m11, A12, c13, rfl, q14⟩ := r2
 have r20 := r4
 obtain ⟨m16, A17, c18, rfl, q19⟩ := r4
 have r25 := r6
 obtain ⟨m21, A22, c23, rfl, q24⟩ := r6
 have r30 := r8
 obtain ⟨m26, A27, c28, rfl, q29⟩ := r8
 have r35 := r10
 obtain ⟨m31, A32, c33, rfl, q34⟩ := r10
 refine ce2 (L := [(0, .agg #[.slice A12 x0.Store.Segments.length c13, .int .i64 x0.Store.Now, .int .i64 x0.Cursor, .slice A17 x0.Order.length c18, .slice A22 x0.Active.length c23, .slice A27 x0.Done.length c28, .slice A32 x0.Ledger.length c33, .int .i64 x0.Steps]), (1, .int .i64 x1)]) (N := 101) func3 ?_
 refine sr ?_
 refine WM_box rfl (Wd_none rfl) (by decide) (fun p36 => ?_)
 refine wa (nt' (sr (wa (nt' (sr ?_)))))
 let K1 : List Value := [.slice A12 x0.Store.Segments.length c13, .int .i64 x0.Store.Now, .int .i64 x0.Cursor, .slice A17 x0.Order.length c18, .slice A22 x0.Active.length c23, .slice A27 x0.Done.length c28, .slice A32 x0.Ledger.length c33, .int .i64 x0.Steps]
 refine wv (fun W hm => rv_loadN (cs := K1) underlying30 type30 rfl rfl (hm.boxCells (n := 0) rfl)) ?_
 refine wm ?_
 refine wcv (cl_fn cb14 rfl) (fun W hm => laws_szEngine_c W _ x0 1048576 (tyLEngine_mk (x := x0) (hm.rdS0 r15) (hm.rdS0 r20) (hm.rdS0 r25) (hm.rdS0 r30) (hm.rdS0 r35))) ?_
 refine wa (nt' (CM_seq (sr (wm ?_))))
 refine wv vlss ?_
 refine nt' ?_
 by_cases h37 : (laws_szEngine_m x0 1048576) < 0
 ·have g38 : (decide ((laws_szEngine_m x0 1048576) < 0)) = true := decide_eq_true h37
  refine CM_condT rfl g38 ?_
  refine sr (wa (nt' (CM_ret (QM_then_ret ?_))))
  exact rtb (h := by unfold laws_FnExactResultOf_m; exact cond_t g38 (rfl))
 ·have g38 : (decide ((laws_szEngine_m x0 1048576) < 0)) = false := decide_eq_false h37
  obtain ⟨hz0, hy0, hw0⟩ := sz_small laws_szEngine_ok ok0 (by omega) (by omega) g38
  refine CM_condF rfl g38 ?_
  refine CM_skip (QM_then (sr ?_))
  refine wv (fun W hm => rv_loadN (cs := K1) underlying30 type30 rfl rfl (hm.boxCells (n := 0) rfl)) ?_
  refine wcs tyEngine (laws_toEngine_m x0) (cl_fn cb16 rfl) (fun W hm => laws_toEngine_c W _ x0 (tyLEngine_mk (x := x0) (hm.rdS0 r15) (hm.rdS0 r20) (hm.rdS0 r25) (hm.rdS0 r30) (hm.rdS0 r35)) (smEngine_wt (by omega))) (fun z39 => ?_)
  refine tyEngine_sp ?_
  rintro ⟨v40, v41, v42, v43, v44⟩ rfl
  refine WM_form (n := 0) rfl ?_
  rintro A45 c46 rfl m47
  refine WM_form (n := 1) rfl ?_
  rintro A49 c50 rfl m51
  refine WM_form (n := 2) rfl ?_
  rintro A53 c54 rfl m55
  refine WM_form (n := 3) rfl ?_
  rintro A57 c58 rfl m59
  refine WM_form (n := 4) rfl ?_
  rintro A61 c62 rfl m63
  refine wm ?_
  refine WM_call (χ := List Value) (val := fun x => .tuple #[.agg x.toArray, .bool ((spec_ResultOf_m (laws_toEngine_m x0) x1).2)]) (js := fun x => [iOwn tyFinished x ((spec_ResultOf_m (laws_toEngine_m x0) x1).1)]) (cl_fn cb15 rfl) (fun W hm => spec_ResultOf_c W _ (laws_toEngine_m x0) x1 (tyEngine_mk (x := (laws_toEngine_m x0)) (hm.rdSI (n := 0) rfl) (hm.rdSI (n := 1) rfl) (hm.rdSI (n := 2) rfl) (hm.rdSI (n := 3) rfl) (hm.rdSI (n := 4) rfl)) (by rw [laws_toEngine_eq]; exact (smEngine_wt (by omega)))) (Wd_none rfl) (by decide) (fun z65 => ?_)
  refine tyFinished_sp ?_
  rintro ⟨v66, v67, v68⟩ rfl
  refine WM_form (n := 0) rfl ?_
  rintro A69 c70 rfl m71
  refine WM_form (n := 1) rfl ?_
  rintro A73 c74 rfl m75
  refine WM_form (n := 2) rfl ?_
  rintro A77 c78 rfl m79
  refine wm ?_
  refine wv (fun W hm => rv_extract rfl rfl) ?_
  refine wv (fun W hm => rv_extract rfl rfl) ?_
  refine WM_alloc type37 rfl (Wd_none rfl) (by decide) (fun p81 => ?_)
  let K2 : List Value := [.int .i64 (((spec_ResultOf_m (laws_toEngine_m x0) x1).1).Query.Id), .int .i64 (((spec_ResultOf_m (laws_toEngine_m x0) x1).1).Query.Tenant), .slice A69 (((spec_ResultOf_m (laws_toEngine_m x0) x1).1).Query.Conds).length c70, .slice A73 (((spec_ResultOf_m (laws_toEngine_m x0) x1).1).Query.Out).length c74, .int .i64 (((spec_ResultOf_m (laws_toEngine_m x0) x1).1).Time), .int .i64 (((spec_ResultOf_m (laws_toEngine_m x0) x1).1).Steps), .slice A77 (((spec_ResultOf_m (laws_toEngine_m x0) x1).1).Rows).length c78]
  let K3 : List Value := [.slice A69 (((spec_ResultOf_m (laws_toEngine_m x0) x1).1).Query.Conds).length c70]
  let K4 : List Value := [.slice A73 (((spec_ResultOf_m (laws_toEngine_m x0) x1).1).Query.Out).length c74]
  let K5 : List Value := [.slice A77 (((spec_ResultOf_m (laws_toEngine_m x0) x1).1).Rows).length c78]
  let I13 : It := iOwn (tSl tyCond 201) K3 (((spec_ResultOf_m (laws_toEngine_m x0) x1).1).Query.Conds)
  let I14 : It := iOwn (tSl tInt 3) K4 (((spec_ResultOf_m (laws_toEngine_m x0) x1).1).Query.Out)
  let I15 : It := iOwn (tSl tyRow 73) K5 (((spec_ResultOf_m (laws_toEngine_m x0) x1).1).Rows)
  refine sb 0 K2 [I13, I14, I15, iOwn (tSl (tSl tyVersion 191) 131) [.slice A45 ((laws_toEngine_m x0).Store.Segments).length c46] ((laws_toEngine_m x0).Store.Segments), iOwn (tSl tInt 3) [.slice A49 ((laws_toEngine_m x0).Order).length c50] ((laws_toEngine_m x0).Order), iOwn (tSl tyActive 64) [.slice A53 ((laws_toEngine_m x0).Active).length c54] ((laws_toEngine_m x0).Active), iOwn (tSl tyFinished 37) [.slice A57 ((laws_toEngine_m x0).Done).length c58] ((laws_toEngine_m x0).Done), iOwn (tSl tyCharge 133) [.slice A61 ((laws_toEngine_m x0).Ledger).length c62] ((laws_toEngine_m x0).Ledger), iBox p36 30 K1] (fun W hm => hm) type37 ?_
  refine wa (nt' (CM_seq ?_))
  refine CM_items (pk [0, 1, 2, 3, 9]) ?_
  refine CM_region ?_
  refine wv (fun W hm => rv_loadN (cs := K1) underlying30 type30 rfl rfl (hm.boxCells (n := 4) rfl)) ?_
  refine wcs tyEngine (laws_toEngine_m x0) (cl_fn cb16 rfl) (fun W hm => laws_toEngine_c W _ x0 (tyLEngine_mk (x := x0) (hm.rdS0 r15) (hm.rdS0 r20) (hm.rdS0 r25) (hm.rdS0 r30) (hm.rdS0 r35)) (smEngine_wt (by omega))) (fun z82 => ?_)
  refine tyEngine_sp ?_
  rintro ⟨v83, v84, v85, v86, v87⟩ rfl
  refine WM_form (n := 0) rfl ?_
  rintro A88 c89 rfl m90
  refine WM_form (n := 1) rfl ?_
  rintro A92 c93 rfl m94
  refine WM_form (n := 2) rfl ?_
  rintro A96 c97 rfl m98
  refine WM_form (n := 3) rfl ?_
  rintro A100 c101 rfl m102
  refine WM_form (n := 4) rfl ?_
  rintro A104 c105 rfl m106
  refine WM_alloc type47 rfl (Wd_none rfl) (by decide) (fun p108 => ?_)
  let K6 : List Value := [.slice A88 ((laws_toEngine_m x0).Store.Segments).length c89, .int .i64 ((laws_toEngine_m x0).Store.Now), .int .i64 ((laws_toEngine_m x0).Cursor), .slice A92 ((laws_toEngine_m x0).Order).length c93, .slice A96 ((laws_toEngine_m x0).Active).length c97, .slice A100 ((laws_toEngine_m x0).Done).length c101, .slice A104 ((laws_toEngine_m x0).Ledger).length c105, .int .i64 ((laws_toEngine_m x0).Steps)]
  let K7 : List Value := [.slice A88 ((laws_toEngine_m x0).Store.Segments).length c89]
  let I16 : It := iOwn (tSl (tSl tyVersion 191) 131) K7 ((laws_toEngine_m x0).Store.Segments)
  let I17 : It := iOwn (tSl tInt 3) [.slice A92 ((laws_toEngine_m x0).Order).length c93] ((laws_toEngine_m x0).Order)
  let I18 : It := iOwn (tSl tyActive 64) [.slice A96 ((laws_toEngine_m x0).Active).length c97] ((laws_toEngine_m x0).Active)
  let I19 : It := iOwn (tSl tyFinished 37) [.slice A100 ((laws_toEngine_m x0).Done).length c101] ((laws_toEngine_m x0).Done)
  let I20 : It := iOwn (tSl tyCharge 133) [.slice A104 ((laws_toEngine_m x0).Ledger).length c105] ((laws_toEngine_m x0).Ledger)
  refine sb 0 K6 [I16, I17, I18, I19, I20, iBox p81 37 K2, I13, I14, I15, iBox p36 30 K1] (fun W hm => hm) type47 ?_
  refine nt' (sr ?_)
  refine wv (fun W hm => rv_loadN (cs := K6) underlying47 type47 rfl rfl (hm.boxCells (n := 0) rfl)) ?_
  refine wm ?_
  refine WM_call (χ := List Value) (val := fun x => .tuple #[.agg x.toArray, .bool ((impl_ResultOf_m (laws_toEngine_m x0) x1).2)]) (js := fun x => [iOwn tyFinished x ((impl_ResultOf_m (laws_toEngine_m x0) x1).1)]) (cl_fn cb17 rfl) (fun W hm => impl_ResultOf_c W _ (laws_toEngine_m x0) x1 (tyEngine_mk (x := (laws_toEngine_m x0)) (hm.rdSI (n := 1) rfl) (hm.rdSI (n := 2) rfl) (hm.rdSI (n := 3) rfl) (hm.rdSI (n := 4) rfl) (hm.rdSI (n := 5) rfl)) (by rw [laws_toEngine_eq]; exact (smEngine_wt (by omega)))) (Wd_none rfl) (by decide) (fun z109 => ?_)
  refine tyFinished_sp ?_
  rintro ⟨v110, v111, v112⟩ rfl
  refine WM_form (n := 0) rfl ?_
  rintro A113 c114 rfl m115
  refine WM_form (n := 1) rfl ?_
  rintro A117 c118 rfl m119
  refine WM_form (n := 2) rfl ?_
  rintro A121 c122 rfl m123
  refine wm ?_
  refine wv (fun W hm => rv_extract rfl rfl) ?_
  refine wv (fun W hm => rv_extract rfl rfl) ?_
  refine WM_alloc type37 rfl (Wd_none rfl) (by decide) (fun p125 => ?_)
  let K8 : List Value := [.int .i64 (((impl_ResultOf_m (laws_toEngine_m x0) x1).1).Query.Id), .int .i64 (((impl_ResultOf_m (laws_toEngine_m x0) x1).1).Query.Tenant), .slice A113 (((impl_ResultOf_m (laws_toEngine_m x0) x1).1).Query.Conds).length c114, .slice A117 (((impl_ResultOf_m (laws_toEngine_m x0) x1).1).Query.Out).length c118, .int .i64 (((impl_ResultOf_m (laws_toEngine_m x0) x1).1).Time), .int .i64 (((impl_ResultOf_m (laws_toEngine_m x0) x1).1).Steps), .slice A121 (((impl_ResultOf_m (laws_toEngine_m x0) x1).1).Rows).length c122]
  let K9 : List Value := [.slice A113 (((impl_ResultOf_m (laws_toEngine_m x0) x1).1).Query.Conds).length c114]
  let K10 : List Value := [.slice A117 (((impl_ResultOf_m (laws_toEngine_m x0) x1).1).Query.Out).length c118]
  let K11 : List Value := [.slice A121 (((impl_ResultOf_m (laws_toEngine_m x0) x1).1).Rows).length c122]
  let I21 : It := iOwn (tSl tyCond 201) K9 (((impl_ResultOf_m (laws_toEngine_m x0) x1).1).Query.Conds)
  let I22 : It := iOwn (tSl tInt 3) K10 (((impl_ResultOf_m (laws_toEngine_m x0) x1).1).Query.Out)
  let I23 : It := iOwn (tSl tyRow 73) K11 (((impl_ResultOf_m (laws_toEngine_m x0) x1).1).Rows)
  refine sb 0 K8 [I21, I22, I23, iBox p108 47 K6, I16, I17, I18, I19, I20, iBox p81 37 K2, I13, I14, I15, iBox p36 30 K1] (fun W hm => hm) type37 ?_
  refine wa (nt' (CM_seq (sr ?_)))
  refine wv (fun W hm => rv_loadN (cs := K8) underlying37 type37 rfl rfl (hm.boxCells (n := 0) rfl)) ?_
  refine wv (fun W hm => rv_loadN (cs := K2) underlying37 type37 rfl rfl (hm.boxCells (n := 10) rfl)) ?_
  refine wcv (cl_fn cb18 rfl) (fun W hm => laws_eqFinished_c W _ ((impl_ResultOf_m (laws_toEngine_m x0) x1).1) _ ((spec_ResultOf_m (laws_toEngine_m x0) x1).1) (tyFinished_mk (x := ((impl_ResultOf_m (laws_toEngine_m x0) x1).1)) (hm.rdSI (n := 1) rfl) (hm.rdSI (n := 2) rfl) (hm.rdSI (n := 3) rfl)) (tyFinished_mk (x := ((spec_ResultOf_m (laws_toEngine_m x0) x1).1)) (hm.rdSI (n := 11) rfl) (hm.rdSI (n := 12) rfl) (hm.rdSI (n := 13) rfl))) ?_
  refine wv vnot ?_
  refine wm ?_
  rcases Bool.eq_false_or_eq_true (laws_eqFinished_m ((impl_ResultOf_m (laws_toEngine_m x0) x1).1) ((spec_ResultOf_m (laws_toEngine_m x0) x1).1)) with g127 | g127
  ·
   refine wg vmv (nt g127) ?_
   refine wg vmv (nt g127) ?_
   refine wg (fun W hm => rv_neqB underlying4 rfl rfl) (nt g127) ?_
   refine wv (vpF (nt g127)) ?_
   refine nt' ?_
   rcases Bool.eq_false_or_eq_true ((impl_ResultOf_m (laws_toEngine_m x0) x1).2 != (spec_ResultOf_m (laws_toEngine_m x0) x1).2) with g129 | g129
   ·
    refine CM_condT rfl g129 ?_
    refine CM_seq ?_
    refine CM_items (pk []) ?_
    refine CM_region (wa (nt' (CM_ret (QM_then_ret ?_))))
    exact rtb (h := by unfold laws_FnExactResultOf_m; exact cond_f g38 (cond_t g127 (cond_t g129 (rfl))))
   ·
    refine CM_condF rfl g129 ?_
    refine CM_skip (QM_then (CM_seq (CM_seq ?_)))
    refine rb 5 (s := [iBox p125 37 K8, I21, I22, I23, iBox p108 47 K6, I16, I17, I18, I19, I20, iBox p81 37 K2, I13, I14, I15, iBox p36 30 K1]) (fun W hm => hm) ?_
    refine qt 5 0 1 rfl (fun W hm => rv_loadN (cs := K6) underlying47 type47 rfl rfl (hm.boxCells (n := 4) rfl)) ?_
    refine qt 5 1 3 rfl (fun W hm => rv_loadN (cs := K1) underlying30 type30 rfl rfl (hm.boxCells (n := 14) rfl)) ?_
    refine qo 5 2 7 rfl ?_
    refine wcs tyEngine (laws_toEngine_m x0) (cl_fn cb16 rfl) (fun W hm => laws_toEngine_c W _ x0 (tyLEngine_mk (x := x0) (hm.rdS0 r15) (hm.rdS0 r20) (hm.rdS0 r25) (hm.rdS0 r30) (hm.rdS0 r35)) (smEngine_wt (by omega))) (fun z130 => ?_)
    refine tyEngine_sp ?_
    rintro ⟨v131, v132, v133, v134, v135⟩ rfl
    refine WM_form (n := 0) rfl ?_
    rintro A136 c137 rfl m138
    refine WM_form (n := 1) rfl ?_
    rintro A140 c141 rfl m142
    refine WM_form (n := 2) rfl ?_
    rintro A144 c145 rfl m146
    refine WM_form (n := 3) rfl ?_
    rintro A148 c149 rfl m150
    refine WM_form (n := 4) rfl ?_
    rintro A152 c153 rfl m154
    refine qn (pk [5, 6, 7, 8, 9, 10, 11, 12, 13, 14, 15, 16, 17, 18, 19]) ?_
    refine qo 5 3 15 rfl ?_
    refine wcv (cl_fn cb19 rfl) (fun W hm => laws_eqEngine_c W _ (laws_toEngine_m x0) _ (laws_toEngine_m x0) (tyEngine_mk (x := (laws_toEngine_m x0)) (hm.rdSI (n := 10) rfl) (hm.rdSI (n := 11) rfl) (hm.rdSI (n := 12) rfl) (hm.rdSI (n := 13) rfl) (hm.rdSI (n := 14) rfl)) (tyEngine_mk (x := (laws_toEngine_m x0)) (hm.rdSI (n := 0) rfl) (hm.rdSI (n := 1) rfl) (hm.rdSI (n := 2) rfl) (hm.rdSI (n := 3) rfl) (hm.rdSI (n := 4) rfl))) ?_
    refine qn (pk [5, 6, 7, 8, 9, 10, 11, 12, 13, 14, 15, 16, 17, 18, 19]) ?_
    refine qt 5 4 31 rfl vnot ?_
    refine QB_done (by kernel_rfl) ?_
    refine QM_then ?_
    rcases Bool.eq_false_or_eq_true (laws_eqEngine_m (laws_toEngine_m x0) (laws_toEngine_m x0)) with g157 | g157
    ·
     refine CM_condF rfl (nt g157) ?_
     refine CM_skip (QM_then (CM_seq ?_))
     refine CM_items (pk [5, 6, 7, 8, 9, 10, 11, 12, 13, 14, 15, 16, 17, 18, 19]) ?_
     refine CM_region (wa (nt' (sr ?_)))
     refine wv (fun W hm => rv_loadN (cs := K6) underlying47 type47 rfl rfl (hm.boxCells (n := 4) rfl)) ?_
     refine wm ?_
     refine WM_items (js := (iOwn tyEngine K6 (laws_toEngine_m x0) :: [iBox p125 37 K8, I21, I22, I23, iBox p108 47 K6, iBox p81 37 K2, I13, I14, I15, iBox p36 30 K1])) (fun W hm => Mem.join (is := [I16, I17, I18, I19, I20]) (js := [iBox p125 37 K8, I21, I22, I23, iBox p108 47 K6, iBox p81 37 K2, I13, I14, I15, iBox p36 30 K1]) (fun _ _ hs => tyEngine_join (x := (laws_toEngine_m x0)) hs) (hm.pick [5, 6, 7, 8, 9, 0, 1, 2, 3, 4, 10, 11, 12, 13, 14] (by decide))) ?_
     refine WM_callW (χ := Unit) (val := fun _ => .int .i64 (laws_markEngine_m (laws_toEngine_m x0) 1).1) (js := fun _ => (iOwn tyEngine K6 (laws_markEngine_m (laws_toEngine_m x0) 1).2 :: [iBox p125 37 K8, I21, I22, I23, iBox p108 47 K6, iBox p81 37 K2, I13, I14, I15, iBox p36 30 K1])) (cl_fn cb20 rfl) (fun W hm => (laws_markEngine_c w.heap.size w [iBox p125 37 K8, I21, I22, I23, iBox p108 47 K6, iBox p81 37 K2, I13, I14, I15, iBox p36 30 K1] W K6 (laws_toEngine_m x0) 1 hm).mono (fun _ _ h => ⟨(), h.1, h.2⟩)) (Wd_none rfl) (by decide) (fun _ => ?_)
     refine tyEngine_sp ?_
     rintro ⟨v159, v160, v161, v162, v163⟩ h158
     simp +zetaDelta only [List.cons.injEq] at h158
     obtain ⟨rfl, -, -, rfl, rfl, rfl, rfl, -, -⟩ := h158
     refine wa (nt' (CM_seq (CM_seq ?_)))
     refine CM_items (pk [5, 6, 7, 8, 10, 11, 12, 13, 14]) ?_
     refine CM_region (wm ?_)
     refine wv vlss ?_
     refine wm ?_
     by_cases h164 : ((laws_markEngine_m (laws_toEngine_m x0) 1).1) < 0
     ·have g165 : (decide (((laws_markEngine_m (laws_toEngine_m x0) 1).1) < 0)) = true := decide_eq_true h164
      refine ws g165 ?_
      refine ws g165 ?_
      refine ws g165 ?_
      refine ws g165 ?_
      refine wv (vpT g165) ?_
      refine wm ?_
      refine wk ?_
      refine wk ?_
      refine wk ?_
      refine wv (vpT rfl) ?_
      refine nt' ?_
      refine CM_condT rfl rfl ?_
      refine CM_seq ?_
      refine CM_items (pk []) ?_
      refine CM_region (wa (nt' (CM_ret (QM_then_ret ?_))))
      exact rtb (h := by unfold laws_FnExactResultOf_m; exact cond_f g38 (cond_t g127 (cond_f g129 (cond_t g157 (cond_t g165 (rfl))))))
     ·have g165 : (decide (((laws_markEngine_m (laws_toEngine_m x0) 1).1) < 0)) = false := decide_eq_false h164
      refine wg (fun W hm => rv_loadN (cs := K8) underlying37 type37 rfl rfl (hm.boxCells (n := 0) rfl)) g165 ?_
      refine wg (fun W hm => rv_loadN (cs := K2) underlying37 type37 rfl rfl (hm.boxCells (n := 4) rfl)) g165 ?_
      refine WM_callV (cl_fn cb18 rfl) (fun W hm => laws_eqFinished_c W _ ((impl_ResultOf_m (laws_toEngine_m x0) x1).1) _ ((spec_ResultOf_m (laws_toEngine_m x0) x1).1) (tyFinished_mk (x := ((impl_ResultOf_m (laws_toEngine_m x0) x1).1)) (hm.rdSI (n := 1) rfl) (hm.rdSI (n := 2) rfl) (hm.rdSI (n := 3) rfl)) (tyFinished_mk (x := ((spec_ResultOf_m (laws_toEngine_m x0) x1).1)) (hm.rdSI (n := 5) rfl) (hm.rdSI (n := 6) rfl) (hm.rdSI (n := 7) rfl))) (Wd_some rfl rfl rfl (bw g165 rfl)) (by decide) ?_
      refine wg vnot g165 ?_
      refine wv (vpF g165) ?_
      refine wm ?_
      refine wg vmv (nt g127) ?_
      refine wg vmv (nt g127) ?_
      refine wg (fun W hm => rv_neqB underlying4 rfl rfl) (nt g127) ?_
      refine wv (vpF (nt g127)) ?_
      refine nt' ?_
      refine CM_condF rfl g129 ?_
      refine CM_skip (QM_then (sr (wa (nt' (sr ?_)))))
      refine wv (fun W hm => rv_loadN (cs := K8) underlying37 type37 rfl rfl (hm.boxCells (n := 0) rfl)) ?_
      refine wm ?_
      refine WM_items (js := (iOwn tyFinished K8 ((impl_ResultOf_m (laws_toEngine_m x0) x1).1) :: [iBox p125 37 K8, iBox p81 37 K2, I13, I14, I15, iBox p36 30 K1])) (fun W hm => Mem.join (is := [I21, I22, I23]) (js := [iBox p125 37 K8, iBox p81 37 K2, I13, I14, I15, iBox p36 30 K1]) (fun _ _ hs => tyFinished_join (x := ((impl_ResultOf_m (laws_toEngine_m x0) x1).1)) hs) (hm.pick [1, 2, 3, 0, 4, 5, 6, 7, 8] (by decide))) ?_
      refine WM_callW (χ := Unit) (val := fun _ => .int .i64 (laws_markFinished_m ((impl_ResultOf_m (laws_toEngine_m x0) x1).1) 1).1) (js := fun _ => (iOwn tyFinished K8 (laws_markFinished_m ((impl_ResultOf_m (laws_toEngine_m x0) x1).1) 1).2 :: [iBox p125 37 K8, iBox p81 37 K2, I13, I14, I15, iBox p36 30 K1])) (cl_fn cb21 rfl) (fun W hm => (laws_markFinished_c w.heap.size w [iBox p125 37 K8, iBox p81 37 K2, I13, I14, I15, iBox p36 30 K1] W K8 ((impl_ResultOf_m (laws_toEngine_m x0) x1).1) 1 hm).mono (fun _ _ h => ⟨(), h.1, h.2⟩)) (Wd_none rfl) (by decide) (fun _ => ?_)
      refine tyFinished_sp ?_
      rintro ⟨v167, v168, v169⟩ h166
      simp +zetaDelta only [List.cons.injEq] at h166
      obtain ⟨-, -, rfl, rfl, -, -, rfl, -⟩ := h166
      refine wa (nt' (sr (wa (nt' (sr ?_)))))
      refine wv (fun W hm => rv_loadN (cs := K8) underlying37 type37 rfl rfl (hm.boxCells (n := 3) rfl)) ?_
      refine wm ?_
      refine wcv (cl_fn cb22 rfl) (fun W hm => laws_heldFinished_c W _ (⟨(⟨((impl_ResultOf_m (laws_toEngine_m x0) x1).1).Query.Id, ((impl_ResultOf_m (laws_toEngine_m x0) x1).1).Query.Tenant, (laws_markFinished_m ((impl_ResultOf_m (laws_toEngine_m x0) x1).1) 1).2.Query.Conds, (laws_markFinished_m ((impl_ResultOf_m (laws_toEngine_m x0) x1).1) 1).2.Query.Out⟩ : DQuery), ((impl_ResultOf_m (laws_toEngine_m x0) x1).1).Time, ((impl_ResultOf_m (laws_toEngine_m x0) x1).1).Steps, (laws_markFinished_m ((impl_ResultOf_m (laws_toEngine_m x0) x1).1) 1).2.Rows⟩ : DFinished) 1 (tyFinished_mk (x := (⟨(⟨((impl_ResultOf_m (laws_toEngine_m x0) x1).1).Query.Id, ((impl_ResultOf_m (laws_toEngine_m x0) x1).1).Query.Tenant, (laws_markFinished_m ((impl_ResultOf_m (laws_toEngine_m x0) x1).1) 1).2.Query.Conds, (laws_markFinished_m ((impl_ResultOf_m (laws_toEngine_m x0) x1).1) 1).2.Query.Out⟩ : DQuery), ((impl_ResultOf_m (laws_toEngine_m x0) x1).1).Time, ((impl_ResultOf_m (laws_toEngine_m x0) x1).1).Steps, (laws_markFinished_m ((impl_ResultOf_m (laws_toEngine_m x0) x1).1) 1).2.Rows⟩ : DFinished)) (hm.rdSI (n := 0) rfl) (hm.rdSI (n := 1) rfl) (hm.rdSI (n := 2) rfl))) ?_
      refine wa (nt' (CM_seq (sr (wm ?_))))
      refine wv vlss ?_
      refine nt' ?_
      by_cases h170 : (laws_heldFinished_m (⟨(⟨((impl_ResultOf_m (laws_toEngine_m x0) x1).1).Query.Id, ((impl_ResultOf_m (laws_toEngine_m x0) x1).1).Query.Tenant, (laws_markFinished_m ((impl_ResultOf_m (laws_toEngine_m x0) x1).1) 1).2.Query.Conds, (laws_markFinished_m ((impl_ResultOf_m (laws_toEngine_m x0) x1).1) 1).2.Query.Out⟩ : DQuery), ((impl_ResultOf_m (laws_toEngine_m x0) x1).1).Time, ((impl_ResultOf_m (laws_toEngine_m x0) x1).1).Steps, (laws_markFinished_m ((impl_ResultOf_m (laws_toEngine_m x0) x1).1) 1).2.Rows⟩ : DFinished) 1) < 0
      ·have g171 : (decide ((laws_heldFinished_m (⟨(⟨((impl_ResultOf_m (laws_toEngine_m x0) x1).1).Query.Id, ((impl_ResultOf_m (laws_toEngine_m x0) x1).1).Query.Tenant, (laws_markFinished_m ((impl_ResultOf_m (laws_toEngine_m x0) x1).1) 1).2.Query.Conds, (laws_markFinished_m ((impl_ResultOf_m (laws_toEngine_m x0) x1).1) 1).2.Query.Out⟩ : DQuery), ((impl_ResultOf_m (laws_toEngine_m x0) x1).1).Time, ((impl_ResultOf_m (laws_toEngine_m x0) x1).1).Steps, (laws_markFinished_m ((impl_ResultOf_m (laws_toEngine_m x0) x1).1) 1).2.Rows⟩ : DFinished) 1) < 0)) = true := decide_eq_true h170
       refine CM_condT rfl g171 ?_
       refine CM_seq ?_
       refine CM_items (pk []) ?_
       refine CM_region (wa (nt' (CM_ret (QM_then_ret ?_))))
       exact rtb (h := by unfold laws_FnExactResultOf_m; exact cond_f g38 (cond_t g127 (cond_f g129 (cond_t g157 (cond_f g165 (cond_t g171 (rfl)))))))
      ·have g171 : (decide ((laws_heldFinished_m (⟨(⟨((impl_ResultOf_m (laws_toEngine_m x0) x1).1).Query.Id, ((impl_ResultOf_m (laws_toEngine_m x0) x1).1).Query.Tenant, (laws_markFinished_m ((impl_ResultOf_m (laws_toEngine_m x0) x1).1) 1).2.Query.Conds, (laws_markFinished_m ((impl_ResultOf_m (laws_toEngine_m x0) x1).1) 1).2.Query.Out⟩ : DQuery), ((impl_ResultOf_m (laws_toEngine_m x0) x1).1).Time, ((impl_ResultOf_m (laws_toEngine_m x0) x1).1).Steps, (laws_markFinished_m ((impl_ResultOf_m (laws_toEngine_m x0) x1).1) 1).2.Rows⟩ : DFinished) 1) < 0)) = false := decide_eq_false h170
       refine CM_condF rfl g171 ?_
       refine CM_skip (QM_then (CM_seq (sr (wm (wm ?_)))))
       refine wv vneq ?_
       refine nt' ?_
       by_cases h172 : (laws_heldFinished_m (⟨(⟨((impl_ResultOf_m (laws_toEngine_m x0) x1).1).Query.Id, ((impl_ResultOf_m (laws_toEngine_m x0) x1).1).Query.Tenant, (laws_markFinished_m ((impl_ResultOf_m (laws_toEngine_m x0) x1).1) 1).2.Query.Conds, (laws_markFinished_m ((impl_ResultOf_m (laws_toEngine_m x0) x1).1) 1).2.Query.Out⟩ : DQuery), ((impl_ResultOf_m (laws_toEngine_m x0) x1).1).Time, ((impl_ResultOf_m (laws_toEngine_m x0) x1).1).Steps, (laws_markFinished_m ((impl_ResultOf_m (laws_toEngine_m x0) x1).1) 1).2.Rows⟩ : DFinished) 1) = ((laws_markFinished_m ((impl_ResultOf_m (laws_toEngine_m x0) x1).1) 1).1)
       ·have g173 : ((laws_heldFinished_m (⟨(⟨((impl_ResultOf_m (laws_toEngine_m x0) x1).1).Query.Id, ((impl_ResultOf_m (laws_toEngine_m x0) x1).1).Query.Tenant, (laws_markFinished_m ((impl_ResultOf_m (laws_toEngine_m x0) x1).1) 1).2.Query.Conds, (laws_markFinished_m ((impl_ResultOf_m (laws_toEngine_m x0) x1).1) 1).2.Query.Out⟩ : DQuery), ((impl_ResultOf_m (laws_toEngine_m x0) x1).1).Time, ((impl_ResultOf_m (laws_toEngine_m x0) x1).1).Steps, (laws_markFinished_m ((impl_ResultOf_m (laws_toEngine_m x0) x1).1) 1).2.Rows⟩ : DFinished) 1) != ((laws_markFinished_m ((impl_ResultOf_m (laws_toEngine_m x0) x1).1) 1).1)) = false := by rw [h172]; exact bne_self_eq_false _
        refine CM_condF rfl g173 ?_
        refine CM_skip (QM_then (sr ?_))
        refine wv (fun W hm => rv_loadN (cs := K1) underlying30 type30 rfl rfl (hm.boxCells (n := 8) rfl)) ?_
        refine wcs tyEngine (laws_toEngine_m x0) (cl_fn cb16 rfl) (fun W hm => laws_toEngine_c W _ x0 (tyLEngine_mk (x := x0) (hm.rdS0 r15) (hm.rdS0 r20) (hm.rdS0 r25) (hm.rdS0 r30) (hm.rdS0 r35)) (smEngine_wt (by omega))) (fun z174 => ?_)
        refine tyEngine_sp ?_
        rintro ⟨v175, v176, v177, v178, v179⟩ rfl
        refine WM_form (n := 0) rfl ?_
        rintro A180 c181 rfl m182
        refine WM_form (n := 1) rfl ?_
        rintro A184 c185 rfl m186
        refine WM_form (n := 2) rfl ?_
        rintro A188 c189 rfl m190
        refine WM_form (n := 3) rfl ?_
        rintro A192 c193 rfl m194
        refine WM_form (n := 4) rfl ?_
        rintro A196 c197 rfl m198
        refine wm ?_
        refine WM_call (χ := List Value) (val := fun x => .tuple #[.agg x.toArray, .bool ((impl_ResultOf_m (laws_toEngine_m x0) x1).2)]) (js := fun x => [iOwn tyFinished x ((impl_ResultOf_m (laws_toEngine_m x0) x1).1)]) (cl_fn cb17 rfl) (fun W hm => impl_ResultOf_c W _ (laws_toEngine_m x0) x1 (tyEngine_mk (x := (laws_toEngine_m x0)) (hm.rdSI (n := 0) rfl) (hm.rdSI (n := 1) rfl) (hm.rdSI (n := 2) rfl) (hm.rdSI (n := 3) rfl) (hm.rdSI (n := 4) rfl)) (by rw [laws_toEngine_eq]; exact (smEngine_wt (by omega)))) (Wd_none rfl) (by decide) (fun z200 => ?_)
        refine tyFinished_sp ?_
        rintro ⟨v201, v202, v203⟩ rfl
        refine WM_form (n := 0) rfl ?_
        rintro A204 c205 rfl m206
        refine WM_form (n := 1) rfl ?_
        rintro A208 c209 rfl m210
        refine WM_form (n := 2) rfl ?_
        rintro A212 c213 rfl m214
        refine wm ?_
        refine wv (fun W hm => rv_extract rfl rfl) ?_
        refine wv (fun W hm => rv_extract rfl rfl) ?_
        refine WM_alloc type37 rfl (Wd_none rfl) (by decide) (fun p216 => ?_)
        let K12 : List Value := [.int .i64 (((impl_ResultOf_m (laws_toEngine_m x0) x1).1).Query.Id), .int .i64 (((impl_ResultOf_m (laws_toEngine_m x0) x1).1).Query.Tenant), .slice A204 (((impl_ResultOf_m (laws_toEngine_m x0) x1).1).Query.Conds).length c205, .slice A208 (((impl_ResultOf_m (laws_toEngine_m x0) x1).1).Query.Out).length c209, .int .i64 (((impl_ResultOf_m (laws_toEngine_m x0) x1).1).Time), .int .i64 (((impl_ResultOf_m (laws_toEngine_m x0) x1).1).Steps), .slice A212 (((impl_ResultOf_m (laws_toEngine_m x0) x1).1).Rows).length c213]
        refine sb 0 K12 [iOwn (tSl tyCond 201) [.slice A204 (((impl_ResultOf_m (laws_toEngine_m x0) x1).1).Query.Conds).length c205] (((impl_ResultOf_m (laws_toEngine_m x0) x1).1).Query.Conds), iOwn (tSl tInt 3) [.slice A208 (((impl_ResultOf_m (laws_toEngine_m x0) x1).1).Query.Out).length c209] (((impl_ResultOf_m (laws_toEngine_m x0) x1).1).Query.Out), iOwn (tSl tyRow 73) [.slice A212 (((impl_ResultOf_m (laws_toEngine_m x0) x1).1).Rows).length c213] (((impl_ResultOf_m (laws_toEngine_m x0) x1).1).Rows), iOwn (tSl (tSl tyVersion 191) 131) [.slice A180 ((laws_toEngine_m x0).Store.Segments).length c181] ((laws_toEngine_m x0).Store.Segments), iOwn (tSl tInt 3) [.slice A184 ((laws_toEngine_m x0).Order).length c185] ((laws_toEngine_m x0).Order), iOwn (tSl tyActive 64) [.slice A188 ((laws_toEngine_m x0).Active).length c189] ((laws_toEngine_m x0).Active), iOwn (tSl tyFinished 37) [.slice A192 ((laws_toEngine_m x0).Done).length c193] ((laws_toEngine_m x0).Done), iOwn (tSl tyCharge 133) [.slice A196 ((laws_toEngine_m x0).Ledger).length c197] ((laws_toEngine_m x0).Ledger), iOwn (tSl tyCond 201) K9 ((laws_markFinished_m ((impl_ResultOf_m (laws_toEngine_m x0) x1).1) 1).2.Query.Conds), iOwn (tSl tInt 3) K10 ((laws_markFinished_m ((impl_ResultOf_m (laws_toEngine_m x0) x1).1) 1).2.Query.Out), iOwn (tSl tyRow 73) K11 ((laws_markFinished_m ((impl_ResultOf_m (laws_toEngine_m x0) x1).1) 1).2.Rows), iBox p125 37 K8, iBox p81 37 K2, I13, I14, I15, iBox p36 30 K1] (fun W hm => hm) type37 ?_
        refine wa (nt' (CM_seq (CM_seq ?_)))
        refine CM_items (pk [0, 1, 2, 3, 9, 10, 11, 12, 13, 14, 15, 16]) ?_
        refine CM_region ?_
        refine wv (fun W hm => rv_loadN (cs := K12) underlying37 type37 rfl rfl (hm.boxCells (n := 0) rfl)) ?_
        refine wv (fun W hm => rv_loadN (cs := K2) underlying37 type37 rfl rfl (hm.boxCells (n := 8) rfl)) ?_
        refine wcv (cl_fn cb18 rfl) (fun W hm => laws_eqFinished_c W _ ((impl_ResultOf_m (laws_toEngine_m x0) x1).1) _ ((spec_ResultOf_m (laws_toEngine_m x0) x1).1) (tyFinished_mk (x := ((impl_ResultOf_m (laws_toEngine_m x0) x1).1)) (hm.rdSI (n := 1) rfl) (hm.rdSI (n := 2) rfl) (hm.rdSI (n := 3) rfl)) (tyFinished_mk (x := ((spec_ResultOf_m (laws_toEngine_m x0) x1).1)) (hm.rdSI (n := 9) rfl) (hm.rdSI (n := 10) rfl) (hm.rdSI (n := 11) rfl))) ?_
        refine wv vnot ?_
        refine wm ?_
        refine wg vmv (nt g127) ?_
        refine wg vmv (nt g127) ?_
        refine wg (fun W hm => rv_neqB underlying4 rfl rfl) (nt g127) ?_
        refine wv (vpF (nt g127)) ?_
        refine nt' ?_
        refine CM_condF rfl g129 ?_
        refine CM_skip (QM_then (CM_seq ?_))
        refine CM_items (pk [4, 5, 6, 7]) ?_
        refine CM_region (wa (nt' (sr ?_)))
        refine wv (fun W hm => rv_loadN (cs := K8) underlying37 type37 rfl rfl (hm.boxCells (n := 3) rfl)) ?_
        refine wm ?_
        refine wcv (cl_fn cb22 rfl) (fun W hm => laws_heldFinished_c W _ (⟨(⟨((impl_ResultOf_m (laws_toEngine_m x0) x1).1).Query.Id, ((impl_ResultOf_m (laws_toEngine_m x0) x1).1).Query.Tenant, (laws_markFinished_m ((impl_ResultOf_m (laws_toEngine_m x0) x1).1) 1).2.Query.Conds, (laws_markFinished_m ((impl_ResultOf_m (laws_toEngine_m x0) x1).1) 1).2.Query.Out⟩ : DQuery), ((impl_ResultOf_m (laws_toEngine_m x0) x1).1).Time, ((impl_ResultOf_m (laws_toEngine_m x0) x1).1).Steps, (laws_markFinished_m ((impl_ResultOf_m (laws_toEngine_m x0) x1).1) 1).2.Rows⟩ : DFinished) 1 (tyFinished_mk (x := (⟨(⟨((impl_ResultOf_m (laws_toEngine_m x0) x1).1).Query.Id, ((impl_ResultOf_m (laws_toEngine_m x0) x1).1).Query.Tenant, (laws_markFinished_m ((impl_ResultOf_m (laws_toEngine_m x0) x1).1) 1).2.Query.Conds, (laws_markFinished_m ((impl_ResultOf_m (laws_toEngine_m x0) x1).1) 1).2.Query.Out⟩ : DQuery), ((impl_ResultOf_m (laws_toEngine_m x0) x1).1).Time, ((impl_ResultOf_m (laws_toEngine_m x0) x1).1).Steps, (laws_markFinished_m ((impl_ResultOf_m (laws_toEngine_m x0) x1).1) 1).2.Rows⟩ : DFinished)) (hm.rdSI (n := 0) rfl) (hm.rdSI (n := 1) rfl) (hm.rdSI (n := 2) rfl))) ?_
        refine wa (nt' (CM_seq (sr (wm ?_))))
        refine wv vlss ?_
        refine nt' ?_
        refine CM_condF rfl g171 ?_
        refine CM_skip (QM_then (CM_seq (sr (wm (wm ?_)))))
        refine wv vneq ?_
        refine nt' ?_
        refine CM_condF rfl g173 ?_
        refine CM_skip (QM_then (sr (wa (nt' (CM_ret ?_)))))
        exact rtb (h := by unfold laws_FnExactResultOf_m; exact cond_f g38 (cond_t g127 (cond_f g129 (cond_t g157 (cond_f g165 (cond_f g171 (cond_f g173 (rfl))))))))
       ·have g173 : ((laws_heldFinished_m (⟨(⟨((impl_ResultOf_m (laws_toEngine_m x0) x1).1).Query.Id, ((impl_ResultOf_m (laws_toEngine_m x0) x1).1).Query.Tenant, (laws_markFinished_m ((impl_ResultOf_m (laws_toEngine_m x0) x1).1) 1).2.Query.Conds, (laws_markFinished_m ((impl_ResultOf_m (laws_toEngine_m x0) x1).1) 1).2.Query.Out⟩ : DQuery), ((impl_ResultOf_m (laws_toEngine_m x0) x1).1).Time, ((impl_ResultOf_m (laws_toEngine_m x0) x1).1).Steps, (laws_markFinished_m ((impl_ResultOf_m (laws_toEngine_m x0) x1).1) 1).2.Rows⟩ : DFinished) 1) != ((laws_markFinished_m ((impl_ResultOf_m (laws_toEngine_m x0) x1).1) 1).1)) = true := bne_iff_ne.2 h172
        refine CM_condT rfl g173 ?_
        refine CM_seq ?_
        refine CM_items (pk []) ?_
        refine CM_region (wa (nt' (CM_ret (QM_then_ret ?_))))
        exact rtb (h := by unfold laws_FnExactResultOf_m; exact cond_f g38 (cond_t g127 (cond_f g129 (cond_t g157 (cond_f g165 (cond_f g171 (cond_t g173 (rfl))))))))
    ·
     refine CM_condT rfl (nf g157) ?_
     refine CM_seq ?_
     refine CM_items (pk []) ?_
     refine CM_region (wa (nt' (CM_ret (QM_then_ret ?_))))
     exact rtb (h := by unfold laws_FnExactResultOf_m; exact cond_f g38 (cond_t g127 (cond_f g129 (cond_f g157 (rfl)))))
  ·
   refine ws (nf g127) ?_
   refine ws (nf g127) ?_
   refine ws (nf g127) ?_
   refine wv (vpT (nf g127)) ?_
   refine nt' ?_
   refine CM_condT rfl rfl ?_
   refine CM_seq ?_
   refine CM_items (pk []) ?_
   refine CM_region (wa (nt' (CM_ret (QM_then_ret ?_))))
   exact rtb (h := by unfold laws_FnExactResultOf_m; exact cond_f g38 (cond_f g127 (rfl)))

end Go.Proofs.YtmikmbmdibabmaaGreat
