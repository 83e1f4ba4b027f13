/-
  The contract of the law.
-/
import Derived.Test.YtlnblljlkeokjaaGreatL3Pl
namespace Go.Proofs.YtlnblljlkeokjaaGreat
open Go.RowKit
set_option maxRecDepth 100000
set_option maxHeartbeats 4000000
open _root_.Go.Proofs.Tryz
def laws_FnExactCanAdmit_m (x0 : DEngine) (x1 : DQuery) (x2 : Int) (x3 : Int) : Bool :=
 cond (decide ((laws_szEngine_m x0 1048576) < 0)) true (cond (decide ((laws_szQuery_m x1 (laws_szEngine_m x0 1048576)) < 0)) true (cond ((impl_CanAdmit_m (laws_toEngine_m x0) (laws_toQuery_m x1) x2 x3) != (spec_CanAdmit_m (laws_toEngine_m x0) (laws_toQuery_m x1) x2 x3)) false (cond (laws_eqEngine_m (laws_toEngine_m x0) (laws_toEngine_m x0)) (cond (laws_eqQuery_m (laws_toQuery_m x1) (laws_toQuery_m x1)) true false) false)))
theorem cb3 : Cb Tryz.prog 3 := ⟨f3, _, func3, rfl, by decide⟩
theorem laws_FnExactCanAdmit_c (w : World) (z0 : List Value) (x0 : DEngine) (z1 : List Value) (x1 : DQuery) (x2 : Int) (x3 : Int) (r_0 : tyLEngine.rd w w.heap.size z0 x0) (r_1 : tyLQuery.rd w w.heap.size z1 x1) :
  Calls Tryz.prog 3 #[.agg z0.toArray, .agg z1.toArray, .int .i64 x2, .int .i64 x3] w fun e w' => e = .returned (.bool (laws_FnExactCanAdmit_m x0 x1 x2 x3)) ∧ Below w.heap.size w w' := by
 have ok0 := (tyLEngine_sm r_0)
 have ok1 := (tyLQuery_sm r_1)
 obtain ⟨v1, v3, v5, v7, v9, rfl, r2, r4, r6, r8, r10⟩ := tyLEngine_rd r_0
 have r15 := r2
 obtain ⟨m11, A12, c13, rfl, q14⟩ := r2
 have r20 := r4
 obtain ⟨m16, A17, c18, rfl, q19⟩ := r4
 have r25 := r6
 obtain ⟨m21, A22, c23, rfl, q24⟩ := r6
 have r30 := r8
 obtain ⟨m26, A27, c28, rfl, q29⟩ := r8
 have r35 := r10
 obtain ⟨m31, A32, c33, rfl, q34⟩ := r10
 obtain ⟨v36, v38, rfl, r37, r39⟩ := tyLQuery_rd r_1
 have r44 := r37
 obtain ⟨m40, A41, c42, rfl, q43⟩ := r37
 have r49 := r39
 obtain ⟨m45, A46, c47, rfl, q48⟩ := r39
 refine ce4 (L := [(0, .agg #[.slice A12 x0.Store.Segments.length c13, .int .i64 x0.Store.Now, .int .i64 x0.Cursor, .slice A17 x0.Order.length c18, .slice A22 x0.Active.length c23, .slice A27 x0.Done.length c28, .slice A32 x0.Ledger.length c33, .int .i64 x0.Steps]), (1, .agg #[.int .i64 x1.Id, .int .i64 x1.Tenant, .slice A41 x1.Conds.length c42, .slice A46 x1.Out.length c47]), (2, .int .i64 x2), (3, .int .i64 x3)]) (N := 53) func3 ?_
 refine sr ?_
 refine WM_box rfl (Wd_none rfl) (by decide) (fun p50 => ?_)
 refine WM_box rfl (Wd_none rfl) (by decide) (fun p51 => ?_)
 refine wa (nt' (sr (wa (nt' (sr ?_)))))
 let K1 : List Value := [.slice A12 x0.Store.Segments.length c13, .int .i64 x0.Store.Now, .int .i64 x0.Cursor, .slice A17 x0.Order.length c18, .slice A22 x0.Active.length c23, .slice A27 x0.Done.length c28, .slice A32 x0.Ledger.length c33, .int .i64 x0.Steps]
 refine wv (fun W hm => rv_loadN (cs := K1) underlying30 type30 rfl rfl (hm.boxCells (n := 1) rfl)) ?_
 refine wm ?_
 refine wcv (cl_fn cb4 rfl) (fun W hm => laws_szEngine_c W _ x0 1048576 (tyLEngine_mk (x := x0) (hm.rdS0 r15) (hm.rdS0 r20) (hm.rdS0 r25) (hm.rdS0 r30) (hm.rdS0 r35))) ?_
 refine wa (nt' (CM_seq (sr (wm ?_))))
 refine wv vlss ?_
 refine nt' ?_
 by_cases h52 : (laws_szEngine_m x0 1048576) < 0
 ·have g53 : (decide ((laws_szEngine_m x0 1048576) < 0)) = true := decide_eq_true h52
  refine CM_condT rfl g53 ?_
  refine sr (wa (nt' (CM_ret (QM_then_ret ?_))))
  exact rtb (h := by unfold laws_FnExactCanAdmit_m; exact cond_t g53 (rfl))
 ·have g53 : (decide ((laws_szEngine_m x0 1048576) < 0)) = false := decide_eq_false h52
  obtain ⟨hz0, hy0, hw0⟩ := sz_small laws_szEngine_ok ok0 (by omega) (by omega) g53
  refine CM_condF rfl g53 ?_
  refine CM_skip (QM_then (sr ?_))
  let K2 : List Value := [.int .i64 x1.Id, .int .i64 x1.Tenant, .slice A41 x1.Conds.length c42, .slice A46 x1.Out.length c47]
  refine wv (fun W hm => rv_loadN (cs := K2) underlying33 type33 rfl rfl (hm.boxCells (n := 0) rfl)) ?_
  refine wm ?_
  refine wcv (cl_fn cb5 rfl) (fun W hm => laws_szQuery_c W _ x1 (laws_szEngine_m x0 1048576) (tyLQuery_mk (x := x1) (hm.rdS0 r44) (hm.rdS0 r49))) ?_
  refine wa (nt' (CM_seq (sr (wm ?_))))
  refine wv vlss ?_
  refine nt' ?_
  by_cases h54 : (laws_szQuery_m x1 (laws_szEngine_m x0 1048576)) < 0
  ·have g55 : (decide ((laws_szQuery_m x1 (laws_szEngine_m x0 1048576)) < 0)) = true := decide_eq_true h54
   refine CM_condT rfl g55 ?_
   refine sr (wa (nt' (CM_ret (QM_then_ret ?_))))
   exact rtb (h := by unfold laws_FnExactCanAdmit_m; exact cond_f g53 (cond_t g55 (rfl)))
  ·have g55 : (decide ((laws_szQuery_m x1 (laws_szEngine_m x0 1048576)) < 0)) = false := decide_eq_false h54
   obtain ⟨hz1, hy1, hw1⟩ := sz_small laws_szQuery_ok ok1 (by omega) (by omega) g55
   refine CM_condF rfl g55 ?_
   refine CM_skip (QM_then (CM_seq ?_))
   refine rb 8 (s := [iBox p51 33 K2, iBox p50 30 K1]) (fun W hm => hm) ?_
   refine qt 8 0 1 rfl (fun W hm => rv_loadN (cs := K1) underlying30 type30 rfl rfl (hm.boxCells (n := 1) rfl)) ?_
   refine qt 8 2 5 rfl (fun W hm => rv_loadN (cs := K2) underlying33 type33 rfl rfl (hm.boxCells (n := 0) rfl)) ?_
   refine qt 8 4 21 rfl vmv ?_
   refine qt 8 5 53 rfl vmv ?_
   refine qo 8 1 55 rfl ?_
   refine wcs tyEngine (laws_toEngine_m x0) (cl_fn cb7 rfl) (fun W hm => laws_toEngine_c W _ x0 (tyLEngine_mk (x := x0) (hm.rdS0 r15) (hm.rdS0 r20) (hm.rdS0 r25) (hm.rdS0 r30) (hm.rdS0 r35)) (smEngine_wt (by omega))) (fun z56 => ?_)
   refine tyEngine_sp ?_
   rintro ⟨v57, v58, v59, v60, v61⟩ rfl
   refine WM_form (n := 0) rfl ?_
   rintro A62 c63 rfl m64
   refine WM_form (n := 1) rfl ?_
   rintro A66 c67 rfl m68
   refine WM_form (n := 2) rfl ?_
   rintro A70 c71 rfl m72
   refine WM_form (n := 3) rfl ?_
   rintro A74 c75 rfl m76
   refine WM_form (n := 4) rfl ?_
   rintro A78 c79 rfl m80
   refine qn (pk [5, 6]) ?_
   refine qo 8 3 63 rfl ?_
   refine wcs tyQuery (laws_toQuery_m x1) (cl_fn cb8 rfl) (fun W hm => laws_toQuery_c W _ x1 (tyLQuery_mk (x := x1) (hm.rdS0 r44) (hm.rdS0 r49)) (smQuery_wt (by omega))) (fun z82 => ?_)
   refine tyQuery_sp ?_
   rintro ⟨v83, v84⟩ rfl
   refine WM_form (n := 0) rfl ?_
   rintro A85 c86 rfl m87
   refine WM_form (n := 1) rfl ?_
   rintro A89 c90 rfl m91
   refine qn (pk [7, 8]) ?_
   refine qo 8 6 127 rfl ?_
   refine wcv (cl_fn cb6 rfl) (fun W hm => spec_CanAdmit_c W _ (laws_toEngine_m x0) _ (laws_toQuery_m x1) x2 x3 (tyEngine_mk (x := (laws_toEngine_m x0)) (hm.rdSI (n := 2) rfl) (hm.rdSI (n := 3) rfl) (hm.rdSI (n := 4) rfl) (hm.rdSI (n := 5) rfl) (hm.rdSI (n := 6) rfl)) (tyQuery_mk (x := (laws_toQuery_m x1)) (hm.rdSI (n := 0) rfl) (hm.rdSI (n := 1) rfl)) (by rw [laws_toEngine_eq]; exact (smEngine_wt (by omega))) (by rw [laws_toQuery_eq]; exact (smQuery_wt (by omega)))) ?_
   refine qn (pk [7, 8]) ?_
   refine qt 8 7 255 rfl (fun W hm => rv_assign rfl) ?_
   refine QB_done (by kernel_rfl) ?_
   refine QM_then (CM_seq ?_)
   refine CM_items (pk [7, 8]) ?_
   refine CM_region ?_
   refine wv (fun W hm => rv_loadN (cs := K1) underlying30 type30 rfl rfl (hm.boxCells (n := 1) rfl)) ?_
   refine wcs tyEngine (laws_toEngine_m x0) (cl_fn cb7 rfl) (fun W hm => laws_toEngine_c W _ x0 (tyLEngine_mk (x := x0) (hm.rdS0 r15) (hm.rdS0 r20) (hm.rdS0 r25) (hm.rdS0 r30) (hm.rdS0 r35)) (smEngine_wt (by omega))) (fun z93 => ?_)
   refine tyEngine_sp ?_
   rintro ⟨v94, v95, v96, v97, v98⟩ rfl
   refine WM_form (n := 0) rfl ?_
   rintro A99 c100 rfl m101
   refine WM_form (n := 1) rfl ?_
   rintro A103 c104 rfl m105
   refine WM_form (n := 2) rfl ?_
   rintro A107 c108 rfl m109
   refine WM_form (n := 3) rfl ?_
   rintro A111 c112 rfl m113
   refine WM_form (n := 4) rfl ?_
   rintro A115 c116 rfl m117
   refine WM_alloc type44 rfl (Wd_none rfl) (by decide) (fun p119 => ?_)
   let K3 : List Value := [.slice A99 ((laws_toEngine_m x0).Store.Segments).length c100, .int .i64 ((laws_toEngine_m x0).Store.Now), .int .i64 ((laws_toEngine_m x0).Cursor), .slice A103 ((laws_toEngine_m x0).Order).length c104, .slice A107 ((laws_toEngine_m x0).Active).length c108, .slice A111 ((laws_toEngine_m x0).Done).length c112, .slice A115 ((laws_toEngine_m x0).Ledger).length c116, .int .i64 ((laws_toEngine_m x0).Steps)]
   let K4 : List Value := [.slice A99 ((laws_toEngine_m x0).Store.Segments).length c100]
   let I6 : It := iOwn (tSl (tSl tyVersion 142) 122) K4 ((laws_toEngine_m x0).Store.Segments)
   let I7 : It := iOwn (tSl tInt 3) [.slice A103 ((laws_toEngine_m x0).Order).length c104] ((laws_toEngine_m x0).Order)
   let I8 : It := iOwn (tSl tyActive 93) [.slice A107 ((laws_toEngine_m x0).Active).length c108] ((laws_toEngine_m x0).Active)
   let I9 : It := iOwn (tSl tyFinished 97) [.slice A111 ((laws_toEngine_m x0).Done).length c112] ((laws_toEngine_m x0).Done)
   let I10 : It := iOwn (tSl tyCharge 99) [.slice A115 ((laws_toEngine_m x0).Ledger).length c116] ((laws_toEngine_m x0).Ledger)
   refine sb 0 K3 [I6, I7, I8, I9, I10, iBox p51 33 K2, iBox p50 30 K1] (fun W hm => hm) type44 ?_
   refine nt' (sr ?_)
   refine wv (fun W hm => rv_loadN (cs := K2) underlying33 type33 rfl rfl (hm.boxCells (n := 6) rfl)) ?_
   refine wcs tyQuery (laws_toQuery_m x1) (cl_fn cb8 rfl) (fun W hm => laws_toQuery_c W _ x1 (tyLQuery_mk (x := x1) (hm.rdS0 r44) (hm.rdS0 r49)) (smQuery_wt (by omega))) (fun z120 => ?_)
   refine tyQuery_sp ?_
   rintro ⟨v121, v122⟩ rfl
   refine WM_form (n := 0) rfl ?_
   rintro A123 c124 rfl m125
   refine WM_form (n := 1) rfl ?_
   rintro A127 c128 rfl m129
   refine WM_alloc type48 rfl (Wd_none rfl) (by decide) (fun p131 => ?_)
   let K5 : List Value := [.int .i64 ((laws_toQuery_m x1).Id), .int .i64 ((laws_toQuery_m x1).Tenant), .slice A123 ((laws_toQuery_m x1).Conds).length c124, .slice A127 ((laws_toQuery_m x1).Out).length c128]
   let I11 : It := iOwn (tSl tyCond 102) [.slice A123 ((laws_toQuery_m x1).Conds).length c124] ((laws_toQuery_m x1).Conds)
   let I12 : It := iOwn (tSl tInt 3) [.slice A127 ((laws_toQuery_m x1).Out).length c128] ((laws_toQuery_m x1).Out)
   refine sb 0 K5 [I11, I12, iBox p119 44 K3, I6, I7, I8, I9, I10, iBox p51 33 K2, iBox p50 30 K1] (fun W hm => hm) type48 ?_
   refine nt' (sr ?_)
   refine wv (fun W hm => rv_loadN (cs := K3) underlying44 type44 rfl rfl (hm.boxCells (n := 3) rfl)) ?_
   refine wv (fun W hm => rv_loadN (cs := K5) underlying48 type48 rfl rfl (hm.boxCells (n := 0) rfl)) ?_
   refine wm (wm ?_)
   refine wcv (cl_fn cb9 rfl) (fun W hm => impl_CanAdmit_c W _ (laws_toEngine_m x0) _ (laws_toQuery_m x1) x2 x3 (tyEngine_mk (x := (laws_toEngine_m x0)) (hm.rdSI (n := 4) rfl) (hm.rdSI (n := 5) rfl) (hm.rdSI (n := 6) rfl) (hm.rdSI (n := 7) rfl) (hm.rdSI (n := 8) rfl)) (tyQuery_mk (x := (laws_toQuery_m x1)) (hm.rdSI (n := 1) rfl) (hm.rdSI (n := 2) rfl)) (by rw [laws_toEngine_eq]; exact (smEngine_wt (by omega))) (by rw [laws_toQuery_eq]; exact (smQuery_wt (by omega)))) ?_
   refine wa (nt' (CM_seq (sr (wm (wm ?_)))))
   refine wv (fun W hm => rv_neqB underlying4 rfl rfl) ?_
   refine nt' ?_
   rcases Bool.eq_false_or_eq_true ((impl_CanAdmit_m (laws_toEngine_m x0) (laws_toQuery_m x1) x2 x3) != (spec_CanAdmit_m (laws_toEngine_m x0) (laws_toQuery_m x1) x2 x3)) with g133 | g133
   ·
    refine CM_condT rfl g133 ?_
    refine CM_seq ?_
    refine CM_items (pk []) ?_
    refine CM_region (wa (nt' (CM_ret (QM_then_ret ?_))))
    exact rtb (h := by unfold laws_FnExactCanAdmit_m; exact cond_f g53 (cond_f g55 (cond_t g133 (rfl))))
   ·
    refine CM_condF rfl g133 ?_
    refine CM_skip (QM_then (CM_seq (CM_seq ?_)))
    refine rb 5 (s := [iBox p131 48 K5, I11, I12, iBox p119 44 K3, I6, I7, I8, I9, I10, iBox p51 33 K2, iBox p50 30 K1]) (fun W hm => hm) ?_
    refine qt 5 0 1 rfl (fun W hm => rv_loadN (cs := K3) underlying44 type44 rfl rfl (hm.boxCells (n := 3) rfl)) ?_
    refine qt 5 1 3 rfl (fun W hm => rv_loadN (cs := K1) underlying30 type30 rfl rfl (hm.boxCells (n := 10) rfl)) ?_
    refine qo 5 2 7 rfl ?_
    refine wcs tyEngine (laws_toEngine_m x0) (cl_fn cb7 rfl) (fun W hm => laws_toEngine_c W _ x0 (tyLEngine_mk (x := x0) (hm.rdS0 r15) (hm.rdS0 r20) (hm.rdS0 r25) (hm.rdS0 r30) (hm.rdS0 r35)) (smEngine_wt (by omega))) (fun z134 => ?_)
    refine tyEngine_sp ?_
    rintro ⟨v135, v136, v137, v138, v139⟩ rfl
    refine WM_form (n := 0) rfl ?_
    rintro A140 c141 rfl m142
    refine WM_form (n := 1) rfl ?_
    rintro A144 c145 rfl m146
    refine WM_form (n := 2) rfl ?_
    rintro A148 c149 rfl m150
    refine WM_form (n := 3) rfl ?_
    rintro A152 c153 rfl m154
    refine WM_form (n := 4) rfl ?_
    rintro A156 c157 rfl m158
    refine qn (pk [5, 6, 7, 8, 9, 10, 11, 12, 13, 14, 15]) ?_
    refine qo 5 3 15 rfl ?_
    refine wcv (cl_fn cb10 rfl) (fun W hm => laws_eqEngine_c W _ (laws_toEngine_m x0) _ (laws_toEngine_m x0) (tyEngine_mk (x := (laws_toEngine_m x0)) (hm.rdSI (n := 9) rfl) (hm.rdSI (n := 10) rfl) (hm.rdSI (n := 11) rfl) (hm.rdSI (n := 12) rfl) (hm.rdSI (n := 13) rfl)) (tyEngine_mk (x := (laws_toEngine_m x0)) (hm.rdSI (n := 0) rfl) (hm.rdSI (n := 1) rfl) (hm.rdSI (n := 2) rfl) (hm.rdSI (n := 3) rfl) (hm.rdSI (n := 4) rfl))) ?_
    refine qn (pk [5, 6, 7, 8, 9, 10, 11, 12, 13, 14, 15]) ?_
    refine qt 5 4 31 rfl vnot ?_
    refine QB_done (by kernel_rfl) ?_
    refine QM_then ?_
    rcases Bool.eq_false_or_eq_true (laws_eqEngine_m (laws_toEngine_m x0) (laws_toEngine_m x0)) with g161 | g161
    ·
     refine CM_condF rfl (nt g161) ?_
     refine CM_skip (QM_then (CM_seq (CM_seq ?_)))
     refine CM_items (pk [5, 6, 7, 14]) ?_
     refine rb 5 (s := [iBox p131 48 K5, I11, I12, iBox p51 33 K2]) (fun W hm => hm) ?_
     refine qt 5 0 1 rfl (fun W hm => rv_loadN (cs := K5) underlying48 type48 rfl rfl (hm.boxCells (n := 0) rfl)) ?_
     refine qt 5 1 3 rfl (fun W hm => rv_loadN (cs := K2) underlying33 type33 rfl rfl (hm.boxCells (n := 3) rfl)) ?_
     refine qo 5 2 7 rfl ?_
     refine wcs tyQuery (laws_toQuery_m x1) (cl_fn cb8 rfl) (fun W hm => laws_toQuery_c W _ x1 (tyLQuery_mk (x := x1) (hm.rdS0 r44) (hm.rdS0 r49)) (smQuery_wt (by omega))) (fun z162 => ?_)
     refine tyQuery_sp ?_
     rintro ⟨v163, v164⟩ rfl
     refine WM_form (n := 0) rfl ?_
     rintro A165 c166 rfl m167
     refine WM_form (n := 1) rfl ?_
     rintro A169 c170 rfl m171
     refine qn (pk [2, 3, 4, 5]) ?_
     refine qo 5 3 15 rfl ?_
     refine wcv (cl_fn cb11 rfl) (fun W hm => laws_eqQuery_c W _ (laws_toQuery_m x1) _ (laws_toQuery_m x1) (tyQuery_mk (x := (laws_toQuery_m x1)) (hm.rdSI (n := 3) rfl) (hm.rdSI (n := 4) rfl)) (tyQuery_mk (x := (laws_toQuery_m x1)) (hm.rdSI (n := 0) rfl) (hm.rdSI (n := 1) rfl))) ?_
     refine qn (pk [2, 3, 4, 5]) ?_
     refine qt 5 4 31 rfl vnot ?_
     refine QB_done (by kernel_rfl) ?_
     refine QM_then ?_
     rcases Bool.eq_false_or_eq_true (laws_eqQuery_m (laws_toQuery_m x1) (laws_toQuery_m x1)) with g174 | g174
     ·
      refine CM_condF rfl (nt g174) ?_
      refine CM_skip (QM_then (CM_seq ?_))
      refine CM_items (pk []) ?_
      refine CM_region (wa (nt' (CM_ret ?_)))
      exact rtb (h := by unfold laws_FnExactCanAdmit_m; exact cond_f g53 (cond_f g55 (cond_f g133 (cond_t g161 (cond_t g174 (rfl))))))
     ·
      refine CM_condT rfl (nf g174) ?_
      refine CM_seq ?_
      refine CM_items (pk []) ?_
      refine CM_region (wa (nt' (CM_ret (QM_then_ret ?_))))
      exact rtb (h := by unfold laws_FnExactCanAdmit_m; exact cond_f g53 (cond_f g55 (cond_f g133 (cond_t g161 (cond_f g174 (rfl))))))
    ·
     refine CM_condT rfl (nf g161) ?_
     refine CM_seq ?_
     refine CM_items (pk []) ?_
     refine CM_region (wa (nt' (CM_ret (QM_then_ret ?_))))
     exact rtb (h := by unfold laws_FnExactCanAdmit_m; exact cond_f g53 (cond_f g55 (cond_f g133 (cond_f g161 (rfl)))))

end Go.Proofs.YtlnblljlkeokjaaGreat
