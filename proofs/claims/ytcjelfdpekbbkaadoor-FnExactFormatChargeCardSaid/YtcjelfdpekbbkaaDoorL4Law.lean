/-
  The contract of the law.
-/
import Derived.Test.YtcjelfdpekbbkaaDoorL4Pl
namespace Go.Proofs.YtcjelfdpekbbkaaDoor
open Go.RowKit
set_option maxRecDepth 100000
set_option maxHeartbeats 4000000
open _root_.Go.Proofs.Tryd
def laws_FnExactFormatCharge_m (x0 : DCharge) : Bool :=
 cond (decide ((laws_szCharge_m x0 1048576) < 0)) true (cond (eqS (impl_FormatCharge_m (laws_toCharge_m x0)) (spec_FormatCharge_m (laws_toCharge_m x0))) (cond (laws_eqCharge_m (laws_toCharge_m x0) (laws_toCharge_m x0)) true false) false)
theorem cb4 : Cb Tryd.prog 4 := ⟨f4, _, func4, rfl, by decide⟩
theorem laws_FnExactFormatCharge_c (w : World) (z0 : List Value) (x0 : DCharge) (r_0 : tyLCharge.rd w w.heap.size z0 x0) (hT : TabOK w.heap.size w) :
  Calls Tryd.prog 4 #[.agg z0.toArray] w fun e w' => e = .returned (.bool (laws_FnExactFormatCharge_m x0)) ∧ Below w.heap.size w w' := by
 have ok0 := (tyLCharge_sm r_0)
 obtain ⟨v1, v3, v5, rfl, r2, r4, r6⟩ := tyLCharge_rd r_0
 obtain ⟨m7, A8, c9, rfl, q10, r11⟩ := rdS_op r2
 obtain ⟨m12, A13, c14, rfl, q15, r16⟩ := rdS_op r4
 obtain ⟨m17, A18, c19, rfl, q20, r21⟩ := rdS_op r6
 refine ce1 (L := [(0, .agg #[.int .i64 x0.Segment, .int .i64 x0.Base, .slice A8 x0.Ids.length c9, .slice A13 x0.Tenants.length c14, .slice A18 x0.Rows.length c19])]) (N := 27) func4 ?_
 refine sr ?_
 refine WM_box rfl (Wd_none rfl) (by decide) (fun p22 => ?_)
 refine wa (nt' (sr (wa (nt' (sr ?_)))))
 let K1 : List Value := [.int .i64 x0.Segment, .int .i64 x0.Base, .slice A8 x0.Ids.length c9, .slice A13 x0.Tenants.length c14, .slice A18 x0.Rows.length c19]
 refine wv (fun W hm => rv_loadN (cs := K1) underlying30 type30 rfl rfl (hm.boxCells (n := 0) rfl)) ?_
 refine wm ?_
 refine wcv (cl_fn cb11 rfl) (fun W hm => laws_szCharge_c W _ x0 1048576 (tyLCharge_mk (x := x0) (hm.rdS0 r11) (hm.rdS0 r16) (hm.rdS0 r21))) ?_
 refine wa (nt' (CM_seq (sr (wm ?_))))
 refine wv vlss ?_
 refine nt' ?_
 by_cases h23 : (laws_szCharge_m x0 1048576) < 0
 ·have g24 := decide_eq_true h23
  refine CM_condT rfl g24 ?_
  refine sr (wa (nt' (CM_ret (QM_then_ret ?_))))
  exact rtb (h := cond_t g24 (rfl))
 ·have g24 := decide_eq_false h23
  obtain ⟨hz0, hy0, hw0⟩ := sz_small laws_szCharge_ok ok0 (by omega) (by omega) g24
  refine CM_condF rfl g24 ?_
  refine CM_skip (QM_then (sr ?_))
  refine wv (fun W hm => rv_loadN (cs := K1) underlying30 type30 rfl rfl (hm.boxCells (n := 0) rfl)) ?_
  refine wcs tyCharge (laws_toCharge_m x0) (cl_fn cb13 rfl) (fun W hm => laws_toCharge_c W _ x0 (tyLCharge_mk (x := x0) (hm.rdS0 r11) (hm.rdS0 r16) (hm.rdS0 r21)) (smCharge_wt (by omega))) (fun z25 => ?_)
  refine tyCharge_sp ?_
  rintro ⟨v26, v27, v28⟩ rfl
  refine WM_form (n := 0) rfl ?_
  rintro A29 c30 rfl m31
  refine WM_form (n := 1) rfl ?_
  rintro A33 c34 rfl m35
  refine WM_form (n := 2) rfl ?_
  rintro A37 c38 rfl m39
  refine wcv (cl_fn cb12 rfl) (fun W hm => spec_FormatCharge_c W _ (laws_toCharge_m x0) (tyCharge_mk (x := (laws_toCharge_m x0)) (hm.rdSI (n := 0) rfl) (hm.rdSI (n := 1) rfl) (hm.rdSI (n := 2) rfl))) ?_
  refine wa (nt' (sr ?_))
  refine wv (fun W hm => rv_loadN (cs := K1) underlying30 type30 rfl rfl (hm.boxCells (n := 3) rfl)) ?_
  refine wcs tyCharge (laws_toCharge_m x0) (cl_fn cb13 rfl) (fun W hm => laws_toCharge_c W _ x0 (tyLCharge_mk (x := x0) (hm.rdS0 r11) (hm.rdS0 r16) (hm.rdS0 r21)) (smCharge_wt (by omega))) (fun z41 => ?_)
  refine tyCharge_sp ?_
  rintro ⟨v42, v43, v44⟩ rfl
  refine WM_form (n := 0) rfl ?_
  rintro A45 c46 rfl m47
  refine WM_form (n := 1) rfl ?_
  rintro A49 c50 rfl m51
  refine WM_form (n := 2) rfl ?_
  rintro A53 c54 rfl m55
  refine WM_alloc type33 rfl (Wd_none rfl) (by decide) (fun p57 => ?_)
  let K2 : List Value := [.int .i64 ((laws_toCharge_m x0).Segment), .int .i64 ((laws_toCharge_m x0).Base), .slice A45 ((laws_toCharge_m x0).Ids).length c46, .slice A49 ((laws_toCharge_m x0).Tenants).length c50, .slice A53 ((laws_toCharge_m x0).Rows).length c54]
  let I3 : It := iOwn (tSl tInt 3) [.slice A45 ((laws_toCharge_m x0).Ids).length c46] ((laws_toCharge_m x0).Ids)
  let I4 : It := iOwn (tSl tInt 3) [.slice A49 ((laws_toCharge_m x0).Tenants).length c50] ((laws_toCharge_m x0).Tenants)
  let I5 : It := iOwn (tSl tInt 3) [.slice A53 ((laws_toCharge_m x0).Rows).length c54] ((laws_toCharge_m x0).Rows)
  refine sb 0 K2 [I3, I4, I5, iOwn (tSl tInt 3) [.slice A29 ((laws_toCharge_m x0).Ids).length c30] ((laws_toCharge_m x0).Ids), iOwn (tSl tInt 3) [.slice A33 ((laws_toCharge_m x0).Tenants).length c34] ((laws_toCharge_m x0).Tenants), iOwn (tSl tInt 3) [.slice A37 ((laws_toCharge_m x0).Rows).length c38] ((laws_toCharge_m x0).Rows), iBox p22 30 K1] (fun W hm => hm) type33 ?_
  refine nt' (CM_seq ?_)
  refine CM_items (pk [0, 1, 2, 3, 7]) ?_
  refine CM_region ?_
  refine wv (fun W hm => rv_loadN (cs := K2) underlying33 type33 rfl rfl (hm.boxCells (n := 0) rfl)) ?_
  refine wcv (cl_fn cb14 rfl) (fun W hm => impl_FormatCharge_c W _ (laws_toCharge_m x0) (tyCharge_mk (x := (laws_toCharge_m x0)) (hm.rdSI (n := 1) rfl) (hm.rdSI (n := 2) rfl) (hm.rdSI (n := 3) rfl)) (hT.mem hm)) ?_
  refine wa (nt' (CM_seq (sr (wm (wm ?_)))))
  refine wv (fun W hm => rv_neqS (p := (impl_FormatCharge_m (laws_toCharge_m x0))) (q := (spec_FormatCharge_m (laws_toCharge_m x0))) underlying9 rfl rfl) ?_
  refine nt' ?_
  rcases Bool.eq_false_or_eq_true (eqS (impl_FormatCharge_m (laws_toCharge_m x0)) (spec_FormatCharge_m (laws_toCharge_m x0))) with g59 | g59
  ·
   refine CM_condF rfl (nt g59) ?_
   refine CM_skip (QM_then (CM_seq (CM_seq ?_)))
   refine rb 5 (s := [iBox p57 33 K2, I3, I4, I5, iBox p22 30 K1]) (fun W hm => hm) ?_
   refine qt 5 0 1 rfl (fun W hm => rv_loadN (cs := K2) underlying33 type33 rfl rfl (hm.boxCells (n := 0) rfl)) ?_
   refine qt 5 1 3 rfl (fun W hm => rv_loadN (cs := K1) underlying30 type30 rfl rfl (hm.boxCells (n := 4) rfl)) ?_
   refine qo 5 2 7 rfl ?_
   refine wcs tyCharge (laws_toCharge_m x0) (cl_fn cb13 rfl) (fun W hm => laws_toCharge_c W _ x0 (tyLCharge_mk (x := x0) (hm.rdS0 r11) (hm.rdS0 r16) (hm.rdS0 r21)) (smCharge_wt (by omega))) (fun z60 => ?_)
   refine tyCharge_sp ?_
   rintro ⟨v61, v62, v63⟩ rfl
   refine WM_form (n := 0) rfl ?_
   rintro A64 c65 rfl m66
   refine WM_form (n := 1) rfl ?_
   rintro A68 c69 rfl m70
   refine WM_form (n := 2) rfl ?_
   rintro A72 c73 rfl m74
   refine qn (pk [3, 4, 5, 6, 7]) ?_
   refine qo 5 3 15 rfl ?_
   refine wcv (cl_fn cb15 rfl) (fun W hm => laws_eqCharge_c W _ (laws_toCharge_m x0) _ (laws_toCharge_m x0) (tyCharge_mk (x := (laws_toCharge_m x0)) (hm.rdSI (n := 4) rfl) (hm.rdSI (n := 5) rfl) (hm.rdSI (n := 6) rfl)) (tyCharge_mk (x := (laws_toCharge_m x0)) (hm.rdSI (n := 0) rfl) (hm.rdSI (n := 1) rfl) (hm.rdSI (n := 2) rfl))) ?_
   refine qn (pk [3, 4, 5, 6, 7]) ?_
   refine qt 5 4 31 rfl vnot ?_
   refine QB_done (by kernel_rfl) ?_
   refine QM_then ?_
   rcases Bool.eq_false_or_eq_true (laws_eqCharge_m (laws_toCharge_m x0) (laws_toCharge_m x0)) with g77 | g77
   ·
    refine CM_condF rfl (nt g77) ?_
    refine CM_skip (QM_then (CM_seq ?_))
    refine CM_items (pk []) ?_
    refine CM_region (wa (nt' (CM_ret ?_)))
    exact rtb (h := cond_f g24 (cond_t g59 (cond_t g77 (rfl))))
   ·
    refine CM_condT rfl (nf g77) ?_
    refine CM_seq ?_
    refine CM_items (pk []) ?_
    refine CM_region (wa (nt' (CM_ret (QM_then_ret ?_))))
    exact rtb (h := cond_f g24 (cond_t g59 (cond_f g77 (rfl))))
  ·
   refine CM_condT rfl (nf g59) ?_
   refine CM_seq ?_
   refine CM_items (pk []) ?_
   refine CM_region (wa (nt' (CM_ret (QM_then_ret ?_))))
   exact rtb (h := cond_f g24 (cond_f g59 (rfl)))

end Go.Proofs.YtcjelfdpekbbkaaDoor
