/-
  The contract of the law.
-/
import Derived.Test.YtcjelfdpekbbkaaDoorL5Pl
namespace Go.Proofs.YtcjelfdpekbbkaaDoor
open Go.RowKit
set_option maxRecDepth 100000
set_option maxHeartbeats 4000000
open _root_.Go.Proofs.Tryd
def laws_FnExactFormatUpdate_m (x0 : DUpdate) : Bool :=
 cond (decide ((laws_szUpdate_m x0 1048576) < 0)) true (cond (eqS (impl_FormatUpdate_m (laws_toUpdate_m x0)) (spec_FormatUpdate_m (laws_toUpdate_m x0))) (cond (laws_eqUpdate_m (laws_toUpdate_m x0) (laws_toUpdate_m x0)) true false) false)
theorem cb5 : Cb Tryd.prog 5 := ⟨f5, _, func5, rfl, by decide⟩
theorem laws_FnExactFormatUpdate_c (w : World) (z0 : List Value) (x0 : DUpdate) (r_0 : tyLUpdate.rd w w.heap.size z0 x0) (hT : TabOK w.heap.size w) :
  Calls Tryd.prog 5 #[.agg z0.toArray] w fun e w' => e = .returned (.bool (laws_FnExactFormatUpdate_m x0)) ∧ Below w.heap.size w w' := by
 have ok0 := (tyLUpdate_sm r_0)
 obtain ⟨v1, rfl, r2⟩ := tyLUpdate_rd r_0
 obtain ⟨m3, A4, c5, rfl, q6, r7⟩ := rdS_op r2
 refine ce1 (L := [(0, .agg #[.int .i64 x0.Kind, .int .i64 x0.Row.Id, .slice A4 x0.Row.Values.length c5, .int .i64 x0.Field, .int .i64 x0.Value])]) (N := 27) func5 ?_
 refine sr ?_
 refine WM_box rfl (Wd_none rfl) (by decide) (fun p8 => ?_)
 refine wa (nt' (sr (wa (nt' (sr ?_)))))
 let K1 : List Value := [.int .i64 x0.Kind, .int .i64 x0.Row.Id, .slice A4 x0.Row.Values.length c5, .int .i64 x0.Field, .int .i64 x0.Value]
 refine wv (fun W hm => rv_loadN (cs := K1) underlying40 type40 rfl rfl (hm.boxCells (n := 0) rfl)) ?_
 refine wm ?_
 refine wcv (cl_fn cb16 rfl) (fun W hm => laws_szUpdate_c W _ x0 1048576 (tyLUpdate_mk (x := x0) (hm.rdS0 r7))) ?_
 refine wa (nt' (CM_seq (sr (wm ?_))))
 refine wv vlss ?_
 refine nt' ?_
 by_cases h9 : (laws_szUpdate_m x0 1048576) < 0
 ·have g10 := decide_eq_true h9
  refine CM_condT rfl g10 ?_
  refine sr (wa (nt' (CM_ret (QM_then_ret ?_))))
  exact rtb (h := cond_t g10 (rfl))
 ·have g10 := decide_eq_false h9
  obtain ⟨hz0, hy0, hw0⟩ := sz_small laws_szUpdate_ok ok0 (by omega) (by omega) g10
  refine CM_condF rfl g10 ?_
  refine CM_skip (QM_then (sr ?_))
  refine wv (fun W hm => rv_loadN (cs := K1) underlying40 type40 rfl rfl (hm.boxCells (n := 0) rfl)) ?_
  refine wcs tyUpdate (laws_toUpdate_m x0) (cl_fn cb18 rfl) (fun W hm => laws_toUpdate_c W _ x0 (tyLUpdate_mk (x := x0) (hm.rdS0 r7)) (smUpdate_wt (by omega))) (fun z11 => ?_)
  refine tyUpdate_sp ?_
  rintro v12 rfl
  refine WM_form (n := 0) rfl ?_
  rintro A13 c14 rfl m15
  refine wcv (cl_fn cb17 rfl) (fun W hm => spec_FormatUpdate_c W _ (laws_toUpdate_m x0) (tyUpdate_mk (x := (laws_toUpdate_m x0)) (hm.rdSI (n := 0) rfl))) ?_
  refine wa (nt' (sr ?_))
  refine wv (fun W hm => rv_loadN (cs := K1) underlying40 type40 rfl rfl (hm.boxCells (n := 1) rfl)) ?_
  refine wcs tyUpdate (laws_toUpdate_m x0) (cl_fn cb18 rfl) (fun W hm => laws_toUpdate_c W _ x0 (tyLUpdate_mk (x := x0) (hm.rdS0 r7)) (smUpdate_wt (by omega))) (fun z17 => ?_)
  refine tyUpdate_sp ?_
  rintro v18 rfl
  refine WM_form (n := 0) rfl ?_
  rintro A19 c20 rfl m21
  refine WM_alloc type45 rfl (Wd_none rfl) (by decide) (fun p23 => ?_)
  let K2 : List Value := [.int .i64 ((laws_toUpdate_m x0).Kind), .int .i64 ((laws_toUpdate_m x0).Row.Id), .slice A19 ((laws_toUpdate_m x0).Row.Values).length c20, .int .i64 ((laws_toUpdate_m x0).Field), .int .i64 ((laws_toUpdate_m x0).Value)]
  let I3 : It := iOwn (tSl tInt 3) [.slice A19 ((laws_toUpdate_m x0).Row.Values).length c20] ((laws_toUpdate_m x0).Row.Values)
  let I4 : It := iOwn (tSl tInt 3) [.slice A13 ((laws_toUpdate_m x0).Row.Values).length c14] ((laws_toUpdate_m x0).Row.Values)
  refine sb 0 K2 [I3, I4, iBox p8 40 K1] (fun W hm => hm) type45 ?_
  refine nt' (sr ?_)
  refine wv (fun W hm => rv_loadN (cs := K2) underlying45 type45 rfl rfl (hm.boxCells (n := 0) rfl)) ?_
  refine wcv (cl_fn cb19 rfl) (fun W hm => impl_FormatUpdate_c W _ (laws_toUpdate_m x0) (tyUpdate_mk (x := (laws_toUpdate_m x0)) (hm.rdSI (n := 1) rfl)) (hT.mem hm)) ?_
  refine wa (nt' (CM_seq (sr (wm (wm ?_)))))
  refine wv (fun W hm => rv_neqS (p := (impl_FormatUpdate_m (laws_toUpdate_m x0))) (q := (spec_FormatUpdate_m (laws_toUpdate_m x0))) underlying9 rfl rfl) ?_
  refine nt' ?_
  rcases Bool.eq_false_or_eq_true (eqS (impl_FormatUpdate_m (laws_toUpdate_m x0)) (spec_FormatUpdate_m (laws_toUpdate_m x0))) with g25 | g25
  ·
   refine CM_condF rfl (nt g25) ?_
   refine CM_skip (QM_then (CM_seq (CM_seq ?_)))
   refine rb 5 (s := [iBox p23 45 K2, I3, I4, iBox p8 40 K1]) (fun W hm => hm) ?_
   refine qt 5 0 1 rfl (fun W hm => rv_loadN (cs := K2) underlying45 type45 rfl rfl (hm.boxCells (n := 0) rfl)) ?_
   refine qt 5 1 3 rfl (fun W hm => rv_loadN (cs := K1) underlying40 type40 rfl rfl (hm.boxCells (n := 3) rfl)) ?_
   refine qo 5 2 7 rfl ?_
   refine wcs tyUpdate (laws_toUpdate_m x0) (cl_fn cb18 rfl) (fun W hm => laws_toUpdate_c W _ x0 (tyLUpdate_mk (x := x0) (hm.rdS0 r7)) (smUpdate_wt (by omega))) (fun z26 => ?_)
   refine tyUpdate_sp ?_
   rintro v27 rfl
   refine WM_form (n := 0) rfl ?_
   rintro A28 c29 rfl m30
   refine qn (pk [1, 2, 3, 4]) ?_
   refine qo 5 3 15 rfl ?_
   refine wcv (cl_fn cb20 rfl) (fun W hm => laws_eqUpdate_c W _ (laws_toUpdate_m x0) _ (laws_toUpdate_m x0) (tyUpdate_mk (x := (laws_toUpdate_m x0)) (hm.rdSI (n := 2) rfl)) (tyUpdate_mk (x := (laws_toUpdate_m x0)) (hm.rdSI (n := 0) rfl))) ?_
   refine qn (pk [1, 2, 3, 4]) ?_
   refine qt 5 4 31 rfl vnot ?_
   refine QB_done (by kernel_rfl) ?_
   refine QM_then ?_
   rcases Bool.eq_false_or_eq_true (laws_eqUpdate_m (laws_toUpdate_m x0) (laws_toUpdate_m x0)) with g33 | g33
   ·
    refine CM_condF rfl (nt g33) ?_
    refine CM_skip (QM_then (CM_seq ?_))
    refine CM_items (pk []) ?_
    refine CM_region (wa (nt' (CM_ret ?_)))
    exact rtb (h := cond_f g10 (cond_t g25 (cond_t g33 (rfl))))
   ·
    refine CM_condT rfl (nf g33) ?_
    refine CM_seq ?_
    refine CM_items (pk []) ?_
    refine CM_region (wa (nt' (CM_ret (QM_then_ret ?_))))
    exact rtb (h := cond_f g10 (cond_t g25 (cond_f g33 (rfl))))
  ·
   refine CM_condT rfl (nf g25) ?_
   refine sr (wa (nt' (CM_ret (QM_then_ret ?_))))
   exact rtb (h := cond_f g10 (cond_f g25 (rfl)))

end Go.Proofs.YtcjelfdpekbbkaaDoor
