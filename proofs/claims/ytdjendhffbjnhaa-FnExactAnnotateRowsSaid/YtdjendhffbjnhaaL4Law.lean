/-
  The contract of the law.
-/
import Derived.Test.YtdjendhffbjnhaaL4Pl
namespace Go.Proofs.Ytdjendhffbjnhaa
open Go.RowKit
set_option maxRecDepth 100000
set_option maxHeartbeats 4000000
open _root_.Go.Proofs.Try
def laws_FnExactAnnotateRows_m (x0 : DIndex) (x1 : (List DRow)) : Bool :=
 cond (decide ((laws_szIndex_m x0 1048576) < 0)) true (cond (decide ((laws_szRowS_m x1 (laws_szIndex_m x0 1048576)) < 0)) true (cond (laws_eqAnnotatedS_m (impl_AnnotateRows_m (laws_toIndex_m x0) (laws_toRowS_m x1)) (spec_AnnotateRows_m (laws_toIndex_m x0) (laws_toRowS_m x1))) (cond (laws_eqIndex_m (laws_toIndex_m x0) (laws_toIndex_m x0)) (cond (laws_eqRowS_m (laws_toRowS_m x1) (laws_toRowS_m x1)) (cond (decide (((laws_markRowS_m (laws_toRowS_m x1) ((laws_markIndex_m (laws_toIndex_m x0) 1).1)).1) < 0)) false (cond (decide ((laws_heldAnnotatedS_m ((laws_markAnnotatedS_m (impl_AnnotateRows_m (laws_toIndex_m x0) (laws_toRowS_m x1)) 1).2) 1) < 0)) false (cond ((laws_heldAnnotatedS_m ((laws_markAnnotatedS_m (impl_AnnotateRows_m (laws_toIndex_m x0) (laws_toRowS_m x1)) 1).2) 1) != ((laws_markAnnotatedS_m (impl_AnnotateRows_m (laws_toIndex_m x0) (laws_toRowS_m x1)) 1).1)) false true))) false) false) false))
theorem cb4 : Cb Try.prog 4 := ⟨f4, _, func4, rfl, by decide⟩
theorem laws_FnExactAnnotateRows_c (w : World) (z0 : List Value) (x0 : DIndex) (z1 : Value) (x1 : (List DRow)) (r_0 : tyLIndex.rd w w.heap.size z0 x0) (r_1 : rdS tyLRow w w.heap.size z1 x1) :
  Calls Try.prog 4 #[.agg z0.toArray, z1] w fun e w' => e = .returned (.bool (laws_FnExactAnnotateRows_m x0 x1)) ∧ Below w.heap.size w w' := by
 have ok0 := (tyLIndex_sm r_0)
 have ok1 := (rdS_sm r_1 fun _ _ h => (tyLRow_sm h))
 obtain ⟨v1, v3, rfl, r2, r4⟩ := tyLIndex_rd r_0
 have r9 := r2
 obtain ⟨m5, A6, c7, rfl, q8⟩ := r2
 have r14 := r4
 obtain ⟨m10, A11, c12, rfl, q13⟩ := r4
 have r19 := r_1
 obtain ⟨m15, A16, c17, rfl, q18⟩ := r_1
 refine ce2 (L := [(0, .agg #[.slice A6 x0.Queries.length c7, .slice A11 x0.Fields.length c12]), (1, .slice A16 x1.length c17)]) (N := 92) func4 ?_
 refine sr ?_
 refine WM_box rfl (Wd_none rfl) (by decide) (fun p20 => ?_)
 refine wa (nt' (sr (wa (nt' (sr ?_)))))
 let K1 : List Value := [.slice A6 x0.Queries.length c7, .slice A11 x0.Fields.length c12]
 refine wv (fun W hm => rv_loadN (cs := K1) underlying57 type57 rfl rfl (hm.boxCells (n := 0) rfl)) ?_
 refine wm ?_
 refine wcv (cl_fn cb23 rfl) (fun W hm => laws_szIndex_c W _ x0 1048576 (tyLIndex_mk (x := x0) (hm.rdS0 r9) (hm.rdS0 r14))) ?_
 refine wa (nt' (CM_seq (sr (wm ?_))))
 refine wv vlss ?_
 refine nt' ?_
 by_cases h21 : (laws_szIndex_m x0 1048576) < 0
 ·have g22 : (decide ((laws_szIndex_m x0 1048576) < 0)) = true := decide_eq_true h21
  refine CM_condT rfl g22 ?_
  refine sr (wa (nt' (CM_ret (QM_then_ret ?_))))
  exact rtb (h := by unfold laws_FnExactAnnotateRows_m; exact cond_t g22 (rfl))
 ·have g22 : (decide ((laws_szIndex_m x0 1048576) < 0)) = false := decide_eq_false h21
  obtain ⟨hz0, hy0, hw0⟩ := sz_small laws_szIndex_ok ok0 (by omega) (by omega) g22
  refine CM_condF rfl g22 ?_
  refine CM_skip (QM_then (sr (wm (wm ?_))))
  refine wcv (cl_fn cb24 rfl) (fun W hm => laws_szRowS_c W _ x1 (laws_szIndex_m x0 1048576) (hm.rdS0 r19)) ?_
  refine wa (nt' (CM_seq (sr (wm ?_))))
  refine wv vlss ?_
  refine nt' ?_
  by_cases h23 : (laws_szRowS_m x1 (laws_szIndex_m x0 1048576)) < 0
  ·have g24 : (decide ((laws_szRowS_m x1 (laws_szIndex_m x0 1048576)) < 0)) = true := decide_eq_true h23
   refine CM_condT rfl g24 ?_
   refine sr (wa (nt' (CM_ret (QM_then_ret ?_))))
   exact rtb (h := by unfold laws_FnExactAnnotateRows_m; exact cond_f g22 (cond_t g24 (rfl)))
  ·have g24 : (decide ((laws_szRowS_m x1 (laws_szIndex_m x0 1048576)) < 0)) = false := decide_eq_false h23
   obtain ⟨hz1, hy1, hw1⟩ := sz_small laws_szRowS_ok ok1 (by omega) (by omega) g24
   refine CM_condF rfl g24 ?_
   refine CM_skip (QM_then (sr ?_))
   refine wv (fun W hm => rv_loadN (cs := K1) underlying57 type57 rfl rfl (hm.boxCells (n := 0) rfl)) ?_
   refine wcs tyIndex (laws_toIndex_m x0) (cl_fn cb25 rfl) (fun W hm => laws_toIndex_c W _ x0 (tyLIndex_mk (x := x0) (hm.rdS0 r9) (hm.rdS0 r14)) (smIndex_wt (by omega))) (fun z25 => ?_)
   refine tyIndex_sp ?_
   rintro ⟨v26, v27⟩ rfl
   refine WM_form (n := 0) rfl ?_
   rintro A28 c29 rfl m30
   refine WM_form (n := 1) rfl ?_
   rintro A32 c33 rfl m34
   refine wm ?_
   refine wcl (tSl tyRow 50) (laws_toRowS_m x1) (cl_fn cb26 rfl) (fun W hm => laws_toRowS_c W _ x1 (hm.rdS0 r19) (sm_wtS (by omega) fun y h => (smRow_wt (h)))) (fun z36 => ?_)
   refine WM_form (n := 0) rfl ?_
   rintro A37 c38 rfl m39
   refine wcl (tSl tyAnnotated 52) (spec_AnnotateRows_m (laws_toIndex_m x0) (laws_toRowS_m x1)) (cl_fn cb9 rfl) (fun W hm => spec_AnnotateRows_c W _ (laws_toIndex_m x0) _ (laws_toRowS_m x1) (tyIndex_mk (x := (laws_toIndex_m x0)) (hm.rdSI (n := 1) rfl) (hm.rdSI (n := 2) rfl)) (hm.rdSI (n := 0) rfl) (by rw [laws_toIndex_eq]; exact (smIndex_wt (by omega))) (by rw [laws_toRowS_eq]; exact (sm_wtS (by omega) fun y h => (smRow_wt (h))))) (fun z41 => ?_)
   refine WM_form (n := 0) rfl ?_
   rintro A42 c43 rfl m44
   refine wa (nt' (CM_seq ?_))
   refine CM_items (pk [0, 4]) ?_
   refine CM_region ?_
   refine wv (fun W hm => rv_loadN (cs := K1) underlying57 type57 rfl rfl (hm.boxCells (n := 1) rfl)) ?_
   refine wcs tyIndex (laws_toIndex_m x0) (cl_fn cb25 rfl) (fun W hm => laws_toIndex_c W _ x0 (tyLIndex_mk (x := x0) (hm.rdS0 r9) (hm.rdS0 r14)) (smIndex_wt (by omega))) (fun z46 => ?_)
   refine tyIndex_sp ?_
   rintro ⟨v47, v48⟩ rfl
   refine WM_form (n := 0) rfl ?_
   rintro A49 c50 rfl m51
   refine WM_form (n := 1) rfl ?_
   rintro A53 c54 rfl m55
   refine WM_alloc type27 rfl (Wd_none rfl) (by decide) (fun p57 => ?_)
   let K2 : List Value := [.slice A49 ((laws_toIndex_m x0).Queries).length c50, .slice A53 ((laws_toIndex_m x0).Fields).length c54]
   let K3 : List Value := [.slice A42 (spec_AnnotateRows_m (laws_toIndex_m x0) (laws_toRowS_m x1)).length c43]
   let I5 : It := iOwn (tSl tyQuery 39) [.slice A49 ((laws_toIndex_m x0).Queries).length c50] ((laws_toIndex_m x0).Queries)
   let I6 : It := iOwn (tSl (tSl tySpan 113) 78) [.slice A53 ((laws_toIndex_m x0).Fields).length c54] ((laws_toIndex_m x0).Fields)
   let I7 : It := iOwn (tSl tyAnnotated 52) K3 (spec_AnnotateRows_m (laws_toIndex_m x0) (laws_toRowS_m x1))
   refine sb 0 K2 [I5, I6, I7, iBox p20 57 K1] (fun W hm => hm) type27 ?_
   refine nt' (sr (wm ?_))
   refine wcl (tSl tyRow 50) (laws_toRowS_m x1) (cl_fn cb26 rfl) (fun W hm => laws_toRowS_c W _ x1 (hm.rdS0 r19) (sm_wtS (by omega) fun y h => (smRow_wt (h)))) (fun z58 => ?_)
   refine WM_form (n := 0) rfl ?_
   rintro A59 c60 rfl m61
   refine wa (nt' (sr ?_))
   refine wv (fun W hm => rv_loadN (cs := K2) underlying27 type27 rfl rfl (hm.boxCells (n := 1) rfl)) ?_
   refine wm ?_
   refine wcl (tSl tyAnnotated 52) (impl_AnnotateRows_m (laws_toIndex_m x0) (laws_toRowS_m x1)) (cl_fn cb7 rfl) (fun W hm => impl_AnnotateRows_c W _ (laws_toIndex_m x0) _ (laws_toRowS_m x1) (tyIndex_mk (x := (laws_toIndex_m x0)) (hm.rdSI (n := 2) rfl) (hm.rdSI (n := 3) rfl)) (hm.rdSI (n := 0) rfl) (by rw [laws_toIndex_eq]; exact (smIndex_wt (by omega))) (by rw [laws_toRowS_eq]; exact (sm_wtS (by omega) fun y h => (smRow_wt (h))))) (fun z63 => ?_)
   refine WM_form (n := 0) rfl ?_
   rintro A64 c65 rfl m66
   refine wa (nt' (CM_seq (sr (wm (wm ?_)))))
   refine wcv (cl_fn cb27 rfl) (fun W hm => laws_eqAnnotatedS_c W _ (impl_AnnotateRows_m (laws_toIndex_m x0) (laws_toRowS_m x1)) _ (spec_AnnotateRows_m (laws_toIndex_m x0) (laws_toRowS_m x1)) (hm.rdSI (n := 0) rfl) (hm.rdSI (n := 5) rfl)) ?_
   refine wv vnot ?_
   refine nt' ?_
   rcases Bool.eq_false_or_eq_true (laws_eqAnnotatedS_m (impl_AnnotateRows_m (laws_toIndex_m x0) (laws_toRowS_m x1)) (spec_AnnotateRows_m (laws_toIndex_m x0) (laws_toRowS_m x1))) with g69 | g69
   ·
    refine CM_condF rfl (nt g69) ?_
    refine CM_skip (QM_then (CM_seq (CM_seq ?_)))
    let K4 : List Value := [.slice A64 (impl_AnnotateRows_m (laws_toIndex_m x0) (laws_toRowS_m x1)).length c65]
    let I8 : It := iOwn (tSl tyAnnotated 52) K4 (impl_AnnotateRows_m (laws_toIndex_m x0) (laws_toRowS_m x1))
    let I9 : It := iOwn (tSl tyRow 50) [.slice A59 (laws_toRowS_m x1).length c60] (laws_toRowS_m x1)
    refine rb 5 (s := [I8, I9, iBox p57 27 K2, I5, I6, I7, iBox p20 57 K1]) (fun W hm => hm) ?_
    refine qt 5 0 1 rfl (fun W hm => rv_loadN (cs := K2) underlying27 type27 rfl rfl (hm.boxCells (n := 2) rfl)) ?_
    refine qt 5 1 3 rfl (fun W hm => rv_loadN (cs := K1) underlying57 type57 rfl rfl (hm.boxCells (n := 6) rfl)) ?_
    refine qo 5 2 7 rfl ?_
    refine wcs tyIndex (laws_toIndex_m x0) (cl_fn cb25 rfl) (fun W hm => laws_toIndex_c W _ x0 (tyLIndex_mk (x := x0) (hm.rdS0 r9) (hm.rdS0 r14)) (smIndex_wt (by omega))) (fun z70 => ?_)
    refine tyIndex_sp ?_
    rintro ⟨v71, v72⟩ rfl
    refine WM_form (n := 0) rfl ?_
    rintro A73 c74 rfl m75
    refine WM_form (n := 1) rfl ?_
    rintro A77 c78 rfl m79
    refine qn (pk [2, 3, 4, 5, 6, 7, 8]) ?_
    refine qo 5 3 15 rfl ?_
    refine wcv (cl_fn cb28 rfl) (fun W hm => laws_eqIndex_c W _ (laws_toIndex_m x0) _ (laws_toIndex_m x0) (tyIndex_mk (x := (laws_toIndex_m x0)) (hm.rdSI (n := 5) rfl) (hm.rdSI (n := 6) rfl)) (tyIndex_mk (x := (laws_toIndex_m x0)) (hm.rdSI (n := 0) rfl) (hm.rdSI (n := 1) rfl))) ?_
    refine qn (pk [2, 3, 4, 5, 6, 7, 8]) ?_
    refine qt 5 4 31 rfl vnot ?_
    refine QB_done (by kernel_rfl) ?_
    refine QM_then ?_
    rcases Bool.eq_false_or_eq_true (laws_eqIndex_m (laws_toIndex_m x0) (laws_toIndex_m x0)) with g82 | g82
    ·
     refine CM_condF rfl (nt g82) ?_
     refine CM_skip (QM_then (CM_seq (sr (wm (wm ?_)))))
     refine wcl (tSl tyRow 50) (laws_toRowS_m x1) (cl_fn cb26 rfl) (fun W hm => laws_toRowS_c W _ x1 (hm.rdS0 r19) (sm_wtS (by omega) fun y h => (smRow_wt (h)))) (fun z83 => ?_)
     refine WM_form (n := 0) rfl ?_
     rintro A84 c85 rfl m86
     refine wcv (cl_fn cb29 rfl) (fun W hm => laws_eqRowS_c W _ (laws_toRowS_m x1) _ (laws_toRowS_m x1) (hm.rdSI (n := 4) rfl) (hm.rdSI (n := 0) rfl)) ?_
     refine wv vnot ?_
     refine nt' ?_
     rcases Bool.eq_false_or_eq_true (laws_eqRowS_m (laws_toRowS_m x1) (laws_toRowS_m x1)) with g89 | g89
     ·
      refine CM_condF rfl (nt g89) ?_
      refine CM_skip (QM_then (CM_seq ?_))
      refine CM_items (pk [3, 4, 5, 6, 7, 8, 9]) ?_
      refine CM_region (wa (nt' (sr ?_)))
      refine wv (fun W hm => rv_loadN (cs := K2) underlying27 type27 rfl rfl (hm.boxCells (n := 2) rfl)) ?_
      refine wm ?_
      refine WM_items (js := (iOwn tyIndex K2 (laws_toIndex_m x0) :: [I8, I9, iBox p57 27 K2, I7, iBox p20 57 K1])) (fun W hm => Mem.join (is := [I5, I6]) (js := [I8, I9, iBox p57 27 K2, I7, iBox p20 57 K1]) (fun _ _ hs => tyIndex_join (x := (laws_toIndex_m x0)) hs) (hm.pick [3, 4, 0, 1, 2, 5, 6] (by decide))) ?_
      refine WM_callW (χ := Unit) (val := fun _ => .int .i64 (laws_markIndex_m (laws_toIndex_m x0) 1).1) (js := fun _ => (iOwn tyIndex K2 (laws_markIndex_m (laws_toIndex_m x0) 1).2 :: [I8, I9, iBox p57 27 K2, I7, iBox p20 57 K1])) (cl_fn cb30 rfl) (fun W hm => (laws_markIndex_c w.heap.size w [I8, I9, iBox p57 27 K2, I7, iBox p20 57 K1] W K2 (laws_toIndex_m x0) 1 hm).mono (fun _ _ h => ⟨(), h.1, h.2⟩)) (Wd_none rfl) (by decide) (fun _ => ?_)
      refine tyIndex_sp ?_
      rintro ⟨v91, v92⟩ h90
      simp +zetaDelta only [List.cons.injEq] at h90
      obtain ⟨rfl, rfl, -⟩ := h90
      refine wa (nt' (CM_seq ?_))
      refine CM_items (pk [2, 3, 5, 6]) ?_
      refine CM_region (wm (wm ?_))
      refine WM_callW (χ := Unit) (val := fun _ => .int .i64 (laws_markRowS_m (laws_toRowS_m x1) ((laws_markIndex_m (laws_toIndex_m x0) 1).1)).1) (js := fun _ => (iOwn (tSl tyRow 50) [.slice A59 (laws_toRowS_m x1).length c60] (laws_markRowS_m (laws_toRowS_m x1) ((laws_markIndex_m (laws_toIndex_m x0) 1).1)).2 :: [I8, I7, iBox p20 57 K1])) (cl_fn cb31 rfl) (fun W hm => (laws_markRowS_c w.heap.size w [I8, I7, iBox p20 57 K1] W (.slice A59 (laws_toRowS_m x1).length c60) (laws_toRowS_m x1) ((laws_markIndex_m (laws_toIndex_m x0) 1).1) (hm.pick [1, 0, 2, 3] (by decide))).mono (fun _ _ h => ⟨(), h.1, h.2⟩)) (Wd_none rfl) (by decide) (fun _ => ?_)
      refine wa (nt' (CM_seq (sr (wm ?_))))
      refine wv vlss ?_
      refine wm ?_
      by_cases h93 : ((laws_markRowS_m (laws_toRowS_m x1) ((laws_markIndex_m (laws_toIndex_m x0) 1).1)).1) < 0
      ·have g94 : (decide (((laws_markRowS_m (laws_toRowS_m x1) ((laws_markIndex_m (laws_toIndex_m x0) 1).1)).1) < 0)) = true := decide_eq_true h93
       refine ws g94 ?_
       refine ws g94 ?_
       refine ws g94 ?_
       refine ws g94 ?_
       refine wv (vpT g94) ?_
       refine nt' ?_
       refine CM_condT rfl rfl ?_
       refine sr (wa (nt' (CM_ret (QM_then_ret ?_))))
       exact rtb (h := by unfold laws_FnExactAnnotateRows_m; exact cond_f g22 (cond_f g24 (cond_t g69 (cond_t g82 (cond_t g89 (cond_t g94 (rfl)))))))
      ·have g94 : (decide (((laws_markRowS_m (laws_toRowS_m x1) ((laws_markIndex_m (laws_toIndex_m x0) 1).1)).1) < 0)) = false := decide_eq_false h93
       refine wg vmv g94 ?_
       refine wg vmv g94 ?_
       refine WM_callV (cl_fn cb27 rfl) (fun W hm => laws_eqAnnotatedS_c W _ (impl_AnnotateRows_m (laws_toIndex_m x0) (laws_toRowS_m x1)) _ (spec_AnnotateRows_m (laws_toIndex_m x0) (laws_toRowS_m x1)) (hm.rdSI (n := 1) rfl) (hm.rdSI (n := 2) rfl)) (Wd_some rfl rfl rfl (bw g94 rfl)) (by decide) ?_
       refine wg vnot g94 ?_
       refine wv (vpF g94) ?_
       refine nt' ?_
       refine CM_condF rfl (nt g69) ?_
       refine CM_skip (QM_then (sr (wa (nt' (sr (wm (wm ?_)))))))
       let I10 : It := iOwn (tSl tyRow 50) [.slice A59 (laws_toRowS_m x1).length c60] ((laws_markRowS_m (laws_toRowS_m x1) ((laws_markIndex_m (laws_toIndex_m x0) 1).1)).2)
       refine WM_callW (χ := Unit) (val := fun _ => .int .i64 (laws_markAnnotatedS_m (impl_AnnotateRows_m (laws_toIndex_m x0) (laws_toRowS_m x1)) 1).1) (js := fun _ => (iOwn (tSl tyAnnotated 52) K4 (laws_markAnnotatedS_m (impl_AnnotateRows_m (laws_toIndex_m x0) (laws_toRowS_m x1)) 1).2 :: [I10, I7, iBox p20 57 K1])) (cl_fn cb32 rfl) (fun W hm => (laws_markAnnotatedS_c w.heap.size w [I10, I7, iBox p20 57 K1] W (.slice A64 (impl_AnnotateRows_m (laws_toIndex_m x0) (laws_toRowS_m x1)).length c65) (impl_AnnotateRows_m (laws_toIndex_m x0) (laws_toRowS_m x1)) 1 (hm.pick [1, 0, 2, 3] (by decide))).mono (fun _ _ h => ⟨(), h.1, h.2⟩)) (Wd_none rfl) (by decide) (fun _ => ?_)
       refine wa (nt' (sr (wa (nt' (sr (wm (wm ?_)))))))
       refine wcv (cl_fn cb33 rfl) (fun W hm => laws_heldAnnotatedS_c W _ ((laws_markAnnotatedS_m (impl_AnnotateRows_m (laws_toIndex_m x0) (laws_toRowS_m x1)) 1).2) 1 (hm.rdSI (n := 0) rfl)) ?_
       refine wa (nt' (CM_seq (sr (wm ?_))))
       refine wv vlss ?_
       refine nt' ?_
       by_cases h95 : (laws_heldAnnotatedS_m ((laws_markAnnotatedS_m (impl_AnnotateRows_m (laws_toIndex_m x0) (laws_toRowS_m x1)) 1).2) 1) < 0
       ·have g96 : (decide ((laws_heldAnnotatedS_m ((laws_markAnnotatedS_m (impl_AnnotateRows_m (laws_toIndex_m x0) (laws_toRowS_m x1)) 1).2) 1) < 0)) = true := decide_eq_true h95
        refine CM_condT rfl g96 ?_
        refine sr (wa (nt' (CM_ret (QM_then_ret ?_))))
        exact rtb (h := by unfold laws_FnExactAnnotateRows_m; exact cond_f g22 (cond_f g24 (cond_t g69 (cond_t g82 (cond_t g89 (cond_f g94 (cond_t g96 (rfl))))))))
       ·have g96 : (decide ((laws_heldAnnotatedS_m ((laws_markAnnotatedS_m (impl_AnnotateRows_m (laws_toIndex_m x0) (laws_toRowS_m x1)) 1).2) 1) < 0)) = false := decide_eq_false h95
        refine CM_condF rfl g96 ?_
        refine CM_skip (QM_then (CM_seq (sr (wm (wm ?_)))))
        refine wv vneq ?_
        refine nt' ?_
        by_cases h97 : (laws_heldAnnotatedS_m ((laws_markAnnotatedS_m (impl_AnnotateRows_m (laws_toIndex_m x0) (laws_toRowS_m x1)) 1).2) 1) = ((laws_markAnnotatedS_m (impl_AnnotateRows_m (laws_toIndex_m x0) (laws_toRowS_m x1)) 1).1)
        ·have g98 : ((laws_heldAnnotatedS_m ((laws_markAnnotatedS_m (impl_AnnotateRows_m (laws_toIndex_m x0) (laws_toRowS_m x1)) 1).2) 1) != ((laws_markAnnotatedS_m (impl_AnnotateRows_m (laws_toIndex_m x0) (laws_toRowS_m x1)) 1).1)) = false := by rw [h97]; exact bne_self_eq_false _
         refine CM_condF rfl g98 ?_
         refine CM_skip (QM_then (sr ?_))
         refine wv (fun W hm => rv_loadN (cs := K1) underlying57 type57 rfl rfl (hm.boxCells (n := 3) rfl)) ?_
         refine wcs tyIndex (laws_toIndex_m x0) (cl_fn cb25 rfl) (fun W hm => laws_toIndex_c W _ x0 (tyLIndex_mk (x := x0) (hm.rdS0 r9) (hm.rdS0 r14)) (smIndex_wt (by omega))) (fun z99 => ?_)
         refine tyIndex_sp ?_
         rintro ⟨v100, v101⟩ rfl
         refine WM_form (n := 0) rfl ?_
         rintro A102 c103 rfl m104
         refine WM_form (n := 1) rfl ?_
         rintro A106 c107 rfl m108
         refine wm ?_
         refine wcl (tSl tyRow 50) (laws_toRowS_m x1) (cl_fn cb26 rfl) (fun W hm => laws_toRowS_c W _ x1 (hm.rdS0 r19) (sm_wtS (by omega) fun y h => (smRow_wt (h)))) (fun z110 => ?_)
         refine WM_form (n := 0) rfl ?_
         rintro A111 c112 rfl m113
         refine wcl (tSl tyAnnotated 52) (impl_AnnotateRows_m (laws_toIndex_m x0) (laws_toRowS_m x1)) (cl_fn cb7 rfl) (fun W hm => impl_AnnotateRows_c W _ (laws_toIndex_m x0) _ (laws_toRowS_m x1) (tyIndex_mk (x := (laws_toIndex_m x0)) (hm.rdSI (n := 1) rfl) (hm.rdSI (n := 2) rfl)) (hm.rdSI (n := 0) rfl) (by rw [laws_toIndex_eq]; exact (smIndex_wt (by omega))) (by rw [laws_toRowS_eq]; exact (sm_wtS (by omega) fun y h => (smRow_wt (h))))) (fun z115 => ?_)
         refine WM_form (n := 0) rfl ?_
         rintro A116 c117 rfl m118
         refine wa (nt' (CM_seq (CM_seq ?_)))
         refine CM_items (pk [0, 4, 6]) ?_
         refine CM_region (wm (wm ?_))
         refine wcv (cl_fn cb27 rfl) (fun W hm => laws_eqAnnotatedS_c W _ (impl_AnnotateRows_m (laws_toIndex_m x0) (laws_toRowS_m x1)) _ (spec_AnnotateRows_m (laws_toIndex_m x0) (laws_toRowS_m x1)) (hm.rdSI (n := 0) rfl) (hm.rdSI (n := 2) rfl)) ?_
         refine wv vnot ?_
         refine nt' ?_
         refine CM_condF rfl (nt g69) ?_
         refine CM_skip (QM_then (sr (wa (nt' (sr (wm (wm ?_)))))))
         refine wcv (cl_fn cb33 rfl) (fun W hm => laws_heldAnnotatedS_c W _ ((laws_markAnnotatedS_m (impl_AnnotateRows_m (laws_toIndex_m x0) (laws_toRowS_m x1)) 1).2) 1 (hm.rdSI (n := 1) rfl)) ?_
         refine wa (nt' (CM_seq (sr (wm ?_))))
         refine wv vlss ?_
         refine nt' ?_
         refine CM_condF rfl g96 ?_
         refine CM_skip (QM_then (CM_seq (sr (wm (wm ?_)))))
         refine wv vneq ?_
         refine nt' ?_
         refine CM_condF rfl g98 ?_
         refine CM_skip (QM_then (sr (wa (nt' (CM_ret ?_)))))
         exact rtb (h := by unfold laws_FnExactAnnotateRows_m; exact cond_f g22 (cond_f g24 (cond_t g69 (cond_t g82 (cond_t g89 (cond_f g94 (cond_f g96 (cond_f g98 (rfl)))))))))
        ·have g98 : ((laws_heldAnnotatedS_m ((laws_markAnnotatedS_m (impl_AnnotateRows_m (laws_toIndex_m x0) (laws_toRowS_m x1)) 1).2) 1) != ((laws_markAnnotatedS_m (impl_AnnotateRows_m (laws_toIndex_m x0) (laws_toRowS_m x1)) 1).1)) = true := bne_iff_ne.2 h97
         refine CM_condT rfl g98 ?_
         refine sr (wa (nt' (CM_ret (QM_then_ret ?_))))
         exact rtb (h := by unfold laws_FnExactAnnotateRows_m; exact cond_f g22 (cond_f g24 (cond_t g69 (cond_t g82 (cond_t g89 (cond_f g94 (cond_f g96 (cond_t g98 (rfl)))))))))
     ·
      refine CM_condT rfl (nf g89) ?_
      refine CM_seq ?_
      refine CM_items (pk []) ?_
      refine CM_region (wa (nt' (CM_ret (QM_then_ret ?_))))
      exact rtb (h := by unfold laws_FnExactAnnotateRows_m; exact cond_f g22 (cond_f g24 (cond_t g69 (cond_t g82 (cond_f g89 (rfl))))))
    ·
     refine CM_condT rfl (nf g82) ?_
     refine CM_seq ?_
     refine CM_items (pk []) ?_
     refine CM_region (wa (nt' (CM_ret (QM_then_ret ?_))))
     exact rtb (h := by unfold laws_FnExactAnnotateRows_m; exact cond_f g22 (cond_f g24 (cond_t g69 (cond_f g82 (rfl)))))
   ·
    refine CM_condT rfl (nf g69) ?_
    refine CM_seq ?_
    refine CM_items (pk []) ?_
    refine CM_region (wa (nt' (CM_ret (QM_then_ret ?_))))
    exact rtb (h := by unfold laws_FnExactAnnotateRows_m; exact cond_f g22 (cond_f g24 (cond_f g69 (rfl))))

end Go.Proofs.Ytdjendhffbjnhaa
