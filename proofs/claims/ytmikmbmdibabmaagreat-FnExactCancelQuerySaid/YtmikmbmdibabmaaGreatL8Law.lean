/-
  The contract of the law.
-/
import Derived.Test.YtmikmbmdibabmaaGreatL8Pl
namespace Go.Proofs.YtmikmbmdibabmaaGreat
open Go.RowKit
set_option maxRecDepth 100000
set_option maxHeartbeats 4000000
open _root_.Go.Proofs.Tryz
def laws_FnExactCancelQuery_m (x0 : DEngine) (x1 : Int) : Bool :=
 cond (decide ((laws_szEngine_m x0 1048576) < 0)) true (cond (laws_eqEngine_m (impl_CancelQuery_m (laws_toEngine_m x0) x1).1 (spec_CancelQuery_m (laws_toEngine_m x0) x1).1) (cond ((impl_CancelQuery_m (laws_toEngine_m x0) x1).2 != (spec_CancelQuery_m (laws_toEngine_m x0) x1).2) false (cond (laws_eqEngine_m (laws_toEngine_m x0) (laws_toEngine_m x0)) (cond (decide ((laws_markEngine_m (laws_toEngine_m x0) 1).1 < 0)) false (cond (decide ((laws_heldEngine_m (⟨(⟨(laws_markEngine_m (impl_CancelQuery_m (laws_toEngine_m x0) x1).1 1).2.Store.Segments, (impl_CancelQuery_m (laws_toEngine_m x0) x1).1.Store.Now⟩ : DStore), (impl_CancelQuery_m (laws_toEngine_m x0) x1).1.Cursor, (laws_markEngine_m (impl_CancelQuery_m (laws_toEngine_m x0) x1).1 1).2.Order, (laws_markEngine_m (impl_CancelQuery_m (laws_toEngine_m x0) x1).1 1).2.Active, (laws_markEngine_m (impl_CancelQuery_m (laws_toEngine_m x0) x1).1 1).2.Done, (laws_markEngine_m (impl_CancelQuery_m (laws_toEngine_m x0) x1).1 1).2.Ledger, (impl_CancelQuery_m (laws_toEngine_m x0) x1).1.Steps⟩ : DEngine) 1) < 0)) false (cond ((laws_heldEngine_m (⟨(⟨(laws_markEngine_m (impl_CancelQuery_m (laws_toEngine_m x0) x1).1 1).2.Store.Segments, (impl_CancelQuery_m (laws_toEngine_m x0) x1).1.Store.Now⟩ : DStore), (impl_CancelQuery_m (laws_toEngine_m x0) x1).1.Cursor, (laws_markEngine_m (impl_CancelQuery_m (laws_toEngine_m x0) x1).1 1).2.Order, (laws_markEngine_m (impl_CancelQuery_m (laws_toEngine_m x0) x1).1 1).2.Active, (laws_markEngine_m (impl_CancelQuery_m (laws_toEngine_m x0) x1).1 1).2.Done, (laws_markEngine_m (impl_CancelQuery_m (laws_toEngine_m x0) x1).1 1).2.Ledger, (impl_CancelQuery_m (laws_toEngine_m x0) x1).1.Steps⟩ : DEngine) 1) != ((laws_markEngine_m (impl_CancelQuery_m (laws_toEngine_m x0) x1).1 1).1)) false (cond (laws_eqEngine_m (impl_CancelQuery_m (laws_toEngine_m x0) x1).1 (spec_CancelQuery_m (laws_toEngine_m x0) x1).1) (cond ((impl_CancelQuery_m (laws_toEngine_m x0) x1).2 != (spec_CancelQuery_m (laws_toEngine_m x0) x1).2) false true) false)))) false)) false)
theorem cb8 : Cb Tryz.prog 8 := ⟨f8, _, func8, rfl, by decide⟩
theorem laws_FnExactCancelQuery_c (w : World) (z0 : List Value) (x0 : DEngine) (x1 : Int) (r_0 : tyLEngine.rd w w.heap.size z0 x0) :
  Calls Tryz.prog 8 #[.agg z0.toArray, .int .i64 x1] w fun e w' => e = .returned (.bool (laws_FnExactCancelQuery_m x0 x1)) ∧ Below w.heap.size w w' := by
 have ok0 := (tyLEngine_sm r_0)
 obtain ⟨v1, v3, v5, v7, v9, rfl, r2, r4, r6, r8, r10⟩ := tyLEngine_rd r_0
 obtain ⟨m11, A12, c13, rfl, q14, r15⟩ := rdS_op r2
 obtain ⟨m16, A17, c18, rfl, q19, r20⟩ := rdS_op r4
 obtain ⟨m21, A22, c23, rfl, q24, r25⟩ := rdS_op r6
 obtain ⟨m26, A27, c28, rfl, q29, r30⟩ := rdS_op r8
 obtain ⟨m31, A32, c33, rfl, q34, r35⟩ := rdS_op r10
 refine ce2 (L := [(0, .agg #[.slice A12 x0.Store.Segments.length c13, .int .i64 x0.Store.Now, .int .i64 x0.Cursor, .slice A17 x0.Order.length c18, .slice A22 x0.Active.length c23, .slice A27 x0.Done.length c28, .slice A32 x0.Ledger.length c33, .int .i64 x0.Steps]), (1, .int .i64 x1)]) (N := 101) func8 ?_
 refine sr ?_
 refine WM_box rfl (Wd_none rfl) (by decide) (fun p36 => ?_)
 refine wa (nt' (sr (wa (nt' (sr ?_)))))
 let K1 : List Value := [.slice A12 x0.Store.Segments.length c13, .int .i64 x0.Store.Now, .int .i64 x0.Cursor, .slice A17 x0.Order.length c18, .slice A22 x0.Active.length c23, .slice A27 x0.Done.length c28, .slice A32 x0.Ledger.length c33, .int .i64 x0.Steps]
 refine wv (fun W hm => rv_loadN (cs := K1) underlying30 type30 rfl rfl (hm.boxCells (n := 0) rfl)) ?_
 refine wm ?_
 refine wcv (cl_fn cb14 rfl) (fun W hm => laws_szEngine_c W _ x0 1048576 (tyLEngine_mk (x := x0) (hm.rdS0 r15) (hm.rdS0 r20) (hm.rdS0 r25) (hm.rdS0 r30) (hm.rdS0 r35))) ?_
 refine wa (nt' (CM_seq (sr (wm ?_))))
 refine wv vlss ?_
 refine nt' ?_
 by_cases h37 : (laws_szEngine_m x0 1048576) < 0
 ·have g38 := decide_eq_true h37
  refine CM_condT rfl g38 ?_
  refine sr (wa (nt' (CM_ret (QM_then_ret ?_))))
  exact rtb (h := cond_t g38 (rfl))
 ·have g38 := decide_eq_false h37
  obtain ⟨hz0, hy0, hw0⟩ := sz_small laws_szEngine_ok ok0 (by omega) (by omega) g38
  refine CM_condF rfl g38 ?_
  refine CM_skip (QM_then (sr ?_))
  refine wv (fun W hm => rv_loadN (cs := K1) underlying30 type30 rfl rfl (hm.boxCells (n := 0) rfl)) ?_
  refine wcs tyEngine (laws_toEngine_m x0) (cl_fn cb16 rfl) (fun W hm => laws_toEngine_c W _ x0 (tyLEngine_mk (x := x0) (hm.rdS0 r15) (hm.rdS0 r20) (hm.rdS0 r25) (hm.rdS0 r30) (hm.rdS0 r35)) (smEngine_wt (by omega))) (fun z39 => ?_)
  refine tyEngine_sp ?_
  rintro ⟨v40, v41, v42, v43, v44⟩ rfl
  refine WM_form (n := 0) rfl ?_
  rintro A45 c46 rfl m47
  refine WM_form (n := 1) rfl ?_
  rintro A49 c50 rfl m51
  refine WM_form (n := 2) rfl ?_
  rintro A53 c54 rfl m55
  refine WM_form (n := 3) rfl ?_
  rintro A57 c58 rfl m59
  refine WM_form (n := 4) rfl ?_
  rintro A61 c62 rfl m63
  refine wm ?_
  refine WM_call (χ := List Value) (val := fun x => .tuple #[.agg x.toArray, .bool ((spec_CancelQuery_m (laws_toEngine_m x0) x1).2)]) (js := fun x => [iOwn tyEngine x ((spec_CancelQuery_m (laws_toEngine_m x0) x1).1)]) (cl_fn cb41 rfl) (fun W hm => spec_CancelQuery_c W _ (laws_toEngine_m x0) x1 (tyEngine_mk (x := (laws_toEngine_m x0)) (hm.rdSI (n := 0) rfl) (hm.rdSI (n := 1) rfl) (hm.rdSI (n := 2) rfl) (hm.rdSI (n := 3) rfl) (hm.rdSI (n := 4) rfl)) (by rw [laws_toEngine_eq]; exact (smEngine_wt (by omega)))) (Wd_none rfl) (by decide) (fun z65 => ?_)
  obtain ⟨G66, hG66⟩ : ∃ G, G = (spec_CancelQuery_m (laws_toEngine_m x0) x1) := ⟨_, rfl⟩
  rw [← hG66]
  refine tyEngine_sp ?_
  rintro ⟨v67, v68, v69, v70, v71⟩ rfl
  refine WM_form (n := 0) rfl ?_
  rintro A72 c73 rfl m74
  refine WM_form (n := 1) rfl ?_
  rintro A76 c77 rfl m78
  refine WM_form (n := 2) rfl ?_
  rintro A80 c81 rfl m82
  refine WM_form (n := 3) rfl ?_
  rintro A84 c85 rfl m86
  refine WM_form (n := 4) rfl ?_
  rintro A88 c89 rfl m90
  refine wm ?_
  refine wv (fun W hm => rv_extract rfl rfl) ?_
  refine wv (fun W hm => rv_extract rfl rfl) ?_
  refine WM_alloc type47 rfl (Wd_none rfl) (by decide) (fun p92 => ?_)
  let K2 : List Value := [.slice A72 G66.1.Store.Segments.length c73, .int .i64 G66.1.Store.Now, .int .i64 G66.1.Cursor, .slice A76 G66.1.Order.length c77, .slice A80 G66.1.Active.length c81, .slice A84 G66.1.Done.length c85, .slice A88 G66.1.Ledger.length c89, .int .i64 G66.1.Steps]
  let I7 : It := iOwn (tSl (tSl tyVersion 191) 131) [.slice A72 G66.1.Store.Segments.length c73] G66.1.Store.Segments
  let I8 : It := iOwn (tSl tInt 3) [.slice A76 G66.1.Order.length c77] G66.1.Order
  let I9 : It := iOwn (tSl tyActive 64) [.slice A80 G66.1.Active.length c81] G66.1.Active
  let I10 : It := iOwn (tSl tyFinished 37) [.slice A84 G66.1.Done.length c85] G66.1.Done
  let I11 : It := iOwn (tSl tyCharge 133) [.slice A88 G66.1.Ledger.length c89] G66.1.Ledger
  refine sb 0 K2 [I7, I8, I9, I10, I11, iOwn (tSl (tSl tyVersion 191) 131) [.slice A45 ((laws_toEngine_m x0).Store.Segments).length c46] ((laws_toEngine_m x0).Store.Segments), iOwn (tSl tInt 3) [.slice A49 ((laws_toEngine_m x0).Order).length c50] ((laws_toEngine_m x0).Order), iOwn (tSl tyActive 64) [.slice A53 ((laws_toEngine_m x0).Active).length c54] ((laws_toEngine_m x0).Active), iOwn (tSl tyFinished 37) [.slice A57 ((laws_toEngine_m x0).Done).length c58] ((laws_toEngine_m x0).Done), iOwn (tSl tyCharge 133) [.slice A61 ((laws_toEngine_m x0).Ledger).length c62] ((laws_toEngine_m x0).Ledger), iBox p36 30 K1] (fun W hm => hm) type47 ?_
  refine wa (nt' (CM_seq ?_))
  refine CM_items (pk [0, 1, 2, 3, 4, 5, 11]) ?_
  refine CM_region ?_
  refine wv (fun W hm => rv_loadN (cs := K1) underlying30 type30 rfl rfl (hm.boxCells (n := 6) rfl)) ?_
  refine wcs tyEngine (laws_toEngine_m x0) (cl_fn cb16 rfl) (fun W hm => laws_toEngine_c W _ x0 (tyLEngine_mk (x := x0) (hm.rdS0 r15) (hm.rdS0 r20) (hm.rdS0 r25) (hm.rdS0 r30) (hm.rdS0 r35)) (smEngine_wt (by omega))) (fun z93 => ?_)
  refine tyEngine_sp ?_
  rintro ⟨v94, v95, v96, v97, v98⟩ rfl
  refine WM_form (n := 0) rfl ?_
  rintro A99 c100 rfl m101
  refine WM_form (n := 1) rfl ?_
  rintro A103 c104 rfl m105
  refine WM_form (n := 2) rfl ?_
  rintro A107 c108 rfl m109
  refine WM_form (n := 3) rfl ?_
  rintro A111 c112 rfl m113
  refine WM_form (n := 4) rfl ?_
  rintro A115 c116 rfl m117
  refine WM_alloc type47 rfl (Wd_none rfl) (by decide) (fun p119 => ?_)
  let K3 : List Value := [.slice A99 ((laws_toEngine_m x0).Store.Segments).length c100, .int .i64 ((laws_toEngine_m x0).Store.Now), .int .i64 ((laws_toEngine_m x0).Cursor), .slice A103 ((laws_toEngine_m x0).Order).length c104, .slice A107 ((laws_toEngine_m x0).Active).length c108, .slice A111 ((laws_toEngine_m x0).Done).length c112, .slice A115 ((laws_toEngine_m x0).Ledger).length c116, .int .i64 ((laws_toEngine_m x0).Steps)]
  let K4 : List Value := [.slice A99 ((laws_toEngine_m x0).Store.Segments).length c100]
  let I12 : It := iOwn (tSl (tSl tyVersion 191) 131) K4 ((laws_toEngine_m x0).Store.Segments)
  let I13 : It := iOwn (tSl tInt 3) [.slice A103 ((laws_toEngine_m x0).Order).length c104] ((laws_toEngine_m x0).Order)
  let I14 : It := iOwn (tSl tyActive 64) [.slice A107 ((laws_toEngine_m x0).Active).length c108] ((laws_toEngine_m x0).Active)
  let I15 : It := iOwn (tSl tyFinished 37) [.slice A111 ((laws_toEngine_m x0).Done).length c112] ((laws_toEngine_m x0).Done)
  let I16 : It := iOwn (tSl tyCharge 133) [.slice A115 ((laws_toEngine_m x0).Ledger).length c116] ((laws_toEngine_m x0).Ledger)
  refine sb 0 K3 [I12, I13, I14, I15, I16, iBox p92 47 K2, I7, I8, I9, I10, I11, iBox p36 30 K1] (fun W hm => hm) type47 ?_
  refine nt' (sr ?_)
  refine wv (fun W hm => rv_loadN (cs := K3) underlying47 type47 rfl rfl (hm.boxCells (n := 0) rfl)) ?_
  refine wm ?_
  refine WM_call (χ := List Value) (val := fun x => .tuple #[.agg x.toArray, .bool ((impl_CancelQuery_m (laws_toEngine_m x0) x1).2)]) (js := fun x => [iOwn tyEngine x ((impl_CancelQuery_m (laws_toEngine_m x0) x1).1)]) (cl_fn cb39 rfl) (fun W hm => impl_CancelQuery_c W _ (laws_toEngine_m x0) x1 (tyEngine_mk (x := (laws_toEngine_m x0)) (hm.rdSI (n := 1) rfl) (hm.rdSI (n := 2) rfl) (hm.rdSI (n := 3) rfl) (hm.rdSI (n := 4) rfl) (hm.rdSI (n := 5) rfl)) (by rw [laws_toEngine_eq]; exact (smEngine_wt (by omega)))) (Wd_none rfl) (by decide) (fun z120 => ?_)
  obtain ⟨G121, hG121⟩ : ∃ G, G = (impl_CancelQuery_m (laws_toEngine_m x0) x1) := ⟨_, rfl⟩
  rw [← hG121]
  refine tyEngine_sp ?_
  rintro ⟨v122, v123, v124, v125, v126⟩ rfl
  refine WM_form (n := 0) rfl ?_
  rintro A127 c128 rfl m129
  refine WM_form (n := 1) rfl ?_
  rintro A131 c132 rfl m133
  refine WM_form (n := 2) rfl ?_
  rintro A135 c136 rfl m137
  refine WM_form (n := 3) rfl ?_
  rintro A139 c140 rfl m141
  refine WM_form (n := 4) rfl ?_
  rintro A143 c144 rfl m145
  refine wm ?_
  refine wv (fun W hm => rv_extract rfl rfl) ?_
  refine wv (fun W hm => rv_extract rfl rfl) ?_
  refine WM_alloc type47 rfl (Wd_none rfl) (by decide) (fun p147 => ?_)
  let K5 : List Value := [.slice A127 G121.1.Store.Segments.length c128, .int .i64 G121.1.Store.Now, .int .i64 G121.1.Cursor, .slice A131 G121.1.Order.length c132, .slice A135 G121.1.Active.length c136, .slice A139 G121.1.Done.length c140, .slice A143 G121.1.Ledger.length c144, .int .i64 G121.1.Steps]
  let I17 : It := iOwn (tSl (tSl tyVersion 191) 131) [.slice A127 G121.1.Store.Segments.length c128] G121.1.Store.Segments
  let I18 : It := iOwn (tSl tInt 3) [.slice A131 G121.1.Order.length c132] G121.1.Order
  let I19 : It := iOwn (tSl tyActive 64) [.slice A135 G121.1.Active.length c136] G121.1.Active
  let I20 : It := iOwn (tSl tyFinished 37) [.slice A139 G121.1.Done.length c140] G121.1.Done
  let I21 : It := iOwn (tSl tyCharge 133) [.slice A143 G121.1.Ledger.length c144] G121.1.Ledger
  refine sb 0 K5 [I17, I18, I19, I20, I21, iBox p119 47 K3, I12, I13, I14, I15, I16, iBox p92 47 K2, I7, I8, I9, I10, I11, iBox p36 30 K1] (fun W hm => hm) type47 ?_
  refine wa (nt' (CM_seq (sr ?_)))
  refine wv (fun W hm => rv_loadN (cs := K5) underlying47 type47 rfl rfl (hm.boxCells (n := 0) rfl)) ?_
  refine wv (fun W hm => rv_loadN (cs := K2) underlying47 type47 rfl rfl (hm.boxCells (n := 12) rfl)) ?_
  refine wcv (cl_fn cb19 rfl) (fun W hm => laws_eqEngine_c W _ G121.1 _ G66.1 (tyEngine_mk (x := G121.1) (hm.rdSI (n := 1) rfl) (hm.rdSI (n := 2) rfl) (hm.rdSI (n := 3) rfl) (hm.rdSI (n := 4) rfl) (hm.rdSI (n := 5) rfl)) (tyEngine_mk (x := G66.1) (hm.rdSI (n := 13) rfl) (hm.rdSI (n := 14) rfl) (hm.rdSI (n := 15) rfl) (hm.rdSI (n := 16) rfl) (hm.rdSI (n := 17) rfl))) ?_
  refine wv vnot ?_
  refine wm ?_
  rcases Bool.eq_false_or_eq_true (laws_eqEngine_m G121.1 G66.1) with g149 | g149
  ·
   refine wg vmv (nt g149) ?_
   refine wg vmv (nt g149) ?_
   refine wg (fun W hm => rv_neqB underlying4 rfl rfl) (nt g149) ?_
   refine wv (vpF (nt g149)) ?_
   refine nt' ?_
   rcases Bool.eq_false_or_eq_true (G121.2 != G66.2) with g151 | g151
   ·
    refine CM_condT rfl g151 ?_
    refine CM_seq ?_
    refine CM_items (pk []) ?_
    refine CM_region (wa (nt' (CM_ret (QM_then_ret ?_))))
    exact rtb (h := by subst hG66 hG121; exact cond_f g38 (cond_t g149 (cond_t g151 (rfl))))
   ·
    refine CM_condF rfl g151 ?_
    refine CM_skip (QM_then (CM_seq (CM_seq ?_)))
    refine rb 5 (s := [iBox p147 47 K5, I17, I18, I19, I20, I21, iBox p119 47 K3, I12, I13, I14, I15, I16, iBox p92 47 K2, I7, I8, I9, I10, I11, iBox p36 30 K1]) (fun W hm => hm) ?_
    refine qt 5 0 1 rfl (fun W hm => rv_loadN (cs := K3) underlying47 type47 rfl rfl (hm.boxCells (n := 6) rfl)) ?_
    refine qt 5 1 3 rfl (fun W hm => rv_loadN (cs := K1) underlying30 type30 rfl rfl (hm.boxCells (n := 18) rfl)) ?_
    refine qo 5 2 7 rfl ?_
    refine wcs tyEngine (laws_toEngine_m x0) (cl_fn cb16 rfl) (fun W hm => laws_toEngine_c W _ x0 (tyLEngine_mk (x := x0) (hm.rdS0 r15) (hm.rdS0 r20) (hm.rdS0 r25) (hm.rdS0 r30) (hm.rdS0 r35)) (smEngine_wt (by omega))) (fun z152 => ?_)
    refine tyEngine_sp ?_
    rintro ⟨v153, v154, v155, v156, v157⟩ rfl
    refine WM_form (n := 0) rfl ?_
    rintro A158 c159 rfl m160
    refine WM_form (n := 1) rfl ?_
    rintro A162 c163 rfl m164
    refine WM_form (n := 2) rfl ?_
    rintro A166 c167 rfl m168
    refine WM_form (n := 3) rfl ?_
    rintro A170 c171 rfl m172
    refine WM_form (n := 4) rfl ?_
    rintro A174 c175 rfl m176
    refine qn (pk [5, 6, 7, 8, 9, 10, 11, 12, 13, 14, 15, 16, 17, 18, 19, 20, 21, 22, 23]) ?_
    refine qo 5 3 15 rfl ?_
    refine wcv (cl_fn cb19 rfl) (fun W hm => laws_eqEngine_c W _ (laws_toEngine_m x0) _ (laws_toEngine_m x0) (tyEngine_mk (x := (laws_toEngine_m x0)) (hm.rdSI (n := 12) rfl) (hm.rdSI (n := 13) rfl) (hm.rdSI (n := 14) rfl) (hm.rdSI (n := 15) rfl) (hm.rdSI (n := 16) rfl)) (tyEngine_mk (x := (laws_toEngine_m x0)) (hm.rdSI (n := 0) rfl) (hm.rdSI (n := 1) rfl) (hm.rdSI (n := 2) rfl) (hm.rdSI (n := 3) rfl) (hm.rdSI (n := 4) rfl))) ?_
    refine qn (pk [5, 6, 7, 8, 9, 10, 11, 12, 13, 14, 15, 16, 17, 18, 19, 20, 21, 22, 23]) ?_
    refine qt 5 4 31 rfl vnot ?_
    refine QB_done (by kernel_rfl) ?_
    refine QM_then ?_
    rcases Bool.eq_false_or_eq_true (laws_eqEngine_m (laws_toEngine_m x0) (laws_toEngine_m x0)) with g179 | g179
    ·
     refine CM_condF rfl (nt g179) ?_
     refine CM_skip (QM_then (CM_seq ?_))
     refine CM_items (pk [5, 6, 7, 8, 9, 10, 11, 12, 13, 14, 15, 16, 17, 18, 19, 20, 21, 22, 23]) ?_
     refine CM_region (wa (nt' (sr ?_)))
     refine wv (fun W hm => rv_loadN (cs := K3) underlying47 type47 rfl rfl (hm.boxCells (n := 6) rfl)) ?_
     refine wm ?_
     refine WM_items (js := (iOwn tyEngine K3 (laws_toEngine_m x0) :: [iBox p147 47 K5, I17, I18, I19, I20, I21, iBox p119 47 K3, iBox p92 47 K2, I7, I8, I9, I10, I11, iBox p36 30 K1])) (fun W hm => Mem.join (is := [I12, I13, I14, I15, I16]) (js := [iBox p147 47 K5, I17, I18, I19, I20, I21, iBox p119 47 K3, iBox p92 47 K2, I7, I8, I9, I10, I11, iBox p36 30 K1]) (fun _ _ hs => tyEngine_join (x := (laws_toEngine_m x0)) hs) (hm.pick [7, 8, 9, 10, 11, 0, 1, 2, 3, 4, 5, 6, 12, 13, 14, 15, 16, 17, 18] (by decide))) ?_
     refine cw (cl_fn cb20 rfl) (fun W hm => laws_markEngine_c w.heap.size w [iBox p147 47 K5, I17, I18, I19, I20, I21, iBox p119 47 K3, iBox p92 47 K2, I7, I8, I9, I10, I11, iBox p36 30 K1] W K3 (laws_toEngine_m x0) 1 hm) ?_
     obtain ⟨G180, hG180⟩ : ∃ G, G = (laws_markEngine_m (laws_toEngine_m x0) 1) := ⟨_, rfl⟩
     rw [← hG180]
     refine tyEngine_sp ?_
     rintro ⟨v182, v183, v184, v185, v186⟩ h181
     simp +zetaDelta only [List.cons.injEq] at h181
     obtain ⟨rfl, -, -, rfl, rfl, rfl, rfl, -, -⟩ := h181
     refine wa (nt' (CM_seq (CM_seq ?_)))
     refine CM_items (pk [5, 6, 7, 8, 9, 10, 12, 13, 14, 15, 16, 17, 18]) ?_
     refine CM_region (wm ?_)
     refine wv vlss ?_
     refine wm ?_
     by_cases h187 : G180.1 < 0
     ·have g188 := decide_eq_true h187
      refine ws g188 ?_
      refine ws g188 ?_
      refine ws g188 ?_
      refine ws g188 ?_
      refine wv (vpT g188) ?_
      refine wm ?_
      refine wk ?_
      refine wk ?_
      refine wk ?_
      refine wv (vpT rfl) ?_
      refine nt' ?_
      refine CM_condT rfl rfl ?_
      refine CM_seq ?_
      refine CM_items (pk []) ?_
      refine CM_region (wa (nt' (CM_ret (QM_then_ret ?_))))
      exact rtb (h := by subst hG66 hG121 hG180; exact cond_f g38 (cond_t g149 (cond_f g151 (cond_t g179 (cond_t g188 (rfl))))))
     ·have g188 := decide_eq_false h187
      refine wg (fun W hm => rv_loadN (cs := K5) underlying47 type47 rfl rfl (hm.boxCells (n := 0) rfl)) g188 ?_
      refine wg (fun W hm => rv_loadN (cs := K2) underlying47 type47 rfl rfl (hm.boxCells (n := 6) rfl)) g188 ?_
      refine WM_callV (cl_fn cb19 rfl) (fun W hm => laws_eqEngine_c W _ G121.1 _ G66.1 (tyEngine_mk (x := G121.1) (hm.rdSI (n := 1) rfl) (hm.rdSI (n := 2) rfl) (hm.rdSI (n := 3) rfl) (hm.rdSI (n := 4) rfl) (hm.rdSI (n := 5) rfl)) (tyEngine_mk (x := G66.1) (hm.rdSI (n := 7) rfl) (hm.rdSI (n := 8) rfl) (hm.rdSI (n := 9) rfl) (hm.rdSI (n := 10) rfl) (hm.rdSI (n := 11) rfl))) (Wd_some rfl rfl rfl (bw g188 rfl)) (by decide) ?_
      refine wg vnot g188 ?_
      refine wv (vpF g188) ?_
      refine wm ?_
      refine wg vmv (nt g149) ?_
      refine wg vmv (nt g149) ?_
      refine wg (fun W hm => rv_neqB underlying4 rfl rfl) (nt g149) ?_
      refine wv (vpF (nt g149)) ?_
      refine nt' ?_
      refine CM_condF rfl g151 ?_
      refine CM_skip (QM_then (sr (wa (nt' (sr ?_)))))
      refine wv (fun W hm => rv_loadN (cs := K5) underlying47 type47 rfl rfl (hm.boxCells (n := 0) rfl)) ?_
      refine wm ?_
      refine WM_items (js := (iOwn tyEngine K5 G121.1 :: [iBox p147 47 K5, iBox p92 47 K2, I7, I8, I9, I10, I11, iBox p36 30 K1])) (fun W hm => Mem.join (is := [I17, I18, I19, I20, I21]) (js := [iBox p147 47 K5, iBox p92 47 K2, I7, I8, I9, I10, I11, iBox p36 30 K1]) (fun _ _ hs => tyEngine_join (x := G121.1) hs) (hm.pick [1, 2, 3, 4, 5, 0, 6, 7, 8, 9, 10, 11, 12] (by decide))) ?_
      refine cw (cl_fn cb20 rfl) (fun W hm => laws_markEngine_c w.heap.size w [iBox p147 47 K5, iBox p92 47 K2, I7, I8, I9, I10, I11, iBox p36 30 K1] W K5 G121.1 1 hm) ?_
      refine tyEngine_sp ?_
      rintro ⟨v190, v191, v192, v193, v194⟩ h189
      simp +zetaDelta only [List.cons.injEq] at h189
      obtain ⟨rfl, -, -, rfl, rfl, rfl, rfl, -, -⟩ := h189
      refine wa (nt' (sr (wa (nt' (sr ?_)))))
      refine wv (fun W hm => rv_loadN (cs := K5) underlying47 type47 rfl rfl (hm.boxCells (n := 5) rfl)) ?_
      refine wm ?_
      refine wcv (cl_fn cb51 rfl) (fun W hm => laws_heldEngine_c W _ (⟨(⟨(laws_markEngine_m G121.1 1).2.Store.Segments, G121.1.Store.Now⟩ : DStore), G121.1.Cursor, (laws_markEngine_m G121.1 1).2.Order, (laws_markEngine_m G121.1 1).2.Active, (laws_markEngine_m G121.1 1).2.Done, (laws_markEngine_m G121.1 1).2.Ledger, G121.1.Steps⟩ : DEngine) 1 (tyEngine_mk (x := (⟨(⟨(laws_markEngine_m G121.1 1).2.Store.Segments, G121.1.Store.Now⟩ : DStore), G121.1.Cursor, (laws_markEngine_m G121.1 1).2.Order, (laws_markEngine_m G121.1 1).2.Active, (laws_markEngine_m G121.1 1).2.Done, (laws_markEngine_m G121.1 1).2.Ledger, G121.1.Steps⟩ : DEngine)) (hm.rdSI (n := 0) rfl) (hm.rdSI (n := 1) rfl) (hm.rdSI (n := 2) rfl) (hm.rdSI (n := 3) rfl) (hm.rdSI (n := 4) rfl))) ?_
      refine wa (nt' (CM_seq (sr (wm ?_))))
      refine wv vlss ?_
      refine nt' ?_
      by_cases h195 : (laws_heldEngine_m (⟨(⟨(laws_markEngine_m G121.1 1).2.Store.Segments, G121.1.Store.Now⟩ : DStore), G121.1.Cursor, (laws_markEngine_m G121.1 1).2.Order, (laws_markEngine_m G121.1 1).2.Active, (laws_markEngine_m G121.1 1).2.Done, (laws_markEngine_m G121.1 1).2.Ledger, G121.1.Steps⟩ : DEngine) 1) < 0
      ·have g196 := decide_eq_true h195
       refine CM_condT rfl g196 ?_
       refine CM_seq ?_
       refine CM_items (pk []) ?_
       refine CM_region (wa (nt' (CM_ret (QM_then_ret ?_))))
       exact rtb (h := by subst hG66 hG121 hG180; exact cond_f g38 (cond_t g149 (cond_f g151 (cond_t g179 (cond_f g188 (cond_t g196 (rfl)))))))
      ·have g196 := decide_eq_false h195
       refine CM_condF rfl g196 ?_
       refine CM_skip (QM_then (CM_seq (sr (wm (wm ?_)))))
       refine wv vneq ?_
       refine nt' ?_
       by_cases h197 : (laws_heldEngine_m (⟨(⟨(laws_markEngine_m G121.1 1).2.Store.Segments, G121.1.Store.Now⟩ : DStore), G121.1.Cursor, (laws_markEngine_m G121.1 1).2.Order, (laws_markEngine_m G121.1 1).2.Active, (laws_markEngine_m G121.1 1).2.Done, (laws_markEngine_m G121.1 1).2.Ledger, G121.1.Steps⟩ : DEngine) 1) = ((laws_markEngine_m G121.1 1).1)
       ·have g198 : ((laws_heldEngine_m (⟨(⟨(laws_markEngine_m G121.1 1).2.Store.Segments, G121.1.Store.Now⟩ : DStore), G121.1.Cursor, (laws_markEngine_m G121.1 1).2.Order, (laws_markEngine_m G121.1 1).2.Active, (laws_markEngine_m G121.1 1).2.Done, (laws_markEngine_m G121.1 1).2.Ledger, G121.1.Steps⟩ : DEngine) 1) != ((laws_markEngine_m G121.1 1).1)) = false := by rw [h197]; exact bne_self_eq_false _
        refine CM_condF rfl g198 ?_
        refine CM_skip (QM_then (sr ?_))
        refine wv (fun W hm => rv_loadN (cs := K1) underlying30 type30 rfl rfl (hm.boxCells (n := 12) rfl)) ?_
        refine wcs tyEngine (laws_toEngine_m x0) (cl_fn cb16 rfl) (fun W hm => laws_toEngine_c W _ x0 (tyLEngine_mk (x := x0) (hm.rdS0 r15) (hm.rdS0 r20) (hm.rdS0 r25) (hm.rdS0 r30) (hm.rdS0 r35)) (smEngine_wt (by omega))) (fun z199 => ?_)
        refine tyEngine_sp ?_
        rintro ⟨v200, v201, v202, v203, v204⟩ rfl
        refine WM_form (n := 0) rfl ?_
        rintro A205 c206 rfl m207
        refine WM_form (n := 1) rfl ?_
        rintro A209 c210 rfl m211
        refine WM_form (n := 2) rfl ?_
        rintro A213 c214 rfl m215
        refine WM_form (n := 3) rfl ?_
        rintro A217 c218 rfl m219
        refine WM_form (n := 4) rfl ?_
        rintro A221 c222 rfl m223
        refine wm ?_
        refine WM_call (χ := List Value) (val := fun x => .tuple #[.agg x.toArray, .bool ((impl_CancelQuery_m (laws_toEngine_m x0) x1).2)]) (js := fun x => [iOwn tyEngine x ((impl_CancelQuery_m (laws_toEngine_m x0) x1).1)]) (cl_fn cb39 rfl) (fun W hm => impl_CancelQuery_c W _ (laws_toEngine_m x0) x1 (tyEngine_mk (x := (laws_toEngine_m x0)) (hm.rdSI (n := 0) rfl) (hm.rdSI (n := 1) rfl) (hm.rdSI (n := 2) rfl) (hm.rdSI (n := 3) rfl) (hm.rdSI (n := 4) rfl)) (by rw [laws_toEngine_eq]; exact (smEngine_wt (by omega)))) (Wd_none rfl) (by decide) (fun z225 => ?_)
        obtain ⟨G226, hG226⟩ : ∃ G, G = (impl_CancelQuery_m (laws_toEngine_m x0) x1) := ⟨_, rfl⟩
        rw [← hG226]
        refine tyEngine_sp ?_
        rintro ⟨v227, v228, v229, v230, v231⟩ rfl
        refine WM_form (n := 0) rfl ?_
        rintro A232 c233 rfl m234
        refine WM_form (n := 1) rfl ?_
        rintro A236 c237 rfl m238
        refine WM_form (n := 2) rfl ?_
        rintro A240 c241 rfl m242
        refine WM_form (n := 3) rfl ?_
        rintro A244 c245 rfl m246
        refine WM_form (n := 4) rfl ?_
        rintro A248 c249 rfl m250
        refine wm ?_
        refine wv (fun W hm => rv_extract rfl rfl) ?_
        refine wv (fun W hm => rv_extract rfl rfl) ?_
        refine WM_alloc type47 rfl (Wd_none rfl) (by decide) (fun p252 => ?_)
        let K6 : List Value := [.slice A232 G226.1.Store.Segments.length c233, .int .i64 G226.1.Store.Now, .int .i64 G226.1.Cursor, .slice A236 G226.1.Order.length c237, .slice A240 G226.1.Active.length c241, .slice A244 G226.1.Done.length c245, .slice A248 G226.1.Ledger.length c249, .int .i64 G226.1.Steps]
        refine sb 0 K6 [iOwn (tSl (tSl tyVersion 191) 131) [.slice A232 G226.1.Store.Segments.length c233] G226.1.Store.Segments, iOwn (tSl tInt 3) [.slice A236 G226.1.Order.length c237] G226.1.Order, iOwn (tSl tyActive 64) [.slice A240 G226.1.Active.length c241] G226.1.Active, iOwn (tSl tyFinished 37) [.slice A244 G226.1.Done.length c245] G226.1.Done, iOwn (tSl tyCharge 133) [.slice A248 G226.1.Ledger.length c249] G226.1.Ledger, iOwn (tSl (tSl tyVersion 191) 131) [.slice A205 ((laws_toEngine_m x0).Store.Segments).length c206] ((laws_toEngine_m x0).Store.Segments), iOwn (tSl tInt 3) [.slice A209 ((laws_toEngine_m x0).Order).length c210] ((laws_toEngine_m x0).Order), iOwn (tSl tyActive 64) [.slice A213 ((laws_toEngine_m x0).Active).length c214] ((laws_toEngine_m x0).Active), iOwn (tSl tyFinished 37) [.slice A217 ((laws_toEngine_m x0).Done).length c218] ((laws_toEngine_m x0).Done), iOwn (tSl tyCharge 133) [.slice A221 ((laws_toEngine_m x0).Ledger).length c222] ((laws_toEngine_m x0).Ledger), iOwn (tSl (tSl tyVersion 191) 131) [.slice A127 G121.1.Store.Segments.length c128] ((laws_markEngine_m G121.1 1).2.Store.Segments), iOwn (tSl tInt 3) [.slice A131 G121.1.Order.length c132] ((laws_markEngine_m G121.1 1).2.Order), iOwn (tSl tyActive 64) [.slice A135 G121.1.Active.length c136] ((laws_markEngine_m G121.1 1).2.Active), iOwn (tSl tyFinished 37) [.slice A139 G121.1.Done.length c140] ((laws_markEngine_m G121.1 1).2.Done), iOwn (tSl tyCharge 133) [.slice A143 G121.1.Ledger.length c144] ((laws_markEngine_m G121.1 1).2.Ledger), iBox p147 47 K5, iBox p92 47 K2, I7, I8, I9, I10, I11, iBox p36 30 K1] (fun W hm => hm) type47 ?_
        refine wa (nt' (CM_seq (CM_seq ?_)))
        refine CM_items (pk [0, 1, 2, 3, 4, 5, 11, 12, 13, 14, 15, 16, 17, 18, 19, 20, 21, 22]) ?_
        refine CM_region ?_
        refine wv (fun W hm => rv_loadN (cs := K6) underlying47 type47 rfl rfl (hm.boxCells (n := 0) rfl)) ?_
        refine wv (fun W hm => rv_loadN (cs := K2) underlying47 type47 rfl rfl (hm.boxCells (n := 12) rfl)) ?_
        refine wcv (cl_fn cb19 rfl) (fun W hm => laws_eqEngine_c W _ G226.1 _ G66.1 (tyEngine_mk (x := G226.1) (hm.rdSI (n := 1) rfl) (hm.rdSI (n := 2) rfl) (hm.rdSI (n := 3) rfl) (hm.rdSI (n := 4) rfl) (hm.rdSI (n := 5) rfl)) (tyEngine_mk (x := G66.1) (hm.rdSI (n := 13) rfl) (hm.rdSI (n := 14) rfl) (hm.rdSI (n := 15) rfl) (hm.rdSI (n := 16) rfl) (hm.rdSI (n := 17) rfl))) ?_
        refine wv vnot ?_
        refine wm ?_
        rcases Bool.eq_false_or_eq_true (laws_eqEngine_m G226.1 G66.1) with g254 | g254
        ·
         refine wg vmv (nt g254) ?_
         refine wg vmv (nt g254) ?_
         refine wg (fun W hm => rv_neqB underlying4 rfl rfl) (nt g254) ?_
         refine wv (vpF (nt g254)) ?_
         refine nt' ?_
         rcases Bool.eq_false_or_eq_true (G226.2 != G66.2) with g256 | g256
         ·
          refine CM_condT rfl g256 ?_
          refine CM_seq ?_
          refine CM_items (pk []) ?_
          refine CM_region (wa (nt' (CM_ret (QM_then_ret ?_))))
          exact rtb (h := by subst hG66 hG121 hG180 hG226; exact cond_f g38 (cond_t g149 (cond_f g151 (cond_t g179 (cond_f g188 (cond_f g196 (cond_f g198 (cond_t g254 (cond_t g256 (rfl))))))))))
         ·
          refine CM_condF rfl g256 ?_
          refine CM_skip (QM_then (CM_seq ?_))
          refine CM_items (pk [6, 7, 8, 9, 10, 11]) ?_
          refine CM_region (wa (nt' (sr ?_)))
          refine wv (fun W hm => rv_loadN (cs := K5) underlying47 type47 rfl rfl (hm.boxCells (n := 5) rfl)) ?_
          refine wm ?_
          refine wcv (cl_fn cb51 rfl) (fun W hm => laws_heldEngine_c W _ (⟨(⟨(laws_markEngine_m G121.1 1).2.Store.Segments, G121.1.Store.Now⟩ : DStore), G121.1.Cursor, (laws_markEngine_m G121.1 1).2.Order, (laws_markEngine_m G121.1 1).2.Active, (laws_markEngine_m G121.1 1).2.Done, (laws_markEngine_m G121.1 1).2.Ledger, G121.1.Steps⟩ : DEngine) 1 (tyEngine_mk (x := (⟨(⟨(laws_markEngine_m G121.1 1).2.Store.Segments, G121.1.Store.Now⟩ : DStore), G121.1.Cursor, (laws_markEngine_m G121.1 1).2.Order, (laws_markEngine_m G121.1 1).2.Active, (laws_markEngine_m G121.1 1).2.Done, (laws_markEngine_m G121.1 1).2.Ledger, G121.1.Steps⟩ : DEngine)) (hm.rdSI (n := 0) rfl) (hm.rdSI (n := 1) rfl) (hm.rdSI (n := 2) rfl) (hm.rdSI (n := 3) rfl) (hm.rdSI (n := 4) rfl))) ?_
          refine wa (nt' (CM_seq (CM_seq ?_)))
          refine CM_items (pk []) ?_
          refine CM_region (wm ?_)
          refine wv vlss ?_
          refine nt' ?_
          refine CM_condF rfl g196 ?_
          refine CM_skip (QM_then (CM_seq (sr (wm (wm ?_)))))
          refine wv vneq ?_
          refine nt' ?_
          refine CM_condF rfl g198 ?_
          refine CM_skip (QM_then (sr (wa (nt' (CM_ret ?_)))))
          exact rtb (h := by subst hG66 hG121 hG180 hG226; exact cond_f g38 (cond_t g149 (cond_f g151 (cond_t g179 (cond_f g188 (cond_f g196 (cond_f g198 (cond_t g254 (cond_f g256 (rfl))))))))))
        ·
         refine ws (nf g254) ?_
         refine ws (nf g254) ?_
         refine ws (nf g254) ?_
         refine wv (vpT (nf g254)) ?_
         refine nt' ?_
         refine CM_condT rfl rfl ?_
         refine CM_seq ?_
         refine CM_items (pk []) ?_
         refine CM_region (wa (nt' (CM_ret (QM_then_ret ?_))))
         exact rtb (h := by subst hG66 hG121 hG180 hG226; exact cond_f g38 (cond_t g149 (cond_f g151 (cond_t g179 (cond_f g188 (cond_f g196 (cond_f g198 (cond_f g254 (rfl)))))))))
       ·have g198 : ((laws_heldEngine_m (⟨(⟨(laws_markEngine_m G121.1 1).2.Store.Segments, G121.1.Store.Now⟩ : DStore), G121.1.Cursor, (laws_markEngine_m G121.1 1).2.Order, (laws_markEngine_m G121.1 1).2.Active, (laws_markEngine_m G121.1 1).2.Done, (laws_markEngine_m G121.1 1).2.Ledger, G121.1.Steps⟩ : DEngine) 1) != ((laws_markEngine_m G121.1 1).1)) = true := bne_iff_ne.2 h197
        refine CM_condT rfl g198 ?_
        refine CM_seq ?_
        refine CM_items (pk []) ?_
        refine CM_region (wa (nt' (CM_ret (QM_then_ret ?_))))
        exact rtb (h := by subst hG66 hG121 hG180; exact cond_f g38 (cond_t g149 (cond_f g151 (cond_t g179 (cond_f g188 (cond_f g196 (cond_t g198 (rfl))))))))
    ·
     refine CM_condT rfl (nf g179) ?_
     refine CM_seq ?_
     refine CM_items (pk []) ?_
     refine CM_region (wa (nt' (CM_ret (QM_then_ret ?_))))
     exact rtb (h := by subst hG66 hG121; exact cond_f g38 (cond_t g149 (cond_f g151 (cond_f g179 (rfl)))))
  ·
   refine ws (nf g149) ?_
   refine ws (nf g149) ?_
   refine ws (nf g149) ?_
   refine wv (vpT (nf g149)) ?_
   refine nt' ?_
   refine CM_condT rfl rfl ?_
   refine CM_seq ?_
   refine CM_items (pk []) ?_
   refine CM_region (wa (nt' (CM_ret (QM_then_ret ?_))))
   exact rtb (h := by subst hG66 hG121; exact cond_f g38 (cond_f g149 (rfl)))

end Go.Proofs.YtmikmbmdibabmaaGreat
