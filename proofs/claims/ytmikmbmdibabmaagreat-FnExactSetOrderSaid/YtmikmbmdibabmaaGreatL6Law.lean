/-
  The contract of the law.
-/
import Derived.Test.YtmikmbmdibabmaaGreatL6Pl
namespace Go.Proofs.YtmikmbmdibabmaaGreat
open Go.RowKit
set_option maxRecDepth 100000
set_option maxHeartbeats 4000000
open _root_.Go.Proofs.Tryz
def laws_FnExactSetOrder_m (x0 : DEngine) (x1 : (List Int)) : Bool :=
 cond (decide (1048576 < ((x1.length : Nat) : Int))) true (cond (decide ((laws_szEngine_m x0 1048576) < 0)) true (cond (laws_eqEngine_m ((impl_SetOrder_m (laws_toEngine_m x0) (laws_toIntS_m x1)).1) ((spec_SetOrder_m (laws_toEngine_m x0) (laws_toIntS_m x1)).1)) (cond ((impl_SetOrder_m (laws_toEngine_m x0) (laws_toIntS_m x1)).2 != (spec_SetOrder_m (laws_toEngine_m x0) (laws_toIntS_m x1)).2) false (cond (laws_eqEngine_m (laws_toEngine_m x0) (laws_toEngine_m x0)) (cond (laws_eqIntS_m (laws_toIntS_m x1) (laws_toIntS_m x1)) (cond (decide (((laws_markIntS_m (laws_toIntS_m x1) ((laws_markEngine_m (laws_toEngine_m x0) 1).1)).1) < 0)) false (cond (decide ((laws_heldEngine_m (⟨(⟨(laws_markEngine_m ((impl_SetOrder_m (laws_toEngine_m x0) (laws_toIntS_m x1)).1) 1).2.Store.Segments, ((impl_SetOrder_m (laws_toEngine_m x0) (laws_toIntS_m x1)).1).Store.Now⟩ : DStore), ((impl_SetOrder_m (laws_toEngine_m x0) (laws_toIntS_m x1)).1).Cursor, (laws_markEngine_m ((impl_SetOrder_m (laws_toEngine_m x0) (laws_toIntS_m x1)).1) 1).2.Order, (laws_markEngine_m ((impl_SetOrder_m (laws_toEngine_m x0) (laws_toIntS_m x1)).1) 1).2.Active, (laws_markEngine_m ((impl_SetOrder_m (laws_toEngine_m x0) (laws_toIntS_m x1)).1) 1).2.Done, (laws_markEngine_m ((impl_SetOrder_m (laws_toEngine_m x0) (laws_toIntS_m x1)).1) 1).2.Ledger, ((impl_SetOrder_m (laws_toEngine_m x0) (laws_toIntS_m x1)).1).Steps⟩ : DEngine) 1) < 0)) false (cond ((laws_heldEngine_m (⟨(⟨(laws_markEngine_m ((impl_SetOrder_m (laws_toEngine_m x0) (laws_toIntS_m x1)).1) 1).2.Store.Segments, ((impl_SetOrder_m (laws_toEngine_m x0) (laws_toIntS_m x1)).1).Store.Now⟩ : DStore), ((impl_SetOrder_m (laws_toEngine_m x0) (laws_toIntS_m x1)).1).Cursor, (laws_markEngine_m ((impl_SetOrder_m (laws_toEngine_m x0) (laws_toIntS_m x1)).1) 1).2.Order, (laws_markEngine_m ((impl_SetOrder_m (laws_toEngine_m x0) (laws_toIntS_m x1)).1) 1).2.Active, (laws_markEngine_m ((impl_SetOrder_m (laws_toEngine_m x0) (laws_toIntS_m x1)).1) 1).2.Done, (laws_markEngine_m ((impl_SetOrder_m (laws_toEngine_m x0) (laws_toIntS_m x1)).1) 1).2.Ledger, ((impl_SetOrder_m (laws_toEngine_m x0) (laws_toIntS_m x1)).1).Steps⟩ : DEngine) 1) != ((laws_markEngine_m ((impl_SetOrder_m (laws_toEngine_m x0) (laws_toIntS_m x1)).1) 1).1)) false true))) false) false)) false))
theorem cb6 : Cb Tryz.prog 6 := ⟨f6, _, func6, rfl, by decide⟩
theorem laws_FnExactSetOrder_c (w : World) (z0 : List Value) (x0 : DEngine) (z1 : Value) (x1 : (List Int)) (r_0 : tyLEngine.rd w w.heap.size z0 x0) (r_1 : rdS tInt w w.heap.size z1 x1) :
  Calls Tryz.prog 6 #[.agg z0.toArray, z1] w fun e w' => e = .returned (.bool (laws_FnExactSetOrder_m x0 x1)) ∧ Below w.heap.size w w' := by
 have ok0 := (tyLEngine_sm r_0)
 have ok1 := r_1.1
 obtain ⟨v1, v3, v5, v7, v9, rfl, r2, r4, r6, r8, r10⟩ := tyLEngine_rd r_0
 have r15 := r2
 obtain ⟨m11, A12, c13, rfl, q14⟩ := r2
 have r20 := r4
 obtain ⟨m16, A17, c18, rfl, q19⟩ := r4
 have r25 := r6
 obtain ⟨m21, A22, c23, rfl, q24⟩ := r6
 have r30 := r8
 obtain ⟨m26, A27, c28, rfl, q29⟩ := r8
 have r35 := r10
 obtain ⟨m31, A32, c33, rfl, q34⟩ := r10
 have r40 := r_1
 obtain ⟨m36, A37, c38, rfl, q39⟩ := r_1
 refine ce2 (L := [(0, .agg #[.slice A12 x0.Store.Segments.length c13, .int .i64 x0.Store.Now, .int .i64 x0.Cursor, .slice A17 x0.Order.length c18, .slice A22 x0.Active.length c23, .slice A27 x0.Done.length c28, .slice A32 x0.Ledger.length c33, .int .i64 x0.Steps]), (1, .slice A37 x1.length c38)]) (N := 117) func6 ?_
 refine sr ?_
 refine WM_box rfl (Wd_none rfl) (by decide) (fun p41 => ?_)
 refine wa (nt' (CM_seq (sr (wm ?_))))
 refine wv (vlen underlying25) ?_
 refine wv (fun W hm => rv_gtr rfl rfl) ?_
 refine nt' ?_
 by_cases h42 : 1048576 < ((x1.length : Nat) : Int)
 ·have g43 : (decide (1048576 < ((x1.length : Nat) : Int))) = true := decide_eq_true h42
  refine CM_condT rfl g43 ?_
  refine sr (wa (nt' (CM_ret (QM_then_ret ?_))))
  exact rtb (h := by unfold laws_FnExactSetOrder_m; exact cond_t g43 (rfl))
 ·have g43 : (decide (1048576 < ((x1.length : Nat) : Int))) = false := decide_eq_false h42
  have hl1 := of_decide_eq_false g43
  refine CM_condF rfl g43 ?_
  refine CM_skip (QM_then (sr (wa (nt' (sr ?_)))))
  let K1 : List Value := [.slice A12 x0.Store.Segments.length c13, .int .i64 x0.Store.Now, .int .i64 x0.Cursor, .slice A17 x0.Order.length c18, .slice A22 x0.Active.length c23, .slice A27 x0.Done.length c28, .slice A32 x0.Ledger.length c33, .int .i64 x0.Steps]
  refine wv (fun W hm => rv_loadN (cs := K1) underlying30 type30 rfl rfl (hm.boxCells (n := 0) rfl)) ?_
  refine wm ?_
  refine wcv (cl_fn cb14 rfl) (fun W hm => laws_szEngine_c W _ x0 1048576 (tyLEngine_mk (x := x0) (hm.rdS0 r15) (hm.rdS0 r20) (hm.rdS0 r25) (hm.rdS0 r30) (hm.rdS0 r35))) ?_
  refine wa (nt' (CM_seq (sr (wm ?_))))
  refine wv vlss ?_
  refine nt' ?_
  by_cases h44 : (laws_szEngine_m x0 1048576) < 0
  ·have g45 : (decide ((laws_szEngine_m x0 1048576) < 0)) = true := decide_eq_true h44
   refine CM_condT rfl g45 ?_
   refine sr (wa (nt' (CM_ret (QM_then_ret ?_))))
   exact rtb (h := by unfold laws_FnExactSetOrder_m; exact cond_f g43 (cond_t g45 (rfl)))
  ·have g45 : (decide ((laws_szEngine_m x0 1048576) < 0)) = false := decide_eq_false h44
   obtain ⟨hz0, hy0, hw0⟩ := sz_small laws_szEngine_ok ok0 (by omega) (by omega) g45
   refine CM_condF rfl g45 ?_
   refine CM_skip (QM_then (sr ?_))
   refine wv (fun W hm => rv_loadN (cs := K1) underlying30 type30 rfl rfl (hm.boxCells (n := 0) rfl)) ?_
   refine wcs tyEngine (laws_toEngine_m x0) (cl_fn cb16 rfl) (fun W hm => laws_toEngine_c W _ x0 (tyLEngine_mk (x := x0) (hm.rdS0 r15) (hm.rdS0 r20) (hm.rdS0 r25) (hm.rdS0 r30) (hm.rdS0 r35)) (smEngine_wt (by omega))) (fun z46 => ?_)
   refine tyEngine_sp ?_
   rintro ⟨v47, v48, v49, v50, v51⟩ rfl
   refine WM_form (n := 0) rfl ?_
   rintro A52 c53 rfl m54
   refine WM_form (n := 1) rfl ?_
   rintro A56 c57 rfl m58
   refine WM_form (n := 2) rfl ?_
   rintro A60 c61 rfl m62
   refine WM_form (n := 3) rfl ?_
   rintro A64 c65 rfl m66
   refine WM_form (n := 4) rfl ?_
   rintro A68 c69 rfl m70
   refine wm ?_
   refine wcl (tSl tInt 3) (laws_toIntS_m x1) (cl_fn cb48 rfl) (fun W hm => laws_toIntS_c W _ x1 (hm.rdS0 r40) (by omega)) (fun z72 => ?_)
   refine WM_form (n := 0) rfl ?_
   rintro A73 c74 rfl m75
   refine WM_call (χ := List Value) (val := fun x => .tuple #[.agg x.toArray, .bool ((spec_SetOrder_m (laws_toEngine_m x0) (laws_toIntS_m x1)).2)]) (js := fun x => [iOwn tyEngine x ((spec_SetOrder_m (laws_toEngine_m x0) (laws_toIntS_m x1)).1)]) (cl_fn cb47 rfl) (fun W hm => spec_SetOrder_c W _ (laws_toEngine_m x0) _ (laws_toIntS_m x1) (tyEngine_mk (x := (laws_toEngine_m x0)) (hm.rdSI (n := 1) rfl) (hm.rdSI (n := 2) rfl) (hm.rdSI (n := 3) rfl) (hm.rdSI (n := 4) rfl) (hm.rdSI (n := 5) rfl)) (hm.rdSI (n := 0) rfl) (by rw [laws_toEngine_eq]; exact (smEngine_wt (by omega))) (by rw [laws_toIntS_eq]; exact (by omega))) (Wd_none rfl) (by decide) (fun z77 => ?_)
   refine tyEngine_sp ?_
   rintro ⟨v78, v79, v80, v81, v82⟩ rfl
   refine WM_form (n := 0) rfl ?_
   rintro A83 c84 rfl m85
   refine WM_form (n := 1) rfl ?_
   rintro A87 c88 rfl m89
   refine WM_form (n := 2) rfl ?_
   rintro A91 c92 rfl m93
   refine WM_form (n := 3) rfl ?_
   rintro A95 c96 rfl m97
   refine WM_form (n := 4) rfl ?_
   rintro A99 c100 rfl m101
   refine wm ?_
   refine wv (fun W hm => rv_extract rfl rfl) ?_
   refine wv (fun W hm => rv_extract rfl rfl) ?_
   refine WM_alloc type47 rfl (Wd_none rfl) (by decide) (fun p103 => ?_)
   let K2 : List Value := [.slice A83 (((spec_SetOrder_m (laws_toEngine_m x0) (laws_toIntS_m x1)).1).Store.Segments).length c84, .int .i64 (((spec_SetOrder_m (laws_toEngine_m x0) (laws_toIntS_m x1)).1).Store.Now), .int .i64 (((spec_SetOrder_m (laws_toEngine_m x0) (laws_toIntS_m x1)).1).Cursor), .slice A87 (((spec_SetOrder_m (laws_toEngine_m x0) (laws_toIntS_m x1)).1).Order).length c88, .slice A91 (((spec_SetOrder_m (laws_toEngine_m x0) (laws_toIntS_m x1)).1).Active).length c92, .slice A95 (((spec_SetOrder_m (laws_toEngine_m x0) (laws_toIntS_m x1)).1).Done).length c96, .slice A99 (((spec_SetOrder_m (laws_toEngine_m x0) (laws_toIntS_m x1)).1).Ledger).length c100, .int .i64 (((spec_SetOrder_m (laws_toEngine_m x0) (laws_toIntS_m x1)).1).Steps)]
   let K3 : List Value := [.slice A83 (((spec_SetOrder_m (laws_toEngine_m x0) (laws_toIntS_m x1)).1).Store.Segments).length c84]
   let K4 : List Value := [.slice A87 (((spec_SetOrder_m (laws_toEngine_m x0) (laws_toIntS_m x1)).1).Order).length c88]
   let K5 : List Value := [.slice A91 (((spec_SetOrder_m (laws_toEngine_m x0) (laws_toIntS_m x1)).1).Active).length c92]
   let K6 : List Value := [.slice A95 (((spec_SetOrder_m (laws_toEngine_m x0) (laws_toIntS_m x1)).1).Done).length c96]
   let K7 : List Value := [.slice A99 (((spec_SetOrder_m (laws_toEngine_m x0) (laws_toIntS_m x1)).1).Ledger).length c100]
   let I17 : It := iOwn (tSl (tSl tyVersion 191) 131) K3 (((spec_SetOrder_m (laws_toEngine_m x0) (laws_toIntS_m x1)).1).Store.Segments)
   let I18 : It := iOwn (tSl tInt 3) K4 (((spec_SetOrder_m (laws_toEngine_m x0) (laws_toIntS_m x1)).1).Order)
   let I19 : It := iOwn (tSl tyActive 64) K5 (((spec_SetOrder_m (laws_toEngine_m x0) (laws_toIntS_m x1)).1).Active)
   let I20 : It := iOwn (tSl tyFinished 37) K6 (((spec_SetOrder_m (laws_toEngine_m x0) (laws_toIntS_m x1)).1).Done)
   let I21 : It := iOwn (tSl tyCharge 133) K7 (((spec_SetOrder_m (laws_toEngine_m x0) (laws_toIntS_m x1)).1).Ledger)
   refine sb 0 K2 [I17, I18, I19, I20, I21, iOwn (tSl tInt 3) [.slice A73 (laws_toIntS_m x1).length c74] (laws_toIntS_m x1), iOwn (tSl (tSl tyVersion 191) 131) [.slice A52 ((laws_toEngine_m x0).Store.Segments).length c53] ((laws_toEngine_m x0).Store.Segments), iOwn (tSl tInt 3) [.slice A56 ((laws_toEngine_m x0).Order).length c57] ((laws_toEngine_m x0).Order), iOwn (tSl tyActive 64) [.slice A60 ((laws_toEngine_m x0).Active).length c61] ((laws_toEngine_m x0).Active), iOwn (tSl tyFinished 37) [.slice A64 ((laws_toEngine_m x0).Done).length c65] ((laws_toEngine_m x0).Done), iOwn (tSl tyCharge 133) [.slice A68 ((laws_toEngine_m x0).Ledger).length c69] ((laws_toEngine_m x0).Ledger), iBox p41 30 K1] (fun W hm => hm) type47 ?_
   refine wa (nt' (CM_seq ?_))
   refine CM_items (pk [0, 1, 2, 3, 4, 5, 12]) ?_
   refine CM_region ?_
   refine wv (fun W hm => rv_loadN (cs := K1) underlying30 type30 rfl rfl (hm.boxCells (n := 6) rfl)) ?_
   refine wcs tyEngine (laws_toEngine_m x0) (cl_fn cb16 rfl) (fun W hm => laws_toEngine_c W _ x0 (tyLEngine_mk (x := x0) (hm.rdS0 r15) (hm.rdS0 r20) (hm.rdS0 r25) (hm.rdS0 r30) (hm.rdS0 r35)) (smEngine_wt (by omega))) (fun z104 => ?_)
   refine tyEngine_sp ?_
   rintro ⟨v105, v106, v107, v108, v109⟩ rfl
   refine WM_form (n := 0) rfl ?_
   rintro A110 c111 rfl m112
   refine WM_form (n := 1) rfl ?_
   rintro A114 c115 rfl m116
   refine WM_form (n := 2) rfl ?_
   rintro A118 c119 rfl m120
   refine WM_form (n := 3) rfl ?_
   rintro A122 c123 rfl m124
   refine WM_form (n := 4) rfl ?_
   rintro A126 c127 rfl m128
   refine WM_alloc type47 rfl (Wd_none rfl) (by decide) (fun p130 => ?_)
   let K8 : List Value := [.slice A110 ((laws_toEngine_m x0).Store.Segments).length c111, .int .i64 ((laws_toEngine_m x0).Store.Now), .int .i64 ((laws_toEngine_m x0).Cursor), .slice A114 ((laws_toEngine_m x0).Order).length c115, .slice A118 ((laws_toEngine_m x0).Active).length c119, .slice A122 ((laws_toEngine_m x0).Done).length c123, .slice A126 ((laws_toEngine_m x0).Ledger).length c127, .int .i64 ((laws_toEngine_m x0).Steps)]
   let K9 : List Value := [.slice A110 ((laws_toEngine_m x0).Store.Segments).length c111]
   let I22 : It := iOwn (tSl (tSl tyVersion 191) 131) K9 ((laws_toEngine_m x0).Store.Segments)
   let I23 : It := iOwn (tSl tInt 3) [.slice A114 ((laws_toEngine_m x0).Order).length c115] ((laws_toEngine_m x0).Order)
   let I24 : It := iOwn (tSl tyActive 64) [.slice A118 ((laws_toEngine_m x0).Active).length c119] ((laws_toEngine_m x0).Active)
   let I25 : It := iOwn (tSl tyFinished 37) [.slice A122 ((laws_toEngine_m x0).Done).length c123] ((laws_toEngine_m x0).Done)
   let I26 : It := iOwn (tSl tyCharge 133) [.slice A126 ((laws_toEngine_m x0).Ledger).length c127] ((laws_toEngine_m x0).Ledger)
   refine sb 0 K8 [I22, I23, I24, I25, I26, iBox p103 47 K2, I17, I18, I19, I20, I21, iBox p41 30 K1] (fun W hm => hm) type47 ?_
   refine nt' (sr (wm ?_))
   refine wcl (tSl tInt 3) (laws_toIntS_m x1) (cl_fn cb48 rfl) (fun W hm => laws_toIntS_c W _ x1 (hm.rdS0 r40) (by omega)) (fun z131 => ?_)
   refine WM_form (n := 0) rfl ?_
   rintro A132 c133 rfl m134
   refine wa (nt' (sr ?_))
   refine wv (fun W hm => rv_loadN (cs := K8) underlying47 type47 rfl rfl (hm.boxCells (n := 1) rfl)) ?_
   refine wm ?_
   refine WM_call (χ := List Value) (val := fun x => .tuple #[.agg x.toArray, .bool ((impl_SetOrder_m (laws_toEngine_m x0) (laws_toIntS_m x1)).2)]) (js := fun x => [iOwn tyEngine x ((impl_SetOrder_m (laws_toEngine_m x0) (laws_toIntS_m x1)).1)]) (cl_fn cb46 rfl) (fun W hm => impl_SetOrder_c W _ (laws_toEngine_m x0) _ (laws_toIntS_m x1) (tyEngine_mk (x := (laws_toEngine_m x0)) (hm.rdSI (n := 2) rfl) (hm.rdSI (n := 3) rfl) (hm.rdSI (n := 4) rfl) (hm.rdSI (n := 5) rfl) (hm.rdSI (n := 6) rfl)) (hm.rdSI (n := 0) rfl) (by rw [laws_toEngine_eq]; exact (smEngine_wt (by omega))) (by rw [laws_toIntS_eq]; exact (by omega))) (Wd_none rfl) (by decide) (fun z136 => ?_)
   refine tyEngine_sp ?_
   rintro ⟨v137, v138, v139, v140, v141⟩ rfl
   refine WM_form (n := 0) rfl ?_
   rintro A142 c143 rfl m144
   refine WM_form (n := 1) rfl ?_
   rintro A146 c147 rfl m148
   refine WM_form (n := 2) rfl ?_
   rintro A150 c151 rfl m152
   refine WM_form (n := 3) rfl ?_
   rintro A154 c155 rfl m156
   refine WM_form (n := 4) rfl ?_
   rintro A158 c159 rfl m160
   refine wm ?_
   refine wv (fun W hm => rv_extract rfl rfl) ?_
   refine wv (fun W hm => rv_extract rfl rfl) ?_
   refine WM_alloc type47 rfl (Wd_none rfl) (by decide) (fun p162 => ?_)
   let K10 : List Value := [.slice A142 (((impl_SetOrder_m (laws_toEngine_m x0) (laws_toIntS_m x1)).1).Store.Segments).length c143, .int .i64 (((impl_SetOrder_m (laws_toEngine_m x0) (laws_toIntS_m x1)).1).Store.Now), .int .i64 (((impl_SetOrder_m (laws_toEngine_m x0) (laws_toIntS_m x1)).1).Cursor), .slice A146 (((impl_SetOrder_m (laws_toEngine_m x0) (laws_toIntS_m x1)).1).Order).length c147, .slice A150 (((impl_SetOrder_m (laws_toEngine_m x0) (laws_toIntS_m x1)).1).Active).length c151, .slice A154 (((impl_SetOrder_m (laws_toEngine_m x0) (laws_toIntS_m x1)).1).Done).length c155, .slice A158 (((impl_SetOrder_m (laws_toEngine_m x0) (laws_toIntS_m x1)).1).Ledger).length c159, .int .i64 (((impl_SetOrder_m (laws_toEngine_m x0) (laws_toIntS_m x1)).1).Steps)]
   let K11 : List Value := [.slice A142 (((impl_SetOrder_m (laws_toEngine_m x0) (laws_toIntS_m x1)).1).Store.Segments).length c143]
   let K12 : List Value := [.slice A146 (((impl_SetOrder_m (laws_toEngine_m x0) (laws_toIntS_m x1)).1).Order).length c147]
   let K13 : List Value := [.slice A150 (((impl_SetOrder_m (laws_toEngine_m x0) (laws_toIntS_m x1)).1).Active).length c151]
   let K14 : List Value := [.slice A154 (((impl_SetOrder_m (laws_toEngine_m x0) (laws_toIntS_m x1)).1).Done).length c155]
   let K15 : List Value := [.slice A158 (((impl_SetOrder_m (laws_toEngine_m x0) (laws_toIntS_m x1)).1).Ledger).length c159]
   let I27 : It := iOwn (tSl (tSl tyVersion 191) 131) K11 (((impl_SetOrder_m (laws_toEngine_m x0) (laws_toIntS_m x1)).1).Store.Segments)
   let I28 : It := iOwn (tSl tInt 3) K12 (((impl_SetOrder_m (laws_toEngine_m x0) (laws_toIntS_m x1)).1).Order)
   let I29 : It := iOwn (tSl tyActive 64) K13 (((impl_SetOrder_m (laws_toEngine_m x0) (laws_toIntS_m x1)).1).Active)
   let I30 : It := iOwn (tSl tyFinished 37) K14 (((impl_SetOrder_m (laws_toEngine_m x0) (laws_toIntS_m x1)).1).Done)
   let I31 : It := iOwn (tSl tyCharge 133) K15 (((impl_SetOrder_m (laws_toEngine_m x0) (laws_toIntS_m x1)).1).Ledger)
   let I32 : It := iOwn (tSl tInt 3) [.slice A132 (laws_toIntS_m x1).length c133] (laws_toIntS_m x1)
   refine sb 0 K10 [I27, I28, I29, I30, I31, I32, iBox p130 47 K8, I22, I23, I24, I25, I26, iBox p103 47 K2, I17, I18, I19, I20, I21, iBox p41 30 K1] (fun W hm => hm) type47 ?_
   refine wa (nt' (CM_seq (sr ?_)))
   refine wv (fun W hm => rv_loadN (cs := K10) underlying47 type47 rfl rfl (hm.boxCells (n := 0) rfl)) ?_
   refine wv (fun W hm => rv_loadN (cs := K2) underlying47 type47 rfl rfl (hm.boxCells (n := 13) rfl)) ?_
   refine wcv (cl_fn cb19 rfl) (fun W hm => laws_eqEngine_c W _ ((impl_SetOrder_m (laws_toEngine_m x0) (laws_toIntS_m x1)).1) _ ((spec_SetOrder_m (laws_toEngine_m x0) (laws_toIntS_m x1)).1) (tyEngine_mk (x := ((impl_SetOrder_m (laws_toEngine_m x0) (laws_toIntS_m x1)).1)) (hm.rdSI (n := 1) rfl) (hm.rdSI (n := 2) rfl) (hm.rdSI (n := 3) rfl) (hm.rdSI (n := 4) rfl) (hm.rdSI (n := 5) rfl)) (tyEngine_mk (x := ((spec_SetOrder_m (laws_toEngine_m x0) (laws_toIntS_m x1)).1)) (hm.rdSI (n := 14) rfl) (hm.rdSI (n := 15) rfl) (hm.rdSI (n := 16) rfl) (hm.rdSI (n := 17) rfl) (hm.rdSI (n := 18) rfl))) ?_
   refine wv vnot ?_
   refine wm ?_
   rcases Bool.eq_false_or_eq_true (laws_eqEngine_m ((impl_SetOrder_m (laws_toEngine_m x0) (laws_toIntS_m x1)).1) ((spec_SetOrder_m (laws_toEngine_m x0) (laws_toIntS_m x1)).1)) with g164 | g164
   ·
    refine wg vmv (nt g164) ?_
    refine wg vmv (nt g164) ?_
    refine wg (fun W hm => rv_neqB underlying4 rfl rfl) (nt g164) ?_
    refine wv (vpF (nt g164)) ?_
    refine nt' ?_
    rcases Bool.eq_false_or_eq_true ((impl_SetOrder_m (laws_toEngine_m x0) (laws_toIntS_m x1)).2 != (spec_SetOrder_m (laws_toEngine_m x0) (laws_toIntS_m x1)).2) with g166 | g166
    ·
     refine CM_condT rfl g166 ?_
     refine CM_seq ?_
     refine CM_items (pk []) ?_
     refine CM_region (wa (nt' (CM_ret (QM_then_ret ?_))))
     exact rtb (h := by unfold laws_FnExactSetOrder_m; exact cond_f g43 (cond_f g45 (cond_t g164 (cond_t g166 (rfl)))))
    ·
     refine CM_condF rfl g166 ?_
     refine CM_skip (QM_then (CM_seq (CM_seq ?_)))
     refine rb 5 (s := [iBox p162 47 K10, I27, I28, I29, I30, I31, I32, iBox p130 47 K8, I22, I23, I24, I25, I26, iBox p103 47 K2, I17, I18, I19, I20, I21, iBox p41 30 K1]) (fun W hm => hm) ?_
     refine qt 5 0 1 rfl (fun W hm => rv_loadN (cs := K8) underlying47 type47 rfl rfl (hm.boxCells (n := 7) rfl)) ?_
     refine qt 5 1 3 rfl (fun W hm => rv_loadN (cs := K1) underlying30 type30 rfl rfl (hm.boxCells (n := 19) rfl)) ?_
     refine qo 5 2 7 rfl ?_
     refine wcs tyEngine (laws_toEngine_m x0) (cl_fn cb16 rfl) (fun W hm => laws_toEngine_c W _ x0 (tyLEngine_mk (x := x0) (hm.rdS0 r15) (hm.rdS0 r20) (hm.rdS0 r25) (hm.rdS0 r30) (hm.rdS0 r35)) (smEngine_wt (by omega))) (fun z167 => ?_)
     refine tyEngine_sp ?_
     rintro ⟨v168, v169, v170, v171, v172⟩ rfl
     refine WM_form (n := 0) rfl ?_
     rintro A173 c174 rfl m175
     refine WM_form (n := 1) rfl ?_
     rintro A177 c178 rfl m179
     refine WM_form (n := 2) rfl ?_
     rintro A181 c182 rfl m183
     refine WM_form (n := 3) rfl ?_
     rintro A185 c186 rfl m187
     refine WM_form (n := 4) rfl ?_
     rintro A189 c190 rfl m191
     refine qn (pk [5, 6, 7, 8, 9, 10, 11, 12, 13, 14, 15, 16, 17, 18, 19, 20, 21, 22, 23, 24]) ?_
     refine qo 5 3 15 rfl ?_
     refine wcv (cl_fn cb19 rfl) (fun W hm => laws_eqEngine_c W _ (laws_toEngine_m x0) _ (laws_toEngine_m x0) (tyEngine_mk (x := (laws_toEngine_m x0)) (hm.rdSI (n := 13) rfl) (hm.rdSI (n := 14) rfl) (hm.rdSI (n := 15) rfl) (hm.rdSI (n := 16) rfl) (hm.rdSI (n := 17) rfl)) (tyEngine_mk (x := (laws_toEngine_m x0)) (hm.rdSI (n := 0) rfl) (hm.rdSI (n := 1) rfl) (hm.rdSI (n := 2) rfl) (hm.rdSI (n := 3) rfl) (hm.rdSI (n := 4) rfl))) ?_
     refine qn (pk [5, 6, 7, 8, 9, 10, 11, 12, 13, 14, 15, 16, 17, 18, 19, 20, 21, 22, 23, 24]) ?_
     refine qt 5 4 31 rfl vnot ?_
     refine QB_done (by kernel_rfl) ?_
     refine QM_then ?_
     rcases Bool.eq_false_or_eq_true (laws_eqEngine_m (laws_toEngine_m x0) (laws_toEngine_m x0)) with g194 | g194
     ·
      refine CM_condF rfl (nt g194) ?_
      refine CM_skip (QM_then (CM_seq (CM_seq ?_)))
      refine CM_items (pk [5, 6, 7, 8, 9, 10, 11, 12, 13, 14, 15, 16, 17, 18, 19, 20, 21, 22, 23, 24]) ?_
      refine CM_region (wm (wm ?_))
      refine wcl (tSl tInt 3) (laws_toIntS_m x1) (cl_fn cb48 rfl) (fun W hm => laws_toIntS_c W _ x1 (hm.rdS0 r40) (by omega)) (fun z195 => ?_)
      refine WM_form (n := 0) rfl ?_
      rintro A196 c197 rfl m198
      refine wcv (cl_fn cb49 rfl) (fun W hm => laws_eqIntS_c W _ (laws_toIntS_m x1) _ (laws_toIntS_m x1) (hm.rdSI (n := 7) rfl) (hm.rdSI (n := 0) rfl)) ?_
      refine wv vnot ?_
      refine nt' ?_
      rcases Bool.eq_false_or_eq_true (laws_eqIntS_m (laws_toIntS_m x1) (laws_toIntS_m x1)) with g201 | g201
      ·
       refine CM_condF rfl (nt g201) ?_
       refine CM_skip (QM_then (sr (wa (nt' (sr ?_)))))
       refine wv (fun W hm => rv_loadN (cs := K8) underlying47 type47 rfl rfl (hm.boxCells (n := 8) rfl)) ?_
       refine wm ?_
       let I33 : It := iOwn (tSl tInt 3) [.slice A196 (laws_toIntS_m x1).length c197] (laws_toIntS_m x1)
       refine WM_items (js := (iOwn tyEngine K8 (laws_toEngine_m x0) :: [I33, iBox p162 47 K10, I27, I28, I29, I30, I31, I32, iBox p130 47 K8, iBox p103 47 K2, I17, I18, I19, I20, I21, iBox p41 30 K1])) (fun W hm => Mem.join (is := [I22, I23, I24, I25, I26]) (js := [I33, iBox p162 47 K10, I27, I28, I29, I30, I31, I32, iBox p130 47 K8, iBox p103 47 K2, I17, I18, I19, I20, I21, iBox p41 30 K1]) (fun _ _ hs => tyEngine_join (x := (laws_toEngine_m x0)) hs) (hm.pick [9, 10, 11, 12, 13, 0, 1, 2, 3, 4, 5, 6, 7, 8, 14, 15, 16, 17, 18, 19, 20] (by decide))) ?_
       refine WM_callW (χ := Unit) (val := fun _ => .int .i64 (laws_markEngine_m (laws_toEngine_m x0) 1).1) (js := fun _ => (iOwn tyEngine K8 (laws_markEngine_m (laws_toEngine_m x0) 1).2 :: [I33, iBox p162 47 K10, I27, I28, I29, I30, I31, I32, iBox p130 47 K8, iBox p103 47 K2, I17, I18, I19, I20, I21, iBox p41 30 K1])) (cl_fn cb20 rfl) (fun W hm => (laws_markEngine_c w.heap.size w [I33, iBox p162 47 K10, I27, I28, I29, I30, I31, I32, iBox p130 47 K8, iBox p103 47 K2, I17, I18, I19, I20, I21, iBox p41 30 K1] W K8 (laws_toEngine_m x0) 1 hm).mono (fun _ _ h => ⟨(), h.1, h.2⟩)) (Wd_none rfl) (by decide) (fun _ => ?_)
       refine tyEngine_sp ?_
       rintro ⟨v203, v204, v205, v206, v207⟩ h202
       simp +zetaDelta only [List.cons.injEq] at h202
       obtain ⟨rfl, -, -, rfl, rfl, rfl, rfl, -, -⟩ := h202
       refine wa (nt' (CM_seq ?_))
       refine CM_items (pk [6, 7, 8, 9, 10, 11, 12, 14, 15, 16, 17, 18, 19, 20]) ?_
       refine CM_region (wm (wm ?_))
       refine WM_callW (χ := Unit) (val := fun _ => .int .i64 (laws_markIntS_m (laws_toIntS_m x1) ((laws_markEngine_m (laws_toEngine_m x0) 1).1)).1) (js := fun _ => (iOwn (tSl tInt 3) [.slice A132 (laws_toIntS_m x1).length c133] (laws_markIntS_m (laws_toIntS_m x1) ((laws_markEngine_m (laws_toEngine_m x0) 1).1)).2 :: [iBox p162 47 K10, I27, I28, I29, I30, I31, iBox p103 47 K2, I17, I18, I19, I20, I21, iBox p41 30 K1])) (cl_fn cb50 rfl) (fun W hm => (laws_markIntS_c w.heap.size w [iBox p162 47 K10, I27, I28, I29, I30, I31, iBox p103 47 K2, I17, I18, I19, I20, I21, iBox p41 30 K1] W (.slice A132 (laws_toIntS_m x1).length c133) (laws_toIntS_m x1) ((laws_markEngine_m (laws_toEngine_m x0) 1).1) (hm.pick [6, 0, 1, 2, 3, 4, 5, 7, 8, 9, 10, 11, 12, 13] (by decide))).mono (fun _ _ h => ⟨(), h.1, h.2⟩)) (Wd_none rfl) (by decide) (fun _ => ?_)
       refine wa (nt' (CM_seq (sr (wm ?_))))
       refine wv vlss ?_
       refine wm ?_
       by_cases h208 : ((laws_markIntS_m (laws_toIntS_m x1) ((laws_markEngine_m (laws_toEngine_m x0) 1).1)).1) < 0
       ·have g209 : (decide (((laws_markIntS_m (laws_toIntS_m x1) ((laws_markEngine_m (laws_toEngine_m x0) 1).1)).1) < 0)) = true := decide_eq_true h208
        refine ws g209 ?_
        refine ws g209 ?_
        refine ws g209 ?_
        refine ws g209 ?_
        refine wv (vpT g209) ?_
        refine wm ?_
        refine wk ?_
        refine wk ?_
        refine wk ?_
        refine wv (vpT rfl) ?_
        refine nt' ?_
        refine CM_condT rfl rfl ?_
        refine CM_seq ?_
        refine CM_items (pk []) ?_
        refine CM_region (wa (nt' (CM_ret (QM_then_ret ?_))))
        exact rtb (h := by unfold laws_FnExactSetOrder_m; exact cond_f g43 (cond_f g45 (cond_t g164 (cond_f g166 (cond_t g194 (cond_t g201 (cond_t g209 (rfl))))))))
       ·have g209 : (decide (((laws_markIntS_m (laws_toIntS_m x1) ((laws_markEngine_m (laws_toEngine_m x0) 1).1)).1) < 0)) = false := decide_eq_false h208
        refine wg (fun W hm => rv_loadN (cs := K10) underlying47 type47 rfl rfl (hm.boxCells (n := 1) rfl)) g209 ?_
        refine wg (fun W hm => rv_loadN (cs := K2) underlying47 type47 rfl rfl (hm.boxCells (n := 7) rfl)) g209 ?_
        refine WM_callV (cl_fn cb19 rfl) (fun W hm => laws_eqEngine_c W _ ((impl_SetOrder_m (laws_toEngine_m x0) (laws_toIntS_m x1)).1) _ ((spec_SetOrder_m (laws_toEngine_m x0) (laws_toIntS_m x1)).1) (tyEngine_mk (x := ((impl_SetOrder_m (laws_toEngine_m x0) (laws_toIntS_m x1)).1)) (hm.rdSI (n := 2) rfl) (hm.rdSI (n := 3) rfl) (hm.rdSI (n := 4) rfl) (hm.rdSI (n := 5) rfl) (hm.rdSI (n := 6) rfl)) (tyEngine_mk (x := ((spec_SetOrder_m (laws_toEngine_m x0) (laws_toIntS_m x1)).1)) (hm.rdSI (n := 8) rfl) (hm.rdSI (n := 9) rfl) (hm.rdSI (n := 10) rfl) (hm.rdSI (n := 11) rfl) (hm.rdSI (n := 12) rfl))) (Wd_some rfl rfl rfl (bw g209 rfl)) (by decide) ?_
        refine wg vnot g209 ?_
        refine wv (vpF g209) ?_
        refine wm ?_
        refine wg vmv (nt g164) ?_
        refine wg vmv (nt g164) ?_
        refine wg (fun W hm => rv_neqB underlying4 rfl rfl) (nt g164) ?_
        refine wv (vpF (nt g164)) ?_
        refine nt' ?_
        refine CM_condF rfl g166 ?_
        refine CM_skip (QM_then (sr (wa (nt' (sr ?_)))))
        refine wv (fun W hm => rv_loadN (cs := K10) underlying47 type47 rfl rfl (hm.boxCells (n := 1) rfl)) ?_
        refine wm ?_
        let I34 : It := iOwn (tSl tInt 3) [.slice A132 (laws_toIntS_m x1).length c133] ((laws_markIntS_m (laws_toIntS_m x1) ((laws_markEngine_m (laws_toEngine_m x0) 1).1)).2)
        refine WM_items (js := (iOwn tyEngine K10 ((impl_SetOrder_m (laws_toEngine_m x0) (laws_toIntS_m x1)).1) :: [I34, iBox p162 47 K10, iBox p103 47 K2, I17, I18, I19, I20, I21, iBox p41 30 K1])) (fun W hm => Mem.join (is := [I27, I28, I29, I30, I31]) (js := [I34, iBox p162 47 K10, iBox p103 47 K2, I17, I18, I19, I20, I21, iBox p41 30 K1]) (fun _ _ hs => tyEngine_join (x := ((impl_SetOrder_m (laws_toEngine_m x0) (laws_toIntS_m x1)).1)) hs) (hm.pick [2, 3, 4, 5, 6, 0, 1, 7, 8, 9, 10, 11, 12, 13] (by decide))) ?_
        refine WM_callW (χ := Unit) (val := fun _ => .int .i64 (laws_markEngine_m ((impl_SetOrder_m (laws_toEngine_m x0) (laws_toIntS_m x1)).1) 1).1) (js := fun _ => (iOwn tyEngine K10 (laws_markEngine_m ((impl_SetOrder_m (laws_toEngine_m x0) (laws_toIntS_m x1)).1) 1).2 :: [I34, iBox p162 47 K10, iBox p103 47 K2, I17, I18, I19, I20, I21, iBox p41 30 K1])) (cl_fn cb20 rfl) (fun W hm => (laws_markEngine_c w.heap.size w [I34, iBox p162 47 K10, iBox p103 47 K2, I17, I18, I19, I20, I21, iBox p41 30 K1] W K10 ((impl_SetOrder_m (laws_toEngine_m x0) (laws_toIntS_m x1)).1) 1 hm).mono (fun _ _ h => ⟨(), h.1, h.2⟩)) (Wd_none rfl) (by decide) (fun _ => ?_)
        refine tyEngine_sp ?_
        rintro ⟨v211, v212, v213, v214, v215⟩ h210
        simp +zetaDelta only [List.cons.injEq] at h210
        obtain ⟨rfl, -, -, rfl, rfl, rfl, rfl, -, -⟩ := h210
        refine wa (nt' (sr (wa (nt' (sr ?_)))))
        refine wv (fun W hm => rv_loadN (cs := K10) underlying47 type47 rfl rfl (hm.boxCells (n := 6) rfl)) ?_
        refine wm ?_
        refine wcv (cl_fn cb51 rfl) (fun W hm => laws_heldEngine_c W _ (⟨(⟨(laws_markEngine_m ((impl_SetOrder_m (laws_toEngine_m x0) (laws_toIntS_m x1)).1) 1).2.Store.Segments, ((impl_SetOrder_m (laws_toEngine_m x0) (laws_toIntS_m x1)).1).Store.Now⟩ : DStore), ((impl_SetOrder_m (laws_toEngine_m x0) (laws_toIntS_m x1)).1).Cursor, (laws_markEngine_m ((impl_SetOrder_m (laws_toEngine_m x0) (laws_toIntS_m x1)).1) 1).2.Order, (laws_markEngine_m ((impl_SetOrder_m (laws_toEngine_m x0) (laws_toIntS_m x1)).1) 1).2.Active, (laws_markEngine_m ((impl_SetOrder_m (laws_toEngine_m x0) (laws_toIntS_m x1)).1) 1).2.Done, (laws_markEngine_m ((impl_SetOrder_m (laws_toEngine_m x0) (laws_toIntS_m x1)).1) 1).2.Ledger, ((impl_SetOrder_m (laws_toEngine_m x0) (laws_toIntS_m x1)).1).Steps⟩ : DEngine) 1 (tyEngine_mk (x := (⟨(⟨(laws_markEngine_m ((impl_SetOrder_m (laws_toEngine_m x0) (laws_toIntS_m x1)).1) 1).2.Store.Segments, ((impl_SetOrder_m (laws_toEngine_m x0) (laws_toIntS_m x1)).1).Store.Now⟩ : DStore), ((impl_SetOrder_m (laws_toEngine_m x0) (laws_toIntS_m x1)).1).Cursor, (laws_markEngine_m ((impl_SetOrder_m (laws_toEngine_m x0) (laws_toIntS_m x1)).1) 1).2.Order, (laws_markEngine_m ((impl_SetOrder_m (laws_toEngine_m x0) (laws_toIntS_m x1)).1) 1).2.Active, (laws_markEngine_m ((impl_SetOrder_m (laws_toEngine_m x0) (laws_toIntS_m x1)).1) 1).2.Done, (laws_markEngine_m ((impl_SetOrder_m (laws_toEngine_m x0) (laws_toIntS_m x1)).1) 1).2.Ledger, ((impl_SetOrder_m (laws_toEngine_m x0) (laws_toIntS_m x1)).1).Steps⟩ : DEngine)) (hm.rdSI (n := 0) rfl) (hm.rdSI (n := 1) rfl) (hm.rdSI (n := 2) rfl) (hm.rdSI (n := 3) rfl) (hm.rdSI (n := 4) rfl))) ?_
        refine wa (nt' (CM_seq (sr (wm ?_))))
        refine wv vlss ?_
        refine nt' ?_
        by_cases h216 : (laws_heldEngine_m (⟨(⟨(laws_markEngine_m ((impl_SetOrder_m (laws_toEngine_m x0) (laws_toIntS_m x1)).1) 1).2.Store.Segments, ((impl_SetOrder_m (laws_toEngine_m x0) (laws_toIntS_m x1)).1).Store.Now⟩ : DStore), ((impl_SetOrder_m (laws_toEngine_m x0) (laws_toIntS_m x1)).1).Cursor, (laws_markEngine_m ((impl_SetOrder_m (laws_toEngine_m x0) (laws_toIntS_m x1)).1) 1).2.Order, (laws_markEngine_m ((impl_SetOrder_m (laws_toEngine_m x0) (laws_toIntS_m x1)).1) 1).2.Active, (laws_markEngine_m ((impl_SetOrder_m (laws_toEngine_m x0) (laws_toIntS_m x1)).1) 1).2.Done, (laws_markEngine_m ((impl_SetOrder_m (laws_toEngine_m x0) (laws_toIntS_m x1)).1) 1).2.Ledger, ((impl_SetOrder_m (laws_toEngine_m x0) (laws_toIntS_m x1)).1).Steps⟩ : DEngine) 1) < 0
        ·have g217 : (decide ((laws_heldEngine_m (⟨(⟨(laws_markEngine_m ((impl_SetOrder_m (laws_toEngine_m x0) (laws_toIntS_m x1)).1) 1).2.Store.Segments, ((impl_SetOrder_m (laws_toEngine_m x0) (laws_toIntS_m x1)).1).Store.Now⟩ : DStore), ((impl_SetOrder_m (laws_toEngine_m x0) (laws_toIntS_m x1)).1).Cursor, (laws_markEngine_m ((impl_SetOrder_m (laws_toEngine_m x0) (laws_toIntS_m x1)).1) 1).2.Order, (laws_markEngine_m ((impl_SetOrder_m (laws_toEngine_m x0) (laws_toIntS_m x1)).1) 1).2.Active, (laws_markEngine_m ((impl_SetOrder_m (laws_toEngine_m x0) (laws_toIntS_m x1)).1) 1).2.Done, (laws_markEngine_m ((impl_SetOrder_m (laws_toEngine_m x0) (laws_toIntS_m x1)).1) 1).2.Ledger, ((impl_SetOrder_m (laws_toEngine_m x0) (laws_toIntS_m x1)).1).Steps⟩ : DEngine) 1) < 0)) = true := decide_eq_true h216
         refine CM_condT rfl g217 ?_
         refine CM_seq ?_
         refine CM_items (pk []) ?_
         refine CM_region (wa (nt' (CM_ret (QM_then_ret ?_))))
         exact rtb (h := by unfold laws_FnExactSetOrder_m; exact cond_f g43 (cond_f g45 (cond_t g164 (cond_f g166 (cond_t g194 (cond_t g201 (cond_f g209 (cond_t g217 (rfl)))))))))
        ·have g217 : (decide ((laws_heldEngine_m (⟨(⟨(laws_markEngine_m ((impl_SetOrder_m (laws_toEngine_m x0) (laws_toIntS_m x1)).1) 1).2.Store.Segments, ((impl_SetOrder_m (laws_toEngine_m x0) (laws_toIntS_m x1)).1).Store.Now⟩ : DStore), ((impl_SetOrder_m (laws_toEngine_m x0) (laws_toIntS_m x1)).1).Cursor, (laws_markEngine_m ((impl_SetOrder_m (laws_toEngine_m x0) (laws_toIntS_m x1)).1) 1).2.Order, (laws_markEngine_m ((impl_SetOrder_m (laws_toEngine_m x0) (laws_toIntS_m x1)).1) 1).2.Active, (laws_markEngine_m ((impl_SetOrder_m (laws_toEngine_m x0) (laws_toIntS_m x1)).1) 1).2.Done, (laws_markEngine_m ((impl_SetOrder_m (laws_toEngine_m x0) (laws_toIntS_m x1)).1) 1).2.Ledger, ((impl_SetOrder_m (laws_toEngine_m x0) (laws_toIntS_m x1)).1).Steps⟩ : DEngine) 1) < 0)) = false := decide_eq_false h216
         refine CM_condF rfl g217 ?_
         refine CM_skip (QM_then (CM_seq (sr (wm (wm ?_)))))
         refine wv vneq ?_
         refine nt' ?_
         by_cases h218 : (laws_heldEngine_m (⟨(⟨(laws_markEngine_m ((impl_SetOrder_m (laws_toEngine_m x0) (laws_toIntS_m x1)).1) 1).2.Store.Segments, ((impl_SetOrder_m (laws_toEngine_m x0) (laws_toIntS_m x1)).1).Store.Now⟩ : DStore), ((impl_SetOrder_m (laws_toEngine_m x0) (laws_toIntS_m x1)).1).Cursor, (laws_markEngine_m ((impl_SetOrder_m (laws_toEngine_m x0) (laws_toIntS_m x1)).1) 1).2.Order, (laws_markEngine_m ((impl_SetOrder_m (laws_toEngine_m x0) (laws_toIntS_m x1)).1) 1).2.Active, (laws_markEngine_m ((impl_SetOrder_m (laws_toEngine_m x0) (laws_toIntS_m x1)).1) 1).2.Done, (laws_markEngine_m ((impl_SetOrder_m (laws_toEngine_m x0) (laws_toIntS_m x1)).1) 1).2.Ledger, ((impl_SetOrder_m (laws_toEngine_m x0) (laws_toIntS_m x1)).1).Steps⟩ : DEngine) 1) = ((laws_markEngine_m ((impl_SetOrder_m (laws_toEngine_m x0) (laws_toIntS_m x1)).1) 1).1)
         ·have g219 : ((laws_heldEngine_m (⟨(⟨(laws_markEngine_m ((impl_SetOrder_m (laws_toEngine_m x0) (laws_toIntS_m x1)).1) 1).2.Store.Segments, ((impl_SetOrder_m (laws_toEngine_m x0) (laws_toIntS_m x1)).1).Store.Now⟩ : DStore), ((impl_SetOrder_m (laws_toEngine_m x0) (laws_toIntS_m x1)).1).Cursor, (laws_markEngine_m ((impl_SetOrder_m (laws_toEngine_m x0) (laws_toIntS_m x1)).1) 1).2.Order, (laws_markEngine_m ((impl_SetOrder_m (laws_toEngine_m x0) (laws_toIntS_m x1)).1) 1).2.Active, (laws_markEngine_m ((impl_SetOrder_m (laws_toEngine_m x0) (laws_toIntS_m x1)).1) 1).2.Done, (laws_markEngine_m ((impl_SetOrder_m (laws_toEngine_m x0) (laws_toIntS_m x1)).1) 1).2.Ledger, ((impl_SetOrder_m (laws_toEngine_m x0) (laws_toIntS_m x1)).1).Steps⟩ : DEngine) 1) != ((laws_markEngine_m ((impl_SetOrder_m (laws_toEngine_m x0) (laws_toIntS_m x1)).1) 1).1)) = false := by rw [h218]; exact bne_self_eq_false _
          refine CM_condF rfl g219 ?_
          refine CM_skip (QM_then (sr ?_))
          refine wv (fun W hm => rv_loadN (cs := K1) underlying30 type30 rfl rfl (hm.boxCells (n := 13) rfl)) ?_
          refine wcs tyEngine (laws_toEngine_m x0) (cl_fn cb16 rfl) (fun W hm => laws_toEngine_c W _ x0 (tyLEngine_mk (x := x0) (hm.rdS0 r15) (hm.rdS0 r20) (hm.rdS0 r25) (hm.rdS0 r30) (hm.rdS0 r35)) (smEngine_wt (by omega))) (fun z220 => ?_)
          refine tyEngine_sp ?_
          rintro ⟨v221, v222, v223, v224, v225⟩ rfl
          refine WM_form (n := 0) rfl ?_
          rintro A226 c227 rfl m228
          refine WM_form (n := 1) rfl ?_
          rintro A230 c231 rfl m232
          refine WM_form (n := 2) rfl ?_
          rintro A234 c235 rfl m236
          refine WM_form (n := 3) rfl ?_
          rintro A238 c239 rfl m240
          refine WM_form (n := 4) rfl ?_
          rintro A242 c243 rfl m244
          refine wm ?_
          refine wcl (tSl tInt 3) (laws_toIntS_m x1) (cl_fn cb48 rfl) (fun W hm => laws_toIntS_c W _ x1 (hm.rdS0 r40) (by omega)) (fun z246 => ?_)
          refine WM_form (n := 0) rfl ?_
          rintro A247 c248 rfl m249
          refine WM_call (χ := List Value) (val := fun x => .tuple #[.agg x.toArray, .bool ((impl_SetOrder_m (laws_toEngine_m x0) (laws_toIntS_m x1)).2)]) (js := fun x => [iOwn tyEngine x ((impl_SetOrder_m (laws_toEngine_m x0) (laws_toIntS_m x1)).1)]) (cl_fn cb46 rfl) (fun W hm => impl_SetOrder_c W _ (laws_toEngine_m x0) _ (laws_toIntS_m x1) (tyEngine_mk (x := (laws_toEngine_m x0)) (hm.rdSI (n := 1) rfl) (hm.rdSI (n := 2) rfl) (hm.rdSI (n := 3) rfl) (hm.rdSI (n := 4) rfl) (hm.rdSI (n := 5) rfl)) (hm.rdSI (n := 0) rfl) (by rw [laws_toEngine_eq]; exact (smEngine_wt (by omega))) (by rw [laws_toIntS_eq]; exact (by omega))) (Wd_none rfl) (by decide) (fun z251 => ?_)
          refine tyEngine_sp ?_
          rintro ⟨v252, v253, v254, v255, v256⟩ rfl
          refine WM_form (n := 0) rfl ?_
          rintro A257 c258 rfl m259
          refine WM_form (n := 1) rfl ?_
          rintro A261 c262 rfl m263
          refine WM_form (n := 2) rfl ?_
          rintro A265 c266 rfl m267
          refine WM_form (n := 3) rfl ?_
          rintro A269 c270 rfl m271
          refine WM_form (n := 4) rfl ?_
          rintro A273 c274 rfl m275
          refine wm ?_
          refine wv (fun W hm => rv_extract rfl rfl) ?_
          refine wv (fun W hm => rv_extract rfl rfl) ?_
          refine WM_alloc type47 rfl (Wd_none rfl) (by decide) (fun p277 => ?_)
          let K16 : List Value := [.slice A257 (((impl_SetOrder_m (laws_toEngine_m x0) (laws_toIntS_m x1)).1).Store.Segments).length c258, .int .i64 (((impl_SetOrder_m (laws_toEngine_m x0) (laws_toIntS_m x1)).1).Store.Now), .int .i64 (((impl_SetOrder_m (laws_toEngine_m x0) (laws_toIntS_m x1)).1).Cursor), .slice A261 (((impl_SetOrder_m (laws_toEngine_m x0) (laws_toIntS_m x1)).1).Order).length c262, .slice A265 (((impl_SetOrder_m (laws_toEngine_m x0) (laws_toIntS_m x1)).1).Active).length c266, .slice A269 (((impl_SetOrder_m (laws_toEngine_m x0) (laws_toIntS_m x1)).1).Done).length c270, .slice A273 (((impl_SetOrder_m (laws_toEngine_m x0) (laws_toIntS_m x1)).1).Ledger).length c274, .int .i64 (((impl_SetOrder_m (laws_toEngine_m x0) (laws_toIntS_m x1)).1).Steps)]
          refine sb 0 K16 [iOwn (tSl (tSl tyVersion 191) 131) [.slice A257 (((impl_SetOrder_m (laws_toEngine_m x0) (laws_toIntS_m x1)).1).Store.Segments).length c258] (((impl_SetOrder_m (laws_toEngine_m x0) (laws_toIntS_m x1)).1).Store.Segments), iOwn (tSl tInt 3) [.slice A261 (((impl_SetOrder_m (laws_toEngine_m x0) (laws_toIntS_m x1)).1).Order).length c262] (((impl_SetOrder_m (laws_toEngine_m x0) (laws_toIntS_m x1)).1).Order), iOwn (tSl tyActive 64) [.slice A265 (((impl_SetOrder_m (laws_toEngine_m x0) (laws_toIntS_m x1)).1).Active).length c266] (((impl_SetOrder_m (laws_toEngine_m x0) (laws_toIntS_m x1)).1).Active), iOwn (tSl tyFinished 37) [.slice A269 (((impl_SetOrder_m (laws_toEngine_m x0) (laws_toIntS_m x1)).1).Done).length c270] (((impl_SetOrder_m (laws_toEngine_m x0) (laws_toIntS_m x1)).1).Done), iOwn (tSl tyCharge 133) [.slice A273 (((impl_SetOrder_m (laws_toEngine_m x0) (laws_toIntS_m x1)).1).Ledger).length c274] (((impl_SetOrder_m (laws_toEngine_m x0) (laws_toIntS_m x1)).1).Ledger), iOwn (tSl tInt 3) [.slice A247 (laws_toIntS_m x1).length c248] (laws_toIntS_m x1), iOwn (tSl (tSl tyVersion 191) 131) [.slice A226 ((laws_toEngine_m x0).Store.Segments).length c227] ((laws_toEngine_m x0).Store.Segments), iOwn (tSl tInt 3) [.slice A230 ((laws_toEngine_m x0).Order).length c231] ((laws_toEngine_m x0).Order), iOwn (tSl tyActive 64) [.slice A234 ((laws_toEngine_m x0).Active).length c235] ((laws_toEngine_m x0).Active), iOwn (tSl tyFinished 37) [.slice A238 ((laws_toEngine_m x0).Done).length c239] ((laws_toEngine_m x0).Done), iOwn (tSl tyCharge 133) [.slice A242 ((laws_toEngine_m x0).Ledger).length c243] ((laws_toEngine_m x0).Ledger), iOwn (tSl (tSl tyVersion 191) 131) K11 ((laws_markEngine_m ((impl_SetOrder_m (laws_toEngine_m x0) (laws_toIntS_m x1)).1) 1).2.Store.Segments), iOwn (tSl tInt 3) K12 ((laws_markEngine_m ((impl_SetOrder_m (laws_toEngine_m x0) (laws_toIntS_m x1)).1) 1).2.Order), iOwn (tSl tyActive 64) K13 ((laws_markEngine_m ((impl_SetOrder_m (laws_toEngine_m x0) (laws_toIntS_m x1)).1) 1).2.Active), iOwn (tSl tyFinished 37) K14 ((laws_markEngine_m ((impl_SetOrder_m (laws_toEngine_m x0) (laws_toIntS_m x1)).1) 1).2.Done), iOwn (tSl tyCharge 133) K15 ((laws_markEngine_m ((impl_SetOrder_m (laws_toEngine_m x0) (laws_toIntS_m x1)).1) 1).2.Ledger), I34, iBox p162 47 K10, iBox p103 47 K2, I17, I18, I19, I20, I21, iBox p41 30 K1] (fun W hm => hm) type47 ?_
          refine wa (nt' (CM_seq (CM_seq ?_)))
          refine CM_items (pk [0, 1, 2, 3, 4, 5, 12, 13, 14, 15, 16, 18, 19, 20, 21, 22, 23, 24]) ?_
          refine CM_region ?_
          refine wv (fun W hm => rv_loadN (cs := K16) underlying47 type47 rfl rfl (hm.boxCells (n := 0) rfl)) ?_
          refine wv (fun W hm => rv_loadN (cs := K2) underlying47 type47 rfl rfl (hm.boxCells (n := 12) rfl)) ?_
          refine wcv (cl_fn cb19 rfl) (fun W hm => laws_eqEngine_c W _ ((impl_SetOrder_m (laws_toEngine_m x0) (laws_toIntS_m x1)).1) _ ((spec_SetOrder_m (laws_toEngine_m x0) (laws_toIntS_m x1)).1) (tyEngine_mk (x := ((impl_SetOrder_m (laws_toEngine_m x0) (laws_toIntS_m x1)).1)) (hm.rdSI (n := 1) rfl) (hm.rdSI (n := 2) rfl) (hm.rdSI (n := 3) rfl) (hm.rdSI (n := 4) rfl) (hm.rdSI (n := 5) rfl)) (tyEngine_mk (x := ((spec_SetOrder_m (laws_toEngine_m x0) (laws_toIntS_m x1)).1)) (hm.rdSI (n := 13) rfl) (hm.rdSI (n := 14) rfl) (hm.rdSI (n := 15) rfl) (hm.rdSI (n := 16) rfl) (hm.rdSI (n := 17) rfl))) ?_
          refine wv vnot ?_
          refine wm ?_
          refine wg vmv (nt g164) ?_
          refine wg vmv (nt g164) ?_
          refine wg (fun W hm => rv_neqB underlying4 rfl rfl) (nt g164) ?_
          refine wv (vpF (nt g164)) ?_
          refine nt' ?_
          refine CM_condF rfl g166 ?_
          refine CM_skip (QM_then (CM_seq ?_))
          refine CM_items (pk [6, 7, 8, 9, 10, 11]) ?_
          refine CM_region (wa (nt' (sr ?_)))
          refine wv (fun W hm => rv_loadN (cs := K10) underlying47 type47 rfl rfl (hm.boxCells (n := 5) rfl)) ?_
          refine wm ?_
          refine wcv (cl_fn cb51 rfl) (fun W hm => laws_heldEngine_c W _ (⟨(⟨(laws_markEngine_m ((impl_SetOrder_m (laws_toEngine_m x0) (laws_toIntS_m x1)).1) 1).2.Store.Segments, ((impl_SetOrder_m (laws_toEngine_m x0) (laws_toIntS_m x1)).1).Store.Now⟩ : DStore), ((impl_SetOrder_m (laws_toEngine_m x0) (laws_toIntS_m x1)).1).Cursor, (laws_markEngine_m ((impl_SetOrder_m (laws_toEngine_m x0) (laws_toIntS_m x1)).1) 1).2.Order, (laws_markEngine_m ((impl_SetOrder_m (laws_toEngine_m x0) (laws_toIntS_m x1)).1) 1).2.Active, (laws_markEngine_m ((impl_SetOrder_m (laws_toEngine_m x0) (laws_toIntS_m x1)).1) 1).2.Done, (laws_markEngine_m ((impl_SetOrder_m (laws_toEngine_m x0) (laws_toIntS_m x1)).1) 1).2.Ledger, ((impl_SetOrder_m (laws_toEngine_m x0) (laws_toIntS_m x1)).1).Steps⟩ : DEngine) 1 (tyEngine_mk (x := (⟨(⟨(laws_markEngine_m ((impl_SetOrder_m (laws_toEngine_m x0) (laws_toIntS_m x1)).1) 1).2.Store.Segments, ((impl_SetOrder_m (laws_toEngine_m x0) (laws_toIntS_m x1)).1).Store.Now⟩ : DStore), ((impl_SetOrder_m (laws_toEngine_m x0) (laws_toIntS_m x1)).1).Cursor, (laws_markEngine_m ((impl_SetOrder_m (laws_toEngine_m x0) (laws_toIntS_m x1)).1) 1).2.Order, (laws_markEngine_m ((impl_SetOrder_m (laws_toEngine_m x0) (laws_toIntS_m x1)).1) 1).2.Active, (laws_markEngine_m ((impl_SetOrder_m (laws_toEngine_m x0) (laws_toIntS_m x1)).1) 1).2.Done, (laws_markEngine_m ((impl_SetOrder_m (laws_toEngine_m x0) (laws_toIntS_m x1)).1) 1).2.Ledger, ((impl_SetOrder_m (laws_toEngine_m x0) (laws_toIntS_m x1)).1).Steps⟩ : DEngine)) (hm.rdSI (n := 0) rfl) (hm.rdSI (n := 1) rfl) (hm.rdSI (n := 2) rfl) (hm.rdSI (n := 3) rfl) (hm.rdSI (n := 4) rfl))) ?_
          refine wa (nt' (CM_seq (CM_seq ?_)))
          refine CM_items (pk []) ?_
          refine CM_region (wm ?_)
          refine wv vlss ?_
          refine nt' ?_
          refine CM_condF rfl g217 ?_
          refine CM_skip (QM_then (CM_seq (sr (wm (wm ?_)))))
          refine wv vneq ?_
          refine nt' ?_
          refine CM_condF rfl g219 ?_
          refine CM_skip (QM_then (sr (wa (nt' (CM_ret ?_)))))
          exact rtb (h := by unfold laws_FnExactSetOrder_m; exact cond_f g43 (cond_f g45 (cond_t g164 (cond_f g166 (cond_t g194 (cond_t g201 (cond_f g209 (cond_f g217 (cond_f g219 (rfl))))))))))
         ·have g219 : ((laws_heldEngine_m (⟨(⟨(laws_markEngine_m ((impl_SetOrder_m (laws_toEngine_m x0) (laws_toIntS_m x1)).1) 1).2.Store.Segments, ((impl_SetOrder_m (laws_toEngine_m x0) (laws_toIntS_m x1)).1).Store.Now⟩ : DStore), ((impl_SetOrder_m (laws_toEngine_m x0) (laws_toIntS_m x1)).1).Cursor, (laws_markEngine_m ((impl_SetOrder_m (laws_toEngine_m x0) (laws_toIntS_m x1)).1) 1).2.Order, (laws_markEngine_m ((impl_SetOrder_m (laws_toEngine_m x0) (laws_toIntS_m x1)).1) 1).2.Active, (laws_markEngine_m ((impl_SetOrder_m (laws_toEngine_m x0) (laws_toIntS_m x1)).1) 1).2.Done, (laws_markEngine_m ((impl_SetOrder_m (laws_toEngine_m x0) (laws_toIntS_m x1)).1) 1).2.Ledger, ((impl_SetOrder_m (laws_toEngine_m x0) (laws_toIntS_m x1)).1).Steps⟩ : DEngine) 1) != ((laws_markEngine_m ((impl_SetOrder_m (laws_toEngine_m x0) (laws_toIntS_m x1)).1) 1).1)) = true := bne_iff_ne.2 h218
          refine CM_condT rfl g219 ?_
          refine CM_seq ?_
          refine CM_items (pk []) ?_
          refine CM_region (wa (nt' (CM_ret (QM_then_ret ?_))))
          exact rtb (h := by unfold laws_FnExactSetOrder_m; exact cond_f g43 (cond_f g45 (cond_t g164 (cond_f g166 (cond_t g194 (cond_t g201 (cond_f g209 (cond_f g217 (cond_t g219 (rfl))))))))))
      ·
       refine CM_condT rfl (nf g201) ?_
       refine CM_seq ?_
       refine CM_items (pk []) ?_
       refine CM_region (wa (nt' (CM_ret (QM_then_ret ?_))))
       exact rtb (h := by unfold laws_FnExactSetOrder_m; exact cond_f g43 (cond_f g45 (cond_t g164 (cond_f g166 (cond_t g194 (cond_f g201 (rfl)))))))
     ·
      refine CM_condT rfl (nf g194) ?_
      refine CM_seq ?_
      refine CM_items (pk []) ?_
      refine CM_region (wa (nt' (CM_ret (QM_then_ret ?_))))
      exact rtb (h := by unfold laws_FnExactSetOrder_m; exact cond_f g43 (cond_f g45 (cond_t g164 (cond_f g166 (cond_f g194 (rfl))))))
   ·
    refine ws (nf g164) ?_
    refine ws (nf g164) ?_
    refine ws (nf g164) ?_
    refine wv (vpT (nf g164)) ?_
    refine nt' ?_
    refine CM_condT rfl rfl ?_
    refine CM_seq ?_
    refine CM_items (pk []) ?_
    refine CM_region (wa (nt' (CM_ret (QM_then_ret ?_))))
    exact rtb (h := by unfold laws_FnExactSetOrder_m; exact cond_f g43 (cond_f g45 (cond_f g164 (rfl))))

end Go.Proofs.YtmikmbmdibabmaaGreat
