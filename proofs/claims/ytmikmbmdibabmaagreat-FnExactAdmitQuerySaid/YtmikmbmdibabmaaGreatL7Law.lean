/-
  The contract of the law.
-/
import Derived.Test.YtmikmbmdibabmaaGreatL7Pl
namespace Go.Proofs.YtmikmbmdibabmaaGreat
open Go.RowKit
set_option maxRecDepth 100000
set_option maxHeartbeats 4000000
open _root_.Go.Proofs.Tryz
def laws_FnExactAdmitQuery_m (x0 : DEngine) (x1 : DQuery) (x2 : Int) : Bool :=
 cond (decide ((laws_szEngine_m x0 1048576) < 0)) true (cond (decide ((laws_szQuery_m x1 (laws_szEngine_m x0 1048576)) < 0)) true (cond (laws_eqEngine_m (impl_AdmitQuery_m (laws_toEngine_m x0) (laws_toQuery_m x1) x2).1 (spec_AdmitQuery_m (laws_toEngine_m x0) (laws_toQuery_m x1) x2).1) (cond ((impl_AdmitQuery_m (laws_toEngine_m x0) (laws_toQuery_m x1) x2).2 != (spec_AdmitQuery_m (laws_toEngine_m x0) (laws_toQuery_m x1) x2).2) false (cond (laws_eqEngine_m (laws_toEngine_m x0) (laws_toEngine_m x0)) (cond (laws_eqQuery_m (laws_toQuery_m x1) (laws_toQuery_m x1)) (cond (decide ((laws_markQuery_m (laws_toQuery_m x1) (laws_markEngine_m (laws_toEngine_m x0) 1).1).1 < 0)) false (cond (decide ((laws_heldEngine_m (⟨(⟨(laws_markEngine_m (impl_AdmitQuery_m (laws_toEngine_m x0) (laws_toQuery_m x1) x2).1 1).2.Store.Segments, (impl_AdmitQuery_m (laws_toEngine_m x0) (laws_toQuery_m x1) x2).1.Store.Now⟩ : DStore), (impl_AdmitQuery_m (laws_toEngine_m x0) (laws_toQuery_m x1) x2).1.Cursor, (laws_markEngine_m (impl_AdmitQuery_m (laws_toEngine_m x0) (laws_toQuery_m x1) x2).1 1).2.Order, (laws_markEngine_m (impl_AdmitQuery_m (laws_toEngine_m x0) (laws_toQuery_m x1) x2).1 1).2.Active, (laws_markEngine_m (impl_AdmitQuery_m (laws_toEngine_m x0) (laws_toQuery_m x1) x2).1 1).2.Done, (laws_markEngine_m (impl_AdmitQuery_m (laws_toEngine_m x0) (laws_toQuery_m x1) x2).1 1).2.Ledger, (impl_AdmitQuery_m (laws_toEngine_m x0) (laws_toQuery_m x1) x2).1.Steps⟩ : DEngine) 1) < 0)) false (cond ((laws_heldEngine_m (⟨(⟨(laws_markEngine_m (impl_AdmitQuery_m (laws_toEngine_m x0) (laws_toQuery_m x1) x2).1 1).2.Store.Segments, (impl_AdmitQuery_m (laws_toEngine_m x0) (laws_toQuery_m x1) x2).1.Store.Now⟩ : DStore), (impl_AdmitQuery_m (laws_toEngine_m x0) (laws_toQuery_m x1) x2).1.Cursor, (laws_markEngine_m (impl_AdmitQuery_m (laws_toEngine_m x0) (laws_toQuery_m x1) x2).1 1).2.Order, (laws_markEngine_m (impl_AdmitQuery_m (laws_toEngine_m x0) (laws_toQuery_m x1) x2).1 1).2.Active, (laws_markEngine_m (impl_AdmitQuery_m (laws_toEngine_m x0) (laws_toQuery_m x1) x2).1 1).2.Done, (laws_markEngine_m (impl_AdmitQuery_m (laws_toEngine_m x0) (laws_toQuery_m x1) x2).1 1).2.Ledger, (impl_AdmitQuery_m (laws_toEngine_m x0) (laws_toQuery_m x1) x2).1.Steps⟩ : DEngine) 1) != ((laws_markEngine_m (impl_AdmitQuery_m (laws_toEngine_m x0) (laws_toQuery_m x1) x2).1 1).1)) false (cond (laws_eqEngine_m (impl_AdmitQuery_m (laws_toEngine_m x0) (laws_toQuery_m x1) x2).1 (spec_AdmitQuery_m (laws_toEngine_m x0) (laws_toQuery_m x1) x2).1) (cond ((impl_AdmitQuery_m (laws_toEngine_m x0) (laws_toQuery_m x1) x2).2 != (spec_AdmitQuery_m (laws_toEngine_m x0) (laws_toQuery_m x1) x2).2) false true) false)))) false) false)) false))
theorem cb7 : Cb Tryz.prog 7 := ⟨f7, _, func7, rfl, by decide⟩
theorem laws_FnExactAdmitQuery_c (w : World) (z0 : List Value) (x0 : DEngine) (z1 : List Value) (x1 : DQuery) (x2 : Int) (r_0 : tyLEngine.rd w w.heap.size z0 x0) (r_1 : tyLQuery.rd w w.heap.size z1 x1) :
  Calls Tryz.prog 7 #[.agg z0.toArray, .agg z1.toArray, .int .i64 x2] w fun e w' => e = .returned (.bool (laws_FnExactAdmitQuery_m x0 x1 x2)) ∧ Below w.heap.size w w' := by
 have ok0 := (tyLEngine_sm r_0)
 have ok1 := (tyLQuery_sm r_1)
 obtain ⟨v1, v3, v5, v7, v9, rfl, r2, r4, r6, r8, r10⟩ := tyLEngine_rd r_0
 obtain ⟨m11, A12, c13, rfl, q14, r15⟩ := rdS_op r2
 obtain ⟨m16, A17, c18, rfl, q19, r20⟩ := rdS_op r4
 obtain ⟨m21, A22, c23, rfl, q24, r25⟩ := rdS_op r6
 obtain ⟨m26, A27, c28, rfl, q29, r30⟩ := rdS_op r8
 obtain ⟨m31, A32, c33, rfl, q34, r35⟩ := rdS_op r10
 obtain ⟨v36, v38, rfl, r37, r39⟩ := tyLQuery_rd r_1
 obtain ⟨m40, A41, c42, rfl, q43, r44⟩ := rdS_op r37
 obtain ⟨m45, A46, c47, rfl, q48, r49⟩ := rdS_op r39
 refine ce3 (L := [(0, .agg #[.slice A12 x0.Store.Segments.length c13, .int .i64 x0.Store.Now, .int .i64 x0.Cursor, .slice A17 x0.Order.length c18, .slice A22 x0.Active.length c23, .slice A27 x0.Done.length c28, .slice A32 x0.Ledger.length c33, .int .i64 x0.Steps]), (1, .agg #[.int .i64 x1.Id, .int .i64 x1.Tenant, .slice A41 x1.Conds.length c42, .slice A46 x1.Out.length c47]), (2, .int .i64 x2)]) (N := 124) func7 ?_
 refine sr ?_
 refine WM_box rfl (Wd_none rfl) (by decide) (fun p50 => ?_)
 refine WM_box rfl (Wd_none rfl) (by decide) (fun p51 => ?_)
 refine wa (nt' (sr (wa (nt' (sr ?_)))))
 let K1 : List Value := [.slice A12 x0.Store.Segments.length c13, .int .i64 x0.Store.Now, .int .i64 x0.Cursor, .slice A17 x0.Order.length c18, .slice A22 x0.Active.length c23, .slice A27 x0.Done.length c28, .slice A32 x0.Ledger.length c33, .int .i64 x0.Steps]
 refine wv (fun W hm => rv_loadN (cs := K1) underlying30 type30 rfl rfl (hm.boxCells (n := 1) rfl)) ?_
 refine wm ?_
 refine wcv (cl_fn cb14 rfl) (fun W hm => laws_szEngine_c W _ x0 1048576 (tyLEngine_mk (x := x0) (hm.rdS0 r15) (hm.rdS0 r20) (hm.rdS0 r25) (hm.rdS0 r30) (hm.rdS0 r35))) ?_
 refine wa (nt' (CM_seq (sr (wm ?_))))
 refine wv vlss ?_
 refine nt' ?_
 by_cases h52 : (laws_szEngine_m x0 1048576) < 0
 ·have g53 := decide_eq_true h52
  refine CM_condT rfl g53 ?_
  refine sr (wa (nt' (CM_ret (QM_then_ret ?_))))
  exact rtb (h := cond_t g53 (rfl))
 ·have g53 := decide_eq_false h52
  obtain ⟨hz0, hy0, hw0⟩ := sz_small laws_szEngine_ok ok0 (by omega) (by omega) g53
  refine CM_condF rfl g53 ?_
  refine CM_skip (QM_then (sr ?_))
  let K2 : List Value := [.int .i64 x1.Id, .int .i64 x1.Tenant, .slice A41 x1.Conds.length c42, .slice A46 x1.Out.length c47]
  refine wv (fun W hm => rv_loadN (cs := K2) underlying87 type87 rfl rfl (hm.boxCells (n := 0) rfl)) ?_
  refine wm ?_
  refine wcv (cl_fn cb52 rfl) (fun W hm => laws_szQuery_c W _ x1 (laws_szEngine_m x0 1048576) (tyLQuery_mk (x := x1) (hm.rdS0 r44) (hm.rdS0 r49))) ?_
  refine wa (nt' (CM_seq (sr (wm ?_))))
  refine wv vlss ?_
  refine nt' ?_
  by_cases h54 : (laws_szQuery_m x1 (laws_szEngine_m x0 1048576)) < 0
  ·have g55 := decide_eq_true h54
   refine CM_condT rfl g55 ?_
   refine sr (wa (nt' (CM_ret (QM_then_ret ?_))))
   exact rtb (h := cond_f g53 (cond_t g55 (rfl)))
  ·have g55 := decide_eq_false h54
   obtain ⟨hz1, hy1, hw1⟩ := sz_small laws_szQuery_ok ok1 (by omega) (by omega) g55
   refine CM_condF rfl g55 ?_
   refine CM_skip (QM_then (CM_seq ?_))
   obtain ⟨G56, hG56⟩ : ∃ G, G = (spec_AdmitQuery_m (laws_toEngine_m x0) (laws_toQuery_m x1) x2) := ⟨_, rfl⟩
   refine rd2 12 [10] (s := [iBox p51 87 K2, iBox p50 30 K1]) (s2 := [iBox p51 87 K2, iBox p50 30 K1]) (fun W hm => hm) (fun W hm => hm) ?_
   let K3 : List Value := [.slice none 0 0, .int .i64 0, .int .i64 0, .slice none 0 0, .slice none 0 0, .slice none 0 0, .slice none 0 0, .int .i64 0]
   refine QD_mid (σ := Option Addr × Nat × Option Addr × Nat × Option Addr × Nat × Option Addr × Nat × Option Addr × Nat × Nat × Option Addr × Nat × Option Addr × Nat × Option Addr × Nat × Option Addr × Nat × Option Addr × Nat × Option Addr × Nat × Option Addr × Nat) (fun s => [iBox p51 87 K2, iBox p50 30 K1]) 12 1023 2 (fun s => [(2, .int .i64 x2), (3, .pointer (some (⟨p50, 0, none⟩ : Addr))), (4, .pointer (some (⟨p51, 0, none⟩ : Addr))), (36, .agg #[.slice s.1 G56.1.Store.Segments.length s.2.1, .int .i64 G56.1.Store.Now, .int .i64 G56.1.Cursor, .slice s.2.2.1 G56.1.Order.length s.2.2.2.1, .slice s.2.2.2.2.1 G56.1.Active.length s.2.2.2.2.2.1, .slice s.2.2.2.2.2.2.1 G56.1.Done.length s.2.2.2.2.2.2.2.1, .slice s.2.2.2.2.2.2.2.2.1 G56.1.Ledger.length s.2.2.2.2.2.2.2.2.2.1, .int .i64 G56.1.Steps]), (37, .bool G56.2), (8, .pointer (some (⟨s.2.2.2.2.2.2.2.2.2.2.1, 0, none⟩ : Addr)))]) (fun s => [iBox s.2.2.2.2.2.2.2.2.2.2.1 47 K3, iOwn (tSl (tSl tyVersion 191) 131) [.slice s.1 G56.1.Store.Segments.length s.2.1] G56.1.Store.Segments, iOwn (tSl tInt 3) [.slice s.2.2.1 G56.1.Order.length s.2.2.2.1] G56.1.Order, iOwn (tSl tyActive 64) [.slice s.2.2.2.2.1 G56.1.Active.length s.2.2.2.2.2.1] G56.1.Active, iOwn (tSl tyFinished 37) [.slice s.2.2.2.2.2.2.1 G56.1.Done.length s.2.2.2.2.2.2.2.1] G56.1.Done, iOwn (tSl tyCharge 133) [.slice s.2.2.2.2.2.2.2.2.1 G56.1.Ledger.length s.2.2.2.2.2.2.2.2.2.1] G56.1.Ledger, iOwn (tSl tyCond 201) [.slice s.2.2.2.2.2.2.2.2.2.2.2.1 ((laws_toQuery_m x1).Conds).length s.2.2.2.2.2.2.2.2.2.2.2.2.1] ((laws_toQuery_m x1).Conds), iOwn (tSl tInt 3) [.slice s.2.2.2.2.2.2.2.2.2.2.2.2.2.1 ((laws_toQuery_m x1).Out).length s.2.2.2.2.2.2.2.2.2.2.2.2.2.2.1] ((laws_toQuery_m x1).Out), iOwn (tSl (tSl tyVersion 191) 131) [.slice s.2.2.2.2.2.2.2.2.2.2.2.2.2.2.2.1 ((laws_toEngine_m x0).Store.Segments).length s.2.2.2.2.2.2.2.2.2.2.2.2.2.2.2.2.1] ((laws_toEngine_m x0).Store.Segments), iOwn (tSl tInt 3) [.slice s.2.2.2.2.2.2.2.2.2.2.2.2.2.2.2.2.2.1 ((laws_toEngine_m x0).Order).length s.2.2.2.2.2.2.2.2.2.2.2.2.2.2.2.2.2.2.1] ((laws_toEngine_m x0).Order), iOwn (tSl tyActive 64) [.slice s.2.2.2.2.2.2.2.2.2.2.2.2.2.2.2.2.2.2.2.1 ((laws_toEngine_m x0).Active).length s.2.2.2.2.2.2.2.2.2.2.2.2.2.2.2.2.2.2.2.2.1] ((laws_toEngine_m x0).Active), iOwn (tSl tyFinished 37) [.slice s.2.2.2.2.2.2.2.2.2.2.2.2.2.2.2.2.2.2.2.2.2.1 ((laws_toEngine_m x0).Done).length s.2.2.2.2.2.2.2.2.2.2.2.2.2.2.2.2.2.2.2.2.2.2.1] ((laws_toEngine_m x0).Done), iOwn (tSl tyCharge 133) [.slice s.2.2.2.2.2.2.2.2.2.2.2.2.2.2.2.2.2.2.2.2.2.2.2.1 ((laws_toEngine_m x0).Ledger).length s.2.2.2.2.2.2.2.2.2.2.2.2.2.2.2.2.2.2.2.2.2.2.2.2] ((laws_toEngine_m x0).Ledger), iBox p51 87 K2, iBox p50 30 K1]) ?_ (fun H => ?_)
   ·
    rintro ⟨A100, c101, A104, c105, A108, c109, A112, c113, A116, c117, p120, A86, c87, A90, c91, A63, c64, A67, c68, A71, c72, A75, c76, A79, c80⟩
    let K4 : List Value := [.slice A63 ((laws_toEngine_m x0).Store.Segments).length c64]
    let I11 : It := iOwn (tSl (tSl tyVersion 191) 131) [.slice A100 G56.1.Store.Segments.length c101] G56.1.Store.Segments
    let I12 : It := iOwn (tSl tInt 3) [.slice A104 G56.1.Order.length c105] G56.1.Order
    let I13 : It := iOwn (tSl tyActive 64) [.slice A108 G56.1.Active.length c109] G56.1.Active
    let I14 : It := iOwn (tSl tyFinished 37) [.slice A112 G56.1.Done.length c113] G56.1.Done
    let I15 : It := iOwn (tSl tyCharge 133) [.slice A116 G56.1.Ledger.length c117] G56.1.Ledger
    let I16 : It := iOwn (tSl tyCond 201) [.slice A86 ((laws_toQuery_m x1).Conds).length c87] ((laws_toQuery_m x1).Conds)
    let I17 : It := iOwn (tSl tInt 3) [.slice A90 ((laws_toQuery_m x1).Out).length c91] ((laws_toQuery_m x1).Out)
    let I18 : It := iOwn (tSl (tSl tyVersion 191) 131) K4 ((laws_toEngine_m x0).Store.Segments)
    let I19 : It := iOwn (tSl tInt 3) [.slice A67 ((laws_toEngine_m x0).Order).length c68] ((laws_toEngine_m x0).Order)
    let I20 : It := iOwn (tSl tyActive 64) [.slice A71 ((laws_toEngine_m x0).Active).length c72] ((laws_toEngine_m x0).Active)
    let I21 : It := iOwn (tSl tyFinished 37) [.slice A75 ((laws_toEngine_m x0).Done).length c76] ((laws_toEngine_m x0).Done)
    let I22 : It := iOwn (tSl tyCharge 133) [.slice A79 ((laws_toEngine_m x0).Ledger).length c80] ((laws_toEngine_m x0).Ledger)
    show QD _ _ _ _ _ _ _ _ [(2, .int .i64 x2), (3, .pointer (some (⟨p50, 0, none⟩ : Addr))), (4, .pointer (some (⟨p51, 0, none⟩ : Addr))), (36, .agg #[.slice A100 G56.1.Store.Segments.length c101, .int .i64 G56.1.Store.Now, .int .i64 G56.1.Cursor, .slice A104 G56.1.Order.length c105, .slice A108 G56.1.Active.length c109, .slice A112 G56.1.Done.length c113, .slice A116 G56.1.Ledger.length c117, .int .i64 G56.1.Steps]), (37, .bool G56.2), (8, .pointer (some (⟨p120, 0, none⟩ : Addr)))] _ [iBox p51 87 K2, iBox p50 30 K1] _ [iBox p120 47 K3, I11, I12, I13, I14, I15, I16, I17, I18, I19, I20, I21, I22, iBox p51 87 K2, iBox p50 30 K1]
    refine QD_len (n := 1) rfl ?_
    intro m121 m122
    refine QD_len (n := 2) rfl ?_
    intro m123 m124
    refine QD_len (n := 3) rfl ?_
    intro m125 m126
    refine QD_len (n := 4) rfl ?_
    intro m127 m128
    refine QD_len (n := 5) rfl ?_
    intro m129 m130
    refine QD_len (n := 6) rfl ?_
    intro m131 m132
    refine QD_len (n := 7) rfl ?_
    intro m133 m134
    refine QD_len (n := 8) rfl ?_
    intro m135 m136
    refine QD_len (n := 9) rfl ?_
    intro m137 m138
    refine QD_len (n := 10) rfl ?_
    intro m139 m140
    refine QD_len (n := 11) rfl ?_
    intro m141 m142
    refine QD_len (n := 12) rfl ?_
    intro m143 m144
    refine qoD 12 10 2047 rfl ?_
    let K5 : List Value := [.slice A100 G56.1.Store.Segments.length c101, .int .i64 G56.1.Store.Now, .int .i64 G56.1.Cursor, .slice A104 G56.1.Order.length c105, .slice A108 G56.1.Active.length c109, .slice A112 G56.1.Done.length c113, .slice A116 G56.1.Ledger.length c117, .int .i64 G56.1.Steps]
    refine sb 0 K5 [I11, I12, I13, I14, I15, I16, I17, I18, I19, I20, I21, I22, iBox p51 87 K2, iBox p50 30 K1] (fun W hm => hm) type47 ?_
    refine qxD (pk [13, 14]) ?_
    refine qt 12 11 4095 rfl (fun W hm => rv_assign rfl) ?_
    refine QB_done (by kernel_rfl) ?_
    refine QM_then (CM_seq ?_)
    refine CM_items (pk [0, 1, 2, 3, 4, 5, 13, 14]) ?_
    refine CM_region ?_
    refine wv (fun W hm => rv_loadN (cs := K1) underlying30 type30 rfl rfl (hm.boxCells (n := 7) rfl)) ?_
    refine wcs tyEngine (laws_toEngine_m x0) (cl_fn cb16 rfl) (fun W hm => laws_toEngine_c W _ x0 (tyLEngine_mk (x := x0) (hm.rdS0 r15) (hm.rdS0 r20) (hm.rdS0 r25) (hm.rdS0 r30) (hm.rdS0 r35)) (smEngine_wt (by omega))) (fun z145 => ?_)
    refine tyEngine_sp ?_
    rintro ⟨v146, v147, v148, v149, v150⟩ rfl
    refine WM_form (n := 0) rfl ?_
    rintro A151 c152 rfl m153
    refine WM_form (n := 1) rfl ?_
    rintro A155 c156 rfl m157
    refine WM_form (n := 2) rfl ?_
    rintro A159 c160 rfl m161
    refine WM_form (n := 3) rfl ?_
    rintro A163 c164 rfl m165
    refine WM_form (n := 4) rfl ?_
    rintro A167 c168 rfl m169
    refine WM_alloc type47 rfl (Wd_none rfl) (by decide) (fun p171 => ?_)
    let K6 : List Value := [.slice A151 ((laws_toEngine_m x0).Store.Segments).length c152, .int .i64 ((laws_toEngine_m x0).Store.Now), .int .i64 ((laws_toEngine_m x0).Cursor), .slice A155 ((laws_toEngine_m x0).Order).length c156, .slice A159 ((laws_toEngine_m x0).Active).length c160, .slice A163 ((laws_toEngine_m x0).Done).length c164, .slice A167 ((laws_toEngine_m x0).Ledger).length c168, .int .i64 ((laws_toEngine_m x0).Steps)]
    let K7 : List Value := [.slice A151 ((laws_toEngine_m x0).Store.Segments).length c152]
    let I23 : It := iOwn (tSl (tSl tyVersion 191) 131) K7 ((laws_toEngine_m x0).Store.Segments)
    let I24 : It := iOwn (tSl tInt 3) [.slice A155 ((laws_toEngine_m x0).Order).length c156] ((laws_toEngine_m x0).Order)
    let I25 : It := iOwn (tSl tyActive 64) [.slice A159 ((laws_toEngine_m x0).Active).length c160] ((laws_toEngine_m x0).Active)
    let I26 : It := iOwn (tSl tyFinished 37) [.slice A163 ((laws_toEngine_m x0).Done).length c164] ((laws_toEngine_m x0).Done)
    let I27 : It := iOwn (tSl tyCharge 133) [.slice A167 ((laws_toEngine_m x0).Ledger).length c168] ((laws_toEngine_m x0).Ledger)
    refine sb 0 K6 [I23, I24, I25, I26, I27, iBox p120 47 K5, I11, I12, I13, I14, I15, iBox p51 87 K2, iBox p50 30 K1] (fun W hm => hm) type47 ?_
    refine nt' (sr ?_)
    refine wv (fun W hm => rv_loadN (cs := K2) underlying87 type87 rfl rfl (hm.boxCells (n := 12) rfl)) ?_
    refine wcs tyQuery (laws_toQuery_m x1) (cl_fn cb53 rfl) (fun W hm => laws_toQuery_c W _ x1 (tyLQuery_mk (x := x1) (hm.rdS0 r44) (hm.rdS0 r49)) (smQuery_wt (by omega))) (fun z172 => ?_)
    refine tyQuery_sp ?_
    rintro ⟨v173, v174⟩ rfl
    refine WM_form (n := 0) rfl ?_
    rintro A175 c176 rfl m177
    refine WM_form (n := 1) rfl ?_
    rintro A179 c180 rfl m181
    refine WM_alloc type34 rfl (Wd_none rfl) (by decide) (fun p183 => ?_)
    let K8 : List Value := [.int .i64 ((laws_toQuery_m x1).Id), .int .i64 ((laws_toQuery_m x1).Tenant), .slice A175 ((laws_toQuery_m x1).Conds).length c176, .slice A179 ((laws_toQuery_m x1).Out).length c180]
    let I28 : It := iOwn (tSl tyCond 201) [.slice A175 ((laws_toQuery_m x1).Conds).length c176] ((laws_toQuery_m x1).Conds)
    let I29 : It := iOwn (tSl tInt 3) [.slice A179 ((laws_toQuery_m x1).Out).length c180] ((laws_toQuery_m x1).Out)
    refine sb 0 K8 [I28, I29, iBox p171 47 K6, I23, I24, I25, I26, I27, iBox p120 47 K5, I11, I12, I13, I14, I15, iBox p51 87 K2, iBox p50 30 K1] (fun W hm => hm) type34 ?_
    refine nt' (sr ?_)
    refine wv (fun W hm => rv_loadN (cs := K6) underlying47 type47 rfl rfl (hm.boxCells (n := 3) rfl)) ?_
    refine wv (fun W hm => rv_loadN (cs := K8) underlying34 type34 rfl rfl (hm.boxCells (n := 0) rfl)) ?_
    refine wm ?_
    refine WM_call (χ := List Value) (val := fun x => .tuple #[.agg x.toArray, .bool ((impl_AdmitQuery_m (laws_toEngine_m x0) (laws_toQuery_m x1) x2).2)]) (js := fun x => [iOwn tyEngine x ((impl_AdmitQuery_m (laws_toEngine_m x0) (laws_toQuery_m x1) x2).1)]) (cl_fn cb36 rfl) (fun W hm => impl_AdmitQuery_c W _ (laws_toEngine_m x0) _ (laws_toQuery_m x1) x2 (tyEngine_mk (x := (laws_toEngine_m x0)) (hm.rdSI (n := 4) rfl) (hm.rdSI (n := 5) rfl) (hm.rdSI (n := 6) rfl) (hm.rdSI (n := 7) rfl) (hm.rdSI (n := 8) rfl)) (tyQuery_mk (x := (laws_toQuery_m x1)) (hm.rdSI (n := 1) rfl) (hm.rdSI (n := 2) rfl)) (by rw [laws_toEngine_eq]; exact (smEngine_wt (by omega))) (by rw [laws_toQuery_eq]; exact (smQuery_wt (by omega)))) (Wd_none rfl) (by decide) (fun z184 => ?_)
    obtain ⟨G185, hG185⟩ : ∃ G, G = (impl_AdmitQuery_m (laws_toEngine_m x0) (laws_toQuery_m x1) x2) := ⟨_, rfl⟩
    rw [← hG185]
    refine tyEngine_sp ?_
    rintro ⟨v186, v187, v188, v189, v190⟩ rfl
    refine WM_form (n := 0) rfl ?_
    rintro A191 c192 rfl m193
    refine WM_form (n := 1) rfl ?_
    rintro A195 c196 rfl m197
    refine WM_form (n := 2) rfl ?_
    rintro A199 c200 rfl m201
    refine WM_form (n := 3) rfl ?_
    rintro A203 c204 rfl m205
    refine WM_form (n := 4) rfl ?_
    rintro A207 c208 rfl m209
    refine wm ?_
    refine wv (fun W hm => rv_extract rfl rfl) ?_
    refine wv (fun W hm => rv_extract rfl rfl) ?_
    refine WM_alloc type47 rfl (Wd_none rfl) (by decide) (fun p211 => ?_)
    let K9 : List Value := [.slice A191 G185.1.Store.Segments.length c192, .int .i64 G185.1.Store.Now, .int .i64 G185.1.Cursor, .slice A195 G185.1.Order.length c196, .slice A199 G185.1.Active.length c200, .slice A203 G185.1.Done.length c204, .slice A207 G185.1.Ledger.length c208, .int .i64 G185.1.Steps]
    let I30 : It := iOwn (tSl (tSl tyVersion 191) 131) [.slice A191 G185.1.Store.Segments.length c192] G185.1.Store.Segments
    let I31 : It := iOwn (tSl tInt 3) [.slice A195 G185.1.Order.length c196] G185.1.Order
    let I32 : It := iOwn (tSl tyActive 64) [.slice A199 G185.1.Active.length c200] G185.1.Active
    let I33 : It := iOwn (tSl tyFinished 37) [.slice A203 G185.1.Done.length c204] G185.1.Done
    let I34 : It := iOwn (tSl tyCharge 133) [.slice A207 G185.1.Ledger.length c208] G185.1.Ledger
    refine sb 0 K9 [I30, I31, I32, I33, I34, iBox p183 34 K8, I28, I29, iBox p171 47 K6, I23, I24, I25, I26, I27, iBox p120 47 K5, I11, I12, I13, I14, I15, iBox p51 87 K2, iBox p50 30 K1] (fun W hm => hm) type47 ?_
    refine wa (nt' (CM_seq (sr ?_)))
    refine wv (fun W hm => rv_loadN (cs := K9) underlying47 type47 rfl rfl (hm.boxCells (n := 0) rfl)) ?_
    refine wv (fun W hm => rv_loadN (cs := K5) underlying47 type47 rfl rfl (hm.boxCells (n := 15) rfl)) ?_
    refine wcv (cl_fn cb19 rfl) (fun W hm => laws_eqEngine_c W _ G185.1 _ G56.1 (tyEngine_mk (x := G185.1) (hm.rdSI (n := 1) rfl) (hm.rdSI (n := 2) rfl) (hm.rdSI (n := 3) rfl) (hm.rdSI (n := 4) rfl) (hm.rdSI (n := 5) rfl)) (tyEngine_mk (x := G56.1) (hm.rdSI (n := 16) rfl) (hm.rdSI (n := 17) rfl) (hm.rdSI (n := 18) rfl) (hm.rdSI (n := 19) rfl) (hm.rdSI (n := 20) rfl))) ?_
    refine wv vnot ?_
    refine wm ?_
    rcases Bool.eq_false_or_eq_true (laws_eqEngine_m G185.1 G56.1) with g213 | g213
    ·
     refine wg vmv (nt g213) ?_
     refine wg vmv (nt g213) ?_
     refine wg (fun W hm => rv_neqB underlying4 rfl rfl) (nt g213) ?_
     refine wv (vpF (nt g213)) ?_
     refine nt' ?_
     rcases Bool.eq_false_or_eq_true (G185.2 != G56.2) with g215 | g215
     ·
      refine CM_condT rfl g215 ?_
      refine CM_seq ?_
      refine CM_items (pk []) ?_
      refine CM_region (wa (nt' (CM_ret (QM_then_ret ?_))))
      exact rtb (h := by subst hG56 hG185; exact cond_f g53 (cond_f g55 (cond_t g213 (cond_t g215 (rfl)))))
     ·
      refine CM_condF rfl g215 ?_
      refine CM_skip (QM_then (CM_seq (CM_seq ?_)))
      refine rb 5 (s := [iBox p211 47 K9, I30, I31, I32, I33, I34, iBox p183 34 K8, I28, I29, iBox p171 47 K6, I23, I24, I25, I26, I27, iBox p120 47 K5, I11, I12, I13, I14, I15, iBox p51 87 K2, iBox p50 30 K1]) (fun W hm => hm) ?_
      refine qt 5 0 1 rfl (fun W hm => rv_loadN (cs := K6) underlying47 type47 rfl rfl (hm.boxCells (n := 9) rfl)) ?_
      refine qt 5 1 3 rfl (fun W hm => rv_loadN (cs := K1) underlying30 type30 rfl rfl (hm.boxCells (n := 22) rfl)) ?_
      refine qo 5 2 7 rfl ?_
      refine wcs tyEngine (laws_toEngine_m x0) (cl_fn cb16 rfl) (fun W hm => laws_toEngine_c W _ x0 (tyLEngine_mk (x := x0) (hm.rdS0 r15) (hm.rdS0 r20) (hm.rdS0 r25) (hm.rdS0 r30) (hm.rdS0 r35)) (smEngine_wt (by omega))) (fun z216 => ?_)
      refine tyEngine_sp ?_
      rintro ⟨v217, v218, v219, v220, v221⟩ rfl
      refine WM_form (n := 0) rfl ?_
      rintro A222 c223 rfl m224
      refine WM_form (n := 1) rfl ?_
      rintro A226 c227 rfl m228
      refine WM_form (n := 2) rfl ?_
      rintro A230 c231 rfl m232
      refine WM_form (n := 3) rfl ?_
      rintro A234 c235 rfl m236
      refine WM_form (n := 4) rfl ?_
      rintro A238 c239 rfl m240
      refine qn (pk [5, 6, 7, 8, 9, 10, 11, 12, 13, 14, 15, 16, 17, 18, 19, 20, 21, 22, 23, 24, 25, 26, 27]) ?_
      refine qo 5 3 15 rfl ?_
      refine wcv (cl_fn cb19 rfl) (fun W hm => laws_eqEngine_c W _ (laws_toEngine_m x0) _ (laws_toEngine_m x0) (tyEngine_mk (x := (laws_toEngine_m x0)) (hm.rdSI (n := 15) rfl) (hm.rdSI (n := 16) rfl) (hm.rdSI (n := 17) rfl) (hm.rdSI (n := 18) rfl) (hm.rdSI (n := 19) rfl)) (tyEngine_mk (x := (laws_toEngine_m x0)) (hm.rdSI (n := 0) rfl) (hm.rdSI (n := 1) rfl) (hm.rdSI (n := 2) rfl) (hm.rdSI (n := 3) rfl) (hm.rdSI (n := 4) rfl))) ?_
      refine qn (pk [5, 6, 7, 8, 9, 10, 11, 12, 13, 14, 15, 16, 17, 18, 19, 20, 21, 22, 23, 24, 25, 26, 27]) ?_
      refine qt 5 4 31 rfl vnot ?_
      refine QB_done (by kernel_rfl) ?_
      refine QM_then ?_
      rcases Bool.eq_false_or_eq_true (laws_eqEngine_m (laws_toEngine_m x0) (laws_toEngine_m x0)) with g243 | g243
      ·
       refine CM_condF rfl (nt g243) ?_
       refine CM_skip (QM_then (CM_seq (CM_seq ?_)))
       refine CM_items (pk [5, 6, 7, 8, 9, 10, 11, 12, 13, 14, 15, 16, 17, 18, 19, 20, 21, 22, 23, 24, 25, 26, 27]) ?_
       refine rb 5 (s := [iBox p211 47 K9, I30, I31, I32, I33, I34, iBox p183 34 K8, I28, I29, iBox p171 47 K6, I23, I24, I25, I26, I27, iBox p120 47 K5, I11, I12, I13, I14, I15, iBox p51 87 K2, iBox p50 30 K1]) (fun W hm => hm) ?_
       refine qt 5 0 1 rfl (fun W hm => rv_loadN (cs := K8) underlying34 type34 rfl rfl (hm.boxCells (n := 6) rfl)) ?_
       refine qt 5 1 3 rfl (fun W hm => rv_loadN (cs := K2) underlying87 type87 rfl rfl (hm.boxCells (n := 21) rfl)) ?_
       refine qo 5 2 7 rfl ?_
       refine wcs tyQuery (laws_toQuery_m x1) (cl_fn cb53 rfl) (fun W hm => laws_toQuery_c W _ x1 (tyLQuery_mk (x := x1) (hm.rdS0 r44) (hm.rdS0 r49)) (smQuery_wt (by omega))) (fun z244 => ?_)
       refine tyQuery_sp ?_
       rintro ⟨v245, v246⟩ rfl
       refine WM_form (n := 0) rfl ?_
       rintro A247 c248 rfl m249
       refine WM_form (n := 1) rfl ?_
       rintro A251 c252 rfl m253
       refine qn (pk [2, 3, 4, 5, 6, 7, 8, 9, 10, 11, 12, 13, 14, 15, 16, 17, 18, 19, 20, 21, 22, 23, 24]) ?_
       refine qo 5 3 15 rfl ?_
       refine wcv (cl_fn cb54 rfl) (fun W hm => laws_eqQuery_c W _ (laws_toQuery_m x1) _ (laws_toQuery_m x1) (tyQuery_mk (x := (laws_toQuery_m x1)) (hm.rdSI (n := 9) rfl) (hm.rdSI (n := 10) rfl)) (tyQuery_mk (x := (laws_toQuery_m x1)) (hm.rdSI (n := 0) rfl) (hm.rdSI (n := 1) rfl))) ?_
       refine qn (pk [2, 3, 4, 5, 6, 7, 8, 9, 10, 11, 12, 13, 14, 15, 16, 17, 18, 19, 20, 21, 22, 23, 24]) ?_
       refine qt 5 4 31 rfl vnot ?_
       refine QB_done (by kernel_rfl) ?_
       refine QM_then ?_
       rcases Bool.eq_false_or_eq_true (laws_eqQuery_m (laws_toQuery_m x1) (laws_toQuery_m x1)) with g256 | g256
       ·
        refine CM_condF rfl (nt g256) ?_
        refine CM_skip (QM_then (sr (wa (nt' (sr ?_)))))
        refine wv (fun W hm => rv_loadN (cs := K6) underlying47 type47 rfl rfl (hm.boxCells (n := 11) rfl)) ?_
        refine wm ?_
        let I35 : It := iOwn (tSl tyCond 201) [.slice A247 ((laws_toQuery_m x1).Conds).length c248] ((laws_toQuery_m x1).Conds)
        let I36 : It := iOwn (tSl tInt 3) [.slice A251 ((laws_toQuery_m x1).Out).length c252] ((laws_toQuery_m x1).Out)
        refine WM_items (js := (iOwn tyEngine K6 (laws_toEngine_m x0) :: [I35, I36, iBox p211 47 K9, I30, I31, I32, I33, I34, iBox p183 34 K8, I28, I29, iBox p171 47 K6, iBox p120 47 K5, I11, I12, I13, I14, I15, iBox p51 87 K2, iBox p50 30 K1])) (fun W hm => Mem.join (is := [I23, I24, I25, I26, I27]) (js := [I35, I36, iBox p211 47 K9, I30, I31, I32, I33, I34, iBox p183 34 K8, I28, I29, iBox p171 47 K6, iBox p120 47 K5, I11, I12, I13, I14, I15, iBox p51 87 K2, iBox p50 30 K1]) (fun _ _ hs => tyEngine_join (x := (laws_toEngine_m x0)) hs) (hm.pick [12, 13, 14, 15, 16, 0, 1, 2, 3, 4, 5, 6, 7, 8, 9, 10, 11, 17, 18, 19, 20, 21, 22, 23, 24] (by decide))) ?_
        refine cw (cl_fn cb20 rfl) (fun W hm => laws_markEngine_c w.heap.size w [I35, I36, iBox p211 47 K9, I30, I31, I32, I33, I34, iBox p183 34 K8, I28, I29, iBox p171 47 K6, iBox p120 47 K5, I11, I12, I13, I14, I15, iBox p51 87 K2, iBox p50 30 K1] W K6 (laws_toEngine_m x0) 1 hm) ?_
        obtain ⟨G257, hG257⟩ : ∃ G, G = (laws_markEngine_m (laws_toEngine_m x0) 1) := ⟨_, rfl⟩
        rw [← hG257]
        refine tyEngine_sp ?_
        rintro ⟨v259, v260, v261, v262, v263⟩ h258
        simp +zetaDelta only [List.cons.injEq] at h258
        obtain ⟨rfl, -, -, rfl, rfl, rfl, rfl, -, -⟩ := h258
        refine wa (nt' (CM_seq ?_))
        refine CM_items (pk [7, 8, 9, 10, 11, 12, 13, 14, 15, 17, 18, 19, 20, 21, 22, 23, 24]) ?_
        refine CM_region ?_
        refine wv (fun W hm => rv_loadN (cs := K8) underlying34 type34 rfl rfl (hm.boxCells (n := 6) rfl)) ?_
        refine wm ?_
        refine WM_items (js := (iOwn tyQuery K8 (laws_toQuery_m x1) :: [iBox p211 47 K9, I30, I31, I32, I33, I34, iBox p183 34 K8, iBox p120 47 K5, I11, I12, I13, I14, I15, iBox p51 87 K2, iBox p50 30 K1])) (fun W hm => Mem.join (is := [I28, I29]) (js := [iBox p211 47 K9, I30, I31, I32, I33, I34, iBox p183 34 K8, iBox p120 47 K5, I11, I12, I13, I14, I15, iBox p51 87 K2, iBox p50 30 K1]) (fun _ _ hs => tyQuery_join (x := (laws_toQuery_m x1)) hs) (hm.pick [7, 8, 0, 1, 2, 3, 4, 5, 6, 9, 10, 11, 12, 13, 14, 15, 16] (by decide))) ?_
        refine cw (cl_fn cb55 rfl) (fun W hm => laws_markQuery_c w.heap.size w [iBox p211 47 K9, I30, I31, I32, I33, I34, iBox p183 34 K8, iBox p120 47 K5, I11, I12, I13, I14, I15, iBox p51 87 K2, iBox p50 30 K1] W K8 (laws_toQuery_m x1) G257.1 hm) ?_
        obtain ⟨G264, hG264⟩ : ∃ G, G = (laws_markQuery_m (laws_toQuery_m x1) G257.1) := ⟨_, rfl⟩
        rw [← hG264]
        refine tyQuery_sp ?_
        rintro ⟨v266, v267⟩ h265
        simp +zetaDelta only [List.cons.injEq] at h265
        obtain ⟨-, -, rfl, rfl, -⟩ := h265
        refine wa (nt' (CM_seq (CM_seq ?_)))
        refine CM_items (pk [2, 3, 4, 5, 6, 7, 9, 10, 11, 12, 13, 14, 15, 16]) ?_
        refine CM_region (wm ?_)
        refine wv vlss ?_
        refine wm ?_
        by_cases h268 : G264.1 < 0
        ·have g269 := decide_eq_true h268
         refine ws g269 ?_
         refine ws g269 ?_
         refine ws g269 ?_
         refine ws g269 ?_
         refine wv (vpT g269) ?_
         refine wm ?_
         refine wk ?_
         refine wk ?_
         refine wk ?_
         refine wv (vpT rfl) ?_
         refine nt' ?_
         refine CM_condT rfl rfl ?_
         refine CM_seq ?_
         refine CM_items (pk []) ?_
         refine CM_region (wa (nt' (CM_ret (QM_then_ret ?_))))
         exact rtb (h := by subst hG56 hG185 hG257 hG264; exact cond_f g53 (cond_f g55 (cond_t g213 (cond_f g215 (cond_t g243 (cond_t g256 (cond_t g269 (rfl))))))))
        ·have g269 := decide_eq_false h268
         refine wg (fun W hm => rv_loadN (cs := K9) underlying47 type47 rfl rfl (hm.boxCells (n := 0) rfl)) g269 ?_
         refine wg (fun W hm => rv_loadN (cs := K5) underlying47 type47 rfl rfl (hm.boxCells (n := 6) rfl)) g269 ?_
         refine WM_callV (cl_fn cb19 rfl) (fun W hm => laws_eqEngine_c W _ G185.1 _ G56.1 (tyEngine_mk (x := G185.1) (hm.rdSI (n := 1) rfl) (hm.rdSI (n := 2) rfl) (hm.rdSI (n := 3) rfl) (hm.rdSI (n := 4) rfl) (hm.rdSI (n := 5) rfl)) (tyEngine_mk (x := G56.1) (hm.rdSI (n := 7) rfl) (hm.rdSI (n := 8) rfl) (hm.rdSI (n := 9) rfl) (hm.rdSI (n := 10) rfl) (hm.rdSI (n := 11) rfl))) (Wd_some rfl rfl rfl (bw g269 rfl)) (by decide) ?_
         refine wg vnot g269 ?_
         refine wv (vpF g269) ?_
         refine wm ?_
         refine wg vmv (nt g213) ?_
         refine wg vmv (nt g213) ?_
         refine wg (fun W hm => rv_neqB underlying4 rfl rfl) (nt g213) ?_
         refine wv (vpF (nt g213)) ?_
         refine nt' ?_
         refine CM_condF rfl g215 ?_
         refine CM_skip (QM_then (sr (wa (nt' (sr ?_)))))
         refine wv (fun W hm => rv_loadN (cs := K9) underlying47 type47 rfl rfl (hm.boxCells (n := 0) rfl)) ?_
         refine wm ?_
         refine WM_items (js := (iOwn tyEngine K9 G185.1 :: [iBox p211 47 K9, iBox p120 47 K5, I11, I12, I13, I14, I15, iBox p51 87 K2, iBox p50 30 K1])) (fun W hm => Mem.join (is := [I30, I31, I32, I33, I34]) (js := [iBox p211 47 K9, iBox p120 47 K5, I11, I12, I13, I14, I15, iBox p51 87 K2, iBox p50 30 K1]) (fun _ _ hs => tyEngine_join (x := G185.1) hs) (hm.pick [1, 2, 3, 4, 5, 0, 6, 7, 8, 9, 10, 11, 12, 13] (by decide))) ?_
         refine cw (cl_fn cb20 rfl) (fun W hm => laws_markEngine_c w.heap.size w [iBox p211 47 K9, iBox p120 47 K5, I11, I12, I13, I14, I15, iBox p51 87 K2, iBox p50 30 K1] W K9 G185.1 1 hm) ?_
         refine tyEngine_sp ?_
         rintro ⟨v271, v272, v273, v274, v275⟩ h270
         simp +zetaDelta only [List.cons.injEq] at h270
         obtain ⟨rfl, -, -, rfl, rfl, rfl, rfl, -, -⟩ := h270
         refine wa (nt' (sr (wa (nt' (sr ?_)))))
         refine wv (fun W hm => rv_loadN (cs := K9) underlying47 type47 rfl rfl (hm.boxCells (n := 5) rfl)) ?_
         refine wm ?_
         refine wcv (cl_fn cb51 rfl) (fun W hm => laws_heldEngine_c W _ (⟨(⟨(laws_markEngine_m G185.1 1).2.Store.Segments, G185.1.Store.Now⟩ : DStore), G185.1.Cursor, (laws_markEngine_m G185.1 1).2.Order, (laws_markEngine_m G185.1 1).2.Active, (laws_markEngine_m G185.1 1).2.Done, (laws_markEngine_m G185.1 1).2.Ledger, G185.1.Steps⟩ : DEngine) 1 (tyEngine_mk (x := (⟨(⟨(laws_markEngine_m G185.1 1).2.Store.Segments, G185.1.Store.Now⟩ : DStore), G185.1.Cursor, (laws_markEngine_m G185.1 1).2.Order, (laws_markEngine_m G185.1 1).2.Active, (laws_markEngine_m G185.1 1).2.Done, (laws_markEngine_m G185.1 1).2.Ledger, G185.1.Steps⟩ : DEngine)) (hm.rdSI (n := 0) rfl) (hm.rdSI (n := 1) rfl) (hm.rdSI (n := 2) rfl) (hm.rdSI (n := 3) rfl) (hm.rdSI (n := 4) rfl))) ?_
         refine wa (nt' (CM_seq (sr (wm ?_))))
         refine wv vlss ?_
         refine nt' ?_
         by_cases h276 : (laws_heldEngine_m (⟨(⟨(laws_markEngine_m G185.1 1).2.Store.Segments, G185.1.Store.Now⟩ : DStore), G185.1.Cursor, (laws_markEngine_m G185.1 1).2.Order, (laws_markEngine_m G185.1 1).2.Active, (laws_markEngine_m G185.1 1).2.Done, (laws_markEngine_m G185.1 1).2.Ledger, G185.1.Steps⟩ : DEngine) 1) < 0
         ·have g277 := decide_eq_true h276
          refine CM_condT rfl g277 ?_
          refine CM_seq ?_
          refine CM_items (pk []) ?_
          refine CM_region (wa (nt' (CM_ret (QM_then_ret ?_))))
          exact rtb (h := by subst hG56 hG185 hG257 hG264; exact cond_f g53 (cond_f g55 (cond_t g213 (cond_f g215 (cond_t g243 (cond_t g256 (cond_f g269 (cond_t g277 (rfl)))))))))
         ·have g277 := decide_eq_false h276
          refine CM_condF rfl g277 ?_
          refine CM_skip (QM_then (CM_seq (sr (wm (wm ?_)))))
          refine wv vneq ?_
          refine nt' ?_
          by_cases h278 : (laws_heldEngine_m (⟨(⟨(laws_markEngine_m G185.1 1).2.Store.Segments, G185.1.Store.Now⟩ : DStore), G185.1.Cursor, (laws_markEngine_m G185.1 1).2.Order, (laws_markEngine_m G185.1 1).2.Active, (laws_markEngine_m G185.1 1).2.Done, (laws_markEngine_m G185.1 1).2.Ledger, G185.1.Steps⟩ : DEngine) 1) = ((laws_markEngine_m G185.1 1).1)
          ·have g279 : ((laws_heldEngine_m (⟨(⟨(laws_markEngine_m G185.1 1).2.Store.Segments, G185.1.Store.Now⟩ : DStore), G185.1.Cursor, (laws_markEngine_m G185.1 1).2.Order, (laws_markEngine_m G185.1 1).2.Active, (laws_markEngine_m G185.1 1).2.Done, (laws_markEngine_m G185.1 1).2.Ledger, G185.1.Steps⟩ : DEngine) 1) != ((laws_markEngine_m G185.1 1).1)) = false := by rw [h278]; exact bne_self_eq_false _
           refine CM_condF rfl g279 ?_
           refine CM_skip (QM_then (CM_seq ?_))
           obtain ⟨G280, hG280⟩ : ∃ G, G = (impl_AdmitQuery_m (laws_toEngine_m x0) (laws_toQuery_m x1) x2) := ⟨_, rfl⟩
           let I37 : It := iOwn (tSl (tSl tyVersion 191) 131) [.slice A191 G185.1.Store.Segments.length c192] ((laws_markEngine_m G185.1 1).2.Store.Segments)
           let I38 : It := iOwn (tSl tInt 3) [.slice A195 G185.1.Order.length c196] ((laws_markEngine_m G185.1 1).2.Order)
           let I39 : It := iOwn (tSl tyActive 64) [.slice A199 G185.1.Active.length c200] ((laws_markEngine_m G185.1 1).2.Active)
           let I40 : It := iOwn (tSl tyFinished 37) [.slice A203 G185.1.Done.length c204] ((laws_markEngine_m G185.1 1).2.Done)
           let I41 : It := iOwn (tSl tyCharge 133) [.slice A207 G185.1.Ledger.length c208] ((laws_markEngine_m G185.1 1).2.Ledger)
           refine rd2 12 [10] (s := [I37, I38, I39, I40, I41, iBox p211 47 K9, iBox p120 47 K5, I11, I12, I13, I14, I15, iBox p51 87 K2, iBox p50 30 K1]) (s2 := [I37, I38, I39, I40, I41, iBox p211 47 K9, iBox p120 47 K5, I11, I12, I13, I14, I15, iBox p51 87 K2, iBox p50 30 K1]) (fun W hm => hm) (fun W hm => hm) ?_
           refine QD_mid (σ := Option Addr × Nat × Option Addr × Nat × Option Addr × Nat × Option Addr × Nat × Option Addr × Nat × Nat × Option Addr × Nat × Option Addr × Nat × Option Addr × Nat × Option Addr × Nat × Option Addr × Nat × Option Addr × Nat × Option Addr × Nat) (fun s => [I37, I38, I39, I40, I41, iBox p211 47 K9, iBox p120 47 K5, I11, I12, I13, I14, I15, iBox p51 87 K2, iBox p50 30 K1]) 12 1023 2 (fun s => [(8, .pointer (some (⟨p120, 0, none⟩ : Addr))), (9, .bool G56.2), (12, .pointer (some (⟨p211, 0, none⟩ : Addr))), (15, .int .i64 ((laws_markEngine_m G185.1 1).1)), (105, .agg #[.slice s.1 G280.1.Store.Segments.length s.2.1, .int .i64 G280.1.Store.Now, .int .i64 G280.1.Cursor, .slice s.2.2.1 G280.1.Order.length s.2.2.2.1, .slice s.2.2.2.2.1 G280.1.Active.length s.2.2.2.2.2.1, .slice s.2.2.2.2.2.2.1 G280.1.Done.length s.2.2.2.2.2.2.2.1, .slice s.2.2.2.2.2.2.2.2.1 G280.1.Ledger.length s.2.2.2.2.2.2.2.2.2.1, .int .i64 G280.1.Steps]), (106, .bool G280.2), (17, .pointer (some (⟨s.2.2.2.2.2.2.2.2.2.2.1, 0, none⟩ : Addr)))]) (fun s => [iBox s.2.2.2.2.2.2.2.2.2.2.1 47 K3, iOwn (tSl (tSl tyVersion 191) 131) [.slice s.1 G280.1.Store.Segments.length s.2.1] G280.1.Store.Segments, iOwn (tSl tInt 3) [.slice s.2.2.1 G280.1.Order.length s.2.2.2.1] G280.1.Order, iOwn (tSl tyActive 64) [.slice s.2.2.2.2.1 G280.1.Active.length s.2.2.2.2.2.1] G280.1.Active, iOwn (tSl tyFinished 37) [.slice s.2.2.2.2.2.2.1 G280.1.Done.length s.2.2.2.2.2.2.2.1] G280.1.Done, iOwn (tSl tyCharge 133) [.slice s.2.2.2.2.2.2.2.2.1 G280.1.Ledger.length s.2.2.2.2.2.2.2.2.2.1] G280.1.Ledger, iOwn (tSl tyCond 201) [.slice s.2.2.2.2.2.2.2.2.2.2.2.1 ((laws_toQuery_m x1).Conds).length s.2.2.2.2.2.2.2.2.2.2.2.2.1] ((laws_toQuery_m x1).Conds), iOwn (tSl tInt 3) [.slice s.2.2.2.2.2.2.2.2.2.2.2.2.2.1 ((laws_toQuery_m x1).Out).length s.2.2.2.2.2.2.2.2.2.2.2.2.2.2.1] ((laws_toQuery_m x1).Out), iOwn (tSl (tSl tyVersion 191) 131) [.slice s.2.2.2.2.2.2.2.2.2.2.2.2.2.2.2.1 ((laws_toEngine_m x0).Store.Segments).length s.2.2.2.2.2.2.2.2.2.2.2.2.2.2.2.2.1] ((laws_toEngine_m x0).Store.Segments), iOwn (tSl tInt 3) [.slice s.2.2.2.2.2.2.2.2.2.2.2.2.2.2.2.2.2.1 ((laws_toEngine_m x0).Order).length s.2.2.2.2.2.2.2.2.2.2.2.2.2.2.2.2.2.2.1] ((laws_toEngine_m x0).Order), iOwn (tSl tyActive 64) [.slice s.2.2.2.2.2.2.2.2.2.2.2.2.2.2.2.2.2.2.2.1 ((laws_toEngine_m x0).Active).length s.2.2.2.2.2.2.2.2.2.2.2.2.2.2.2.2.2.2.2.2.1] ((laws_toEngine_m x0).Active), iOwn (tSl tyFinished 37) [.slice s.2.2.2.2.2.2.2.2.2.2.2.2.2.2.2.2.2.2.2.2.2.1 ((laws_toEngine_m x0).Done).length s.2.2.2.2.2.2.2.2.2.2.2.2.2.2.2.2.2.2.2.2.2.2.1] ((laws_toEngine_m x0).Done), iOwn (tSl tyCharge 133) [.slice s.2.2.2.2.2.2.2.2.2.2.2.2.2.2.2.2.2.2.2.2.2.2.2.1 ((laws_toEngine_m x0).Ledger).length s.2.2.2.2.2.2.2.2.2.2.2.2.2.2.2.2.2.2.2.2.2.2.2.2] ((laws_toEngine_m x0).Ledger), I37, I38, I39, I40, I41, iBox p211 47 K9, iBox p120 47 K5, I11, I12, I13, I14, I15, iBox p51 87 K2, iBox p50 30 K1]) ?_ (fun H => ?_)
           ·
            rintro ⟨A324, c325, A328, c329, A332, c333, A336, c337, A340, c341, p344, A310, c311, A314, c315, A287, c288, A291, c292, A295, c296, A299, c300, A303, c304⟩
            let I42 : It := iOwn (tSl (tSl tyVersion 191) 131) [.slice A324 G280.1.Store.Segments.length c325] G280.1.Store.Segments
            let I43 : It := iOwn (tSl tInt 3) [.slice A328 G280.1.Order.length c329] G280.1.Order
            let I44 : It := iOwn (tSl tyActive 64) [.slice A332 G280.1.Active.length c333] G280.1.Active
            let I45 : It := iOwn (tSl tyFinished 37) [.slice A336 G280.1.Done.length c337] G280.1.Done
            let I46 : It := iOwn (tSl tyCharge 133) [.slice A340 G280.1.Ledger.length c341] G280.1.Ledger
            let I47 : It := iOwn (tSl tyCond 201) [.slice A310 ((laws_toQuery_m x1).Conds).length c311] ((laws_toQuery_m x1).Conds)
            let I48 : It := iOwn (tSl tInt 3) [.slice A314 ((laws_toQuery_m x1).Out).length c315] ((laws_toQuery_m x1).Out)
            let I49 : It := iOwn (tSl (tSl tyVersion 191) 131) [.slice A287 ((laws_toEngine_m x0).Store.Segments).length c288] ((laws_toEngine_m x0).Store.Segments)
            let I50 : It := iOwn (tSl tInt 3) [.slice A291 ((laws_toEngine_m x0).Order).length c292] ((laws_toEngine_m x0).Order)
            let I51 : It := iOwn (tSl tyActive 64) [.slice A295 ((laws_toEngine_m x0).Active).length c296] ((laws_toEngine_m x0).Active)
            let I52 : It := iOwn (tSl tyFinished 37) [.slice A299 ((laws_toEngine_m x0).Done).length c300] ((laws_toEngine_m x0).Done)
            let I53 : It := iOwn (tSl tyCharge 133) [.slice A303 ((laws_toEngine_m x0).Ledger).length c304] ((laws_toEngine_m x0).Ledger)
            show QD _ _ _ _ _ _ _ _ [(8, .pointer (some (⟨p120, 0, none⟩ : Addr))), (9, .bool G56.2), (12, .pointer (some (⟨p211, 0, none⟩ : Addr))), (15, .int .i64 ((laws_markEngine_m G185.1 1).1)), (105, .agg #[.slice A324 G280.1.Store.Segments.length c325, .int .i64 G280.1.Store.Now, .int .i64 G280.1.Cursor, .slice A328 G280.1.Order.length c329, .slice A332 G280.1.Active.length c333, .slice A336 G280.1.Done.length c337, .slice A340 G280.1.Ledger.length c341, .int .i64 G280.1.Steps]), (106, .bool G280.2), (17, .pointer (some (⟨p344, 0, none⟩ : Addr)))] _ [I37, I38, I39, I40, I41, iBox p211 47 K9, iBox p120 47 K5, I11, I12, I13, I14, I15, iBox p51 87 K2, iBox p50 30 K1] _ [iBox p344 47 K3, I42, I43, I44, I45, I46, I47, I48, I49, I50, I51, I52, I53, I37, I38, I39, I40, I41, iBox p211 47 K9, iBox p120 47 K5, I11, I12, I13, I14, I15, iBox p51 87 K2, iBox p50 30 K1]
            refine QD_len (n := 1) rfl ?_
            intro m345 m346
            refine QD_len (n := 2) rfl ?_
            intro m347 m348
            refine QD_len (n := 3) rfl ?_
            intro m349 m350
            refine QD_len (n := 4) rfl ?_
            intro m351 m352
            refine QD_len (n := 5) rfl ?_
            intro m353 m354
            refine QD_len (n := 6) rfl ?_
            intro m355 m356
            refine QD_len (n := 7) rfl ?_
            intro m357 m358
            refine QD_len (n := 8) rfl ?_
            intro m359 m360
            refine QD_len (n := 9) rfl ?_
            intro m361 m362
            refine QD_len (n := 10) rfl ?_
            intro m363 m364
            refine QD_len (n := 11) rfl ?_
            intro m365 m366
            refine QD_len (n := 12) rfl ?_
            intro m367 m368
            refine qoD 12 10 2047 rfl ?_
            let K10 : List Value := [.slice A324 G280.1.Store.Segments.length c325, .int .i64 G280.1.Store.Now, .int .i64 G280.1.Cursor, .slice A328 G280.1.Order.length c329, .slice A332 G280.1.Active.length c333, .slice A336 G280.1.Done.length c337, .slice A340 G280.1.Ledger.length c341, .int .i64 G280.1.Steps]
            refine sb 0 K10 [I42, I43, I44, I45, I46, I47, I48, I49, I50, I51, I52, I53, I37, I38, I39, I40, I41, iBox p211 47 K9, iBox p120 47 K5, I11, I12, I13, I14, I15, iBox p51 87 K2, iBox p50 30 K1] (fun W hm => hm) type47 ?_
            refine qxD (pk [13, 14, 15, 16, 17, 18, 19, 20, 21, 22, 23, 24, 25, 26]) ?_
            refine qt 12 11 4095 rfl (fun W hm => rv_assign rfl) ?_
            refine QB_done (by kernel_rfl) ?_
            refine QM_then (CM_seq (CM_seq ?_))
            refine CM_items (pk [0, 1, 2, 3, 4, 5, 13, 14, 15, 16, 17, 18, 19, 20, 21, 22, 23, 24]) ?_
            refine CM_region ?_
            refine wv (fun W hm => rv_loadN (cs := K10) underlying47 type47 rfl rfl (hm.boxCells (n := 0) rfl)) ?_
            refine wv (fun W hm => rv_loadN (cs := K5) underlying47 type47 rfl rfl (hm.boxCells (n := 12) rfl)) ?_
            refine wcv (cl_fn cb19 rfl) (fun W hm => laws_eqEngine_c W _ G280.1 _ G56.1 (tyEngine_mk (x := G280.1) (hm.rdSI (n := 1) rfl) (hm.rdSI (n := 2) rfl) (hm.rdSI (n := 3) rfl) (hm.rdSI (n := 4) rfl) (hm.rdSI (n := 5) rfl)) (tyEngine_mk (x := G56.1) (hm.rdSI (n := 13) rfl) (hm.rdSI (n := 14) rfl) (hm.rdSI (n := 15) rfl) (hm.rdSI (n := 16) rfl) (hm.rdSI (n := 17) rfl))) ?_
            refine wv vnot ?_
            refine wm ?_
            rcases Bool.eq_false_or_eq_true (laws_eqEngine_m G280.1 G56.1) with g370 | g370
            ·
             refine wg vmv (nt g370) ?_
             refine wg vmv (nt g370) ?_
             refine wg (fun W hm => rv_neqB underlying4 rfl rfl) (nt g370) ?_
             refine wv (vpF (nt g370)) ?_
             refine nt' ?_
             rcases Bool.eq_false_or_eq_true (G280.2 != G56.2) with g372 | g372
             ·
              refine CM_condT rfl g372 ?_
              refine CM_seq ?_
              refine CM_items (pk []) ?_
              refine CM_region (wa (nt' (CM_ret (QM_then_ret ?_))))
              exact rtb (h := by subst hG56 hG185 hG257 hG264 hG280; exact cond_f g53 (cond_f g55 (cond_t g213 (cond_f g215 (cond_t g243 (cond_t g256 (cond_f g269 (cond_f g277 (cond_f g279 (cond_t g370 (cond_t g372 (rfl))))))))))))
             ·
              refine CM_condF rfl g372 ?_
              refine CM_skip (QM_then (CM_seq ?_))
              refine CM_items (pk [6, 7, 8, 9, 10, 11]) ?_
              refine CM_region (wa (nt' (sr ?_)))
              refine wv (fun W hm => rv_loadN (cs := K9) underlying47 type47 rfl rfl (hm.boxCells (n := 5) rfl)) ?_
              refine wm ?_
              refine wcv (cl_fn cb51 rfl) (fun W hm => laws_heldEngine_c W _ (⟨(⟨(laws_markEngine_m G185.1 1).2.Store.Segments, G185.1.Store.Now⟩ : DStore), G185.1.Cursor, (laws_markEngine_m G185.1 1).2.Order, (laws_markEngine_m G185.1 1).2.Active, (laws_markEngine_m G185.1 1).2.Done, (laws_markEngine_m G185.1 1).2.Ledger, G185.1.Steps⟩ : DEngine) 1 (tyEngine_mk (x := (⟨(⟨(laws_markEngine_m G185.1 1).2.Store.Segments, G185.1.Store.Now⟩ : DStore), G185.1.Cursor, (laws_markEngine_m G185.1 1).2.Order, (laws_markEngine_m G185.1 1).2.Active, (laws_markEngine_m G185.1 1).2.Done, (laws_markEngine_m G185.1 1).2.Ledger, G185.1.Steps⟩ : DEngine)) (hm.rdSI (n := 0) rfl) (hm.rdSI (n := 1) rfl) (hm.rdSI (n := 2) rfl) (hm.rdSI (n := 3) rfl) (hm.rdSI (n := 4) rfl))) ?_
              refine wa (nt' (CM_seq (CM_seq ?_)))
              refine CM_items (pk []) ?_
              refine CM_region (wm ?_)
              refine wv vlss ?_
              refine nt' ?_
              refine CM_condF rfl g277 ?_
              refine CM_skip (QM_then (CM_seq (sr (wm (wm ?_)))))
              refine wv vneq ?_
              refine nt' ?_
              refine CM_condF rfl g279 ?_
              refine CM_skip (QM_then (sr (wa (nt' (CM_ret ?_)))))
              exact rtb (h := by subst hG56 hG185 hG257 hG264 hG280; exact cond_f g53 (cond_f g55 (cond_t g213 (cond_f g215 (cond_t g243 (cond_t g256 (cond_f g269 (cond_f g277 (cond_f g279 (cond_t g370 (cond_f g372 (rfl))))))))))))
            ·
             refine ws (nf g370) ?_
             refine ws (nf g370) ?_
             refine ws (nf g370) ?_
             refine wv (vpT (nf g370)) ?_
             refine nt' ?_
             refine CM_condT rfl rfl ?_
             refine CM_seq ?_
             refine CM_items (pk []) ?_
             refine CM_region (wa (nt' (CM_ret (QM_then_ret ?_))))
             exact rtb (h := by subst hG56 hG185 hG257 hG264 hG280; exact cond_f g53 (cond_f g55 (cond_t g213 (cond_f g215 (cond_t g243 (cond_t g256 (cond_f g269 (cond_f g277 (cond_f g279 (cond_f g370 (rfl)))))))))))
           ·
            refine qtD 12 0 1 rfl (fun W hm => rv_loadN (cs := K1) underlying30 type30 rfl rfl (hm.boxCells (n := 13) rfl)) ?_
            refine qtD 12 2 5 rfl (fun W hm => rv_loadN (cs := K2) underlying87 type87 rfl rfl (hm.boxCells (n := 12) rfl)) ?_
            refine qtD 12 4 21 rfl vmv ?_
            refine qaD [1, 9] ?_
            refine qcD 12 23 rfl ?_ ?_
            ·
             refine wcs tyEngine (laws_toEngine_m x0) (cl_fn cb16 rfl) (fun W hm => laws_toEngine_c W _ x0 (tyLEngine_mk (x := x0) (hm.rdS0 r15) (hm.rdS0 r20) (hm.rdS0 r25) (hm.rdS0 r30) (hm.rdS0 r35)) (smEngine_wt (by omega))) (fun z373 => ?_)
             refine tyEngine_sp ?_
             rintro ⟨v374, v375, v376, v377, v378⟩ rfl
             refine WM_form (n := 0) rfl ?_
             rintro A379 c380 rfl m381
             refine WM_form (n := 1) rfl ?_
             rintro A383 c384 rfl m385
             refine WM_form (n := 2) rfl ?_
             rintro A387 c388 rfl m389
             refine WM_form (n := 3) rfl ?_
             rintro A391 c392 rfl m393
             refine WM_form (n := 4) rfl ?_
             rintro A395 c396 rfl m397
             refine qnD (pk [5, 6, 7, 8, 9, 10, 11, 12, 13, 14, 15, 16, 17, 18]) (pk [5, 6, 7, 8, 9, 10, 11, 12, 13, 14, 15, 16, 17, 18]) ?_
             refine qaD [3, 9] ?_
             refine qcD 12 31 rfl ?_ ?_
             ·
              refine wcs tyQuery (laws_toQuery_m x1) (cl_fn cb53 rfl) (fun W hm => laws_toQuery_c W _ x1 (tyLQuery_mk (x := x1) (hm.rdS0 r44) (hm.rdS0 r49)) (smQuery_wt (by omega))) (fun z399 => ?_)
              refine tyQuery_sp ?_
              rintro ⟨v400, v401⟩ rfl
              refine WM_form (n := 0) rfl ?_
              rintro A402 c403 rfl m404
              refine WM_form (n := 1) rfl ?_
              rintro A406 c407 rfl m408
              refine qnD (pk [7, 8, 9, 10, 11, 12, 13, 14, 15, 16, 17, 18, 19, 20]) (pk [7, 8, 9, 10, 11, 12, 13, 14, 15, 16, 17, 18, 19, 20]) ?_
              refine qaD [5, 9] ?_
              refine qcD 12 63 rfl ?_ ?_
              ·
               refine WM_call (χ := List Value) (val := fun x => .tuple #[.agg x.toArray, .bool ((impl_AdmitQuery_m (laws_toEngine_m x0) (laws_toQuery_m x1) x2).2)]) (js := fun x => [iOwn tyEngine x ((impl_AdmitQuery_m (laws_toEngine_m x0) (laws_toQuery_m x1) x2).1)]) (cl_fn cb36 rfl) (fun W hm => impl_AdmitQuery_c W _ (laws_toEngine_m x0) _ (laws_toQuery_m x1) x2 (tyEngine_mk (x := (laws_toEngine_m x0)) (hm.rdSI (n := 2) rfl) (hm.rdSI (n := 3) rfl) (hm.rdSI (n := 4) rfl) (hm.rdSI (n := 5) rfl) (hm.rdSI (n := 6) rfl)) (tyQuery_mk (x := (laws_toQuery_m x1)) (hm.rdSI (n := 0) rfl) (hm.rdSI (n := 1) rfl)) (by rw [laws_toEngine_eq]; exact (smEngine_wt (by omega))) (by rw [laws_toQuery_eq]; exact (smQuery_wt (by omega)))) (Wd_none rfl) (by decide) (fun z410 => ?_)
               rw [← hG280]
               refine tyEngine_sp ?_
               rintro ⟨v411, v412, v413, v414, v415⟩ rfl
               refine WM_form (n := 0) rfl ?_
               rintro A416 c417 rfl m418
               refine WM_form (n := 1) rfl ?_
               rintro A420 c421 rfl m422
               refine WM_form (n := 2) rfl ?_
               rintro A424 c425 rfl m426
               refine WM_form (n := 3) rfl ?_
               rintro A428 c429 rfl m430
               refine WM_form (n := 4) rfl ?_
               rintro A432 c433 rfl m434
               refine qnD (pk [12, 13, 14, 15, 16, 17, 18, 19, 20, 21, 22, 23, 24, 25]) (pk [12, 13, 14, 15, 16, 17, 18, 19, 20, 21, 22, 23, 24, 25]) ?_
               refine qtD 12 6 127 rfl vmv ?_
               refine qtD 12 7 255 rfl (fun W hm => rv_extract rfl rfl) ?_
               refine qtP 12 8 511 rfl (fun W => rv_extract rfl rfl) ?_
               refine qoD 12 9 1023 rfl ?_
               refine WM_alloc type47 rfl (Wd_none rfl) (by decide) (fun p436 => ?_)
               refine qnD (pk [13, 14, 15, 16, 17, 18, 19, 20, 21, 22, 23, 24, 25, 26]) (pk [13, 14, 15, 16, 17, 18, 19, 20, 21, 22, 23, 24, 25, 26]) ?_
               exact QD_sub sl7 (fun W hm => hm) (H (A416, c417, A420, c421, A424, c425, A428, c429, A432, c433, p436, A402, c403, A406, c407, A379, c380, A383, c384, A387, c388, A391, c392, A395, c396))
              refine qcD 12 543 rfl ?_ ?_
              ·
               refine WM_alloc type47 rfl (Wd_none rfl) (by decide) (fun p437 => ?_)
               refine qnD (pk [8, 9, 10, 11, 12, 13, 14, 15, 16, 17, 18, 19, 20, 21]) (pk [8, 9, 10, 11, 12, 13, 14, 15, 16, 17, 18, 19, 20, 21]) ?_
               refine qoD 12 5 575 rfl ?_
               refine WM_call (χ := List Value) (val := fun x => .tuple #[.agg x.toArray, .bool ((impl_AdmitQuery_m (laws_toEngine_m x0) (laws_toQuery_m x1) x2).2)]) (js := fun x => [iOwn tyEngine x ((impl_AdmitQuery_m (laws_toEngine_m x0) (laws_toQuery_m x1) x2).1)]) (cl_fn cb36 rfl) (fun W hm => impl_AdmitQuery_c W _ (laws_toEngine_m x0) _ (laws_toQuery_m x1) x2 (tyEngine_mk (x := (laws_toEngine_m x0)) (hm.rdSI (n := 3) rfl) (hm.rdSI (n := 4) rfl) (hm.rdSI (n := 5) rfl) (hm.rdSI (n := 6) rfl) (hm.rdSI (n := 7) rfl)) (tyQuery_mk (x := (laws_toQuery_m x1)) (hm.rdSI (n := 1) rfl) (hm.rdSI (n := 2) rfl)) (by rw [laws_toEngine_eq]; exact (smEngine_wt (by omega))) (by rw [laws_toQuery_eq]; exact (smQuery_wt (by omega)))) (Wd_none rfl) (by decide) (fun z438 => ?_)
               rw [← hG280]
               refine tyEngine_sp ?_
               rintro ⟨v439, v440, v441, v442, v443⟩ rfl
               refine WM_form (n := 0) rfl ?_
               rintro A444 c445 rfl m446
               refine WM_form (n := 1) rfl ?_
               rintro A448 c449 rfl m450
               refine WM_form (n := 2) rfl ?_
               rintro A452 c453 rfl m454
               refine WM_form (n := 3) rfl ?_
               rintro A456 c457 rfl m458
               refine WM_form (n := 4) rfl ?_
               rintro A460 c461 rfl m462
               refine qnD (pk [13, 14, 15, 16, 17, 18, 19, 20, 21, 22, 23, 24, 25, 26]) (pk [13, 14, 15, 16, 17, 18, 19, 20, 21, 22, 23, 24, 25, 26]) ?_
               refine qtD 12 6 639 rfl vmv ?_
               refine qtD 12 7 767 rfl (fun W hm => rv_extract rfl rfl) ?_
               refine qtP 12 8 1023 rfl (fun W => rv_extract rfl rfl) ?_
               exact QD_sub sl7 (pk [5, 0, 1, 2, 3, 4, 6, 7, 8, 9, 10, 11, 12, 13, 14, 15, 16, 17, 18, 19, 20, 21, 22, 23, 24, 25, 26]) (H (A444, c445, A448, c449, A452, c453, A456, c457, A460, c461, p437, A402, c403, A406, c407, A379, c380, A383, c384, A387, c388, A391, c392, A395, c396))
              exact QDs_nil
             refine qcD 12 535 rfl ?_ ?_
             ·
              refine WM_alloc type47 rfl (Wd_none rfl) (by decide) (fun p464 => ?_)
              refine qnD (pk [6, 7, 8, 9, 10, 11, 12, 13, 14, 15, 16, 17, 18, 19]) (pk [6, 7, 8, 9, 10, 11, 12, 13, 14, 15, 16, 17, 18, 19]) ?_
              refine qoD 12 3 543 rfl ?_
              refine wcs tyQuery (laws_toQuery_m x1) (cl_fn cb53 rfl) (fun W hm => laws_toQuery_c W _ x1 (tyLQuery_mk (x := x1) (hm.rdS0 r44) (hm.rdS0 r49)) (smQuery_wt (by omega))) (fun z465 => ?_)
              refine tyQuery_sp ?_
              rintro ⟨v466, v467⟩ rfl
              refine WM_form (n := 0) rfl ?_
              rintro A468 c469 rfl m470
              refine WM_form (n := 1) rfl ?_
              rintro A472 c473 rfl m474
              refine qnD (pk [8, 9, 10, 11, 12, 13, 14, 15, 16, 17, 18, 19, 20, 21]) (pk [8, 9, 10, 11, 12, 13, 14, 15, 16, 17, 18, 19, 20, 21]) ?_
              refine qoD 12 5 575 rfl ?_
              refine WM_call (χ := List Value) (val := fun x => .tuple #[.agg x.toArray, .bool ((impl_AdmitQuery_m (laws_toEngine_m x0) (laws_toQuery_m x1) x2).2)]) (js := fun x => [iOwn tyEngine x ((impl_AdmitQuery_m (laws_toEngine_m x0) (laws_toQuery_m x1) x2).1)]) (cl_fn cb36 rfl) (fun W hm => impl_AdmitQuery_c W _ (laws_toEngine_m x0) _ (laws_toQuery_m x1) x2 (tyEngine_mk (x := (laws_toEngine_m x0)) (hm.rdSI (n := 3) rfl) (hm.rdSI (n := 4) rfl) (hm.rdSI (n := 5) rfl) (hm.rdSI (n := 6) rfl) (hm.rdSI (n := 7) rfl)) (tyQuery_mk (x := (laws_toQuery_m x1)) (hm.rdSI (n := 0) rfl) (hm.rdSI (n := 1) rfl)) (by rw [laws_toEngine_eq]; exact (smEngine_wt (by omega))) (by rw [laws_toQuery_eq]; exact (smQuery_wt (by omega)))) (Wd_none rfl) (by decide) (fun z476 => ?_)
              rw [← hG280]
              refine tyEngine_sp ?_
              rintro ⟨v477, v478, v479, v480, v481⟩ rfl
              refine WM_form (n := 0) rfl ?_
              rintro A482 c483 rfl m484
              refine WM_form (n := 1) rfl ?_
              rintro A486 c487 rfl m488
              refine WM_form (n := 2) rfl ?_
              rintro A490 c491 rfl m492
              refine WM_form (n := 3) rfl ?_
              rintro A494 c495 rfl m496
              refine WM_form (n := 4) rfl ?_
              rintro A498 c499 rfl m500
              refine qnD (pk [13, 14, 15, 16, 17, 18, 19, 20, 21, 22, 23, 24, 25, 26]) (pk [13, 14, 15, 16, 17, 18, 19, 20, 21, 22, 23, 24, 25, 26]) ?_
              refine qtD 12 6 639 rfl vmv ?_
              refine qtD 12 7 767 rfl (fun W hm => rv_extract rfl rfl) ?_
              refine qtP 12 8 1023 rfl (fun W => rv_extract rfl rfl) ?_
              exact QD_sub sl7 (pk [7, 0, 1, 2, 3, 4, 5, 6, 8, 9, 10, 11, 12, 13, 14, 15, 16, 17, 18, 19, 20, 21, 22, 23, 24, 25, 26]) (H (A482, c483, A486, c487, A490, c491, A494, c495, A498, c499, p464, A468, c469, A472, c473, A379, c380, A383, c384, A387, c388, A391, c392, A395, c396))
             exact QDs_nil
            refine qcD 12 533 rfl ?_ ?_
            ·
             refine WM_alloc type47 rfl (Wd_none rfl) (by decide) (fun p502 => ?_)
             refine qnD (pk [1, 2, 3, 4, 5, 6, 7, 8, 9, 10, 11, 12, 13, 14]) (pk [1, 2, 3, 4, 5, 6, 7, 8, 9, 10, 11, 12, 13, 14]) ?_
             refine qoD 12 1 535 rfl ?_
             refine wcs tyEngine (laws_toEngine_m x0) (cl_fn cb16 rfl) (fun W hm => laws_toEngine_c W _ x0 (tyLEngine_mk (x := x0) (hm.rdS0 r15) (hm.rdS0 r20) (hm.rdS0 r25) (hm.rdS0 r30) (hm.rdS0 r35)) (smEngine_wt (by omega))) (fun z503 => ?_)
             refine tyEngine_sp ?_
             rintro ⟨v504, v505, v506, v507, v508⟩ rfl
             refine WM_form (n := 0) rfl ?_
             rintro A509 c510 rfl m511
             refine WM_form (n := 1) rfl ?_
             rintro A513 c514 rfl m515
             refine WM_form (n := 2) rfl ?_
             rintro A517 c518 rfl m519
             refine WM_form (n := 3) rfl ?_
             rintro A521 c522 rfl m523
             refine WM_form (n := 4) rfl ?_
             rintro A525 c526 rfl m527
             refine qnD (pk [6, 7, 8, 9, 10, 11, 12, 13, 14, 15, 16, 17, 18, 19]) (pk [6, 7, 8, 9, 10, 11, 12, 13, 14, 15, 16, 17, 18, 19]) ?_
             refine qoD 12 3 543 rfl ?_
             refine wcs tyQuery (laws_toQuery_m x1) (cl_fn cb53 rfl) (fun W hm => laws_toQuery_c W _ x1 (tyLQuery_mk (x := x1) (hm.rdS0 r44) (hm.rdS0 r49)) (smQuery_wt (by omega))) (fun z529 => ?_)
             refine tyQuery_sp ?_
             rintro ⟨v530, v531⟩ rfl
             refine WM_form (n := 0) rfl ?_
             rintro A532 c533 rfl m534
             refine WM_form (n := 1) rfl ?_
             rintro A536 c537 rfl m538
             refine qnD (pk [8, 9, 10, 11, 12, 13, 14, 15, 16, 17, 18, 19, 20, 21]) (pk [8, 9, 10, 11, 12, 13, 14, 15, 16, 17, 18, 19, 20, 21]) ?_
             refine qoD 12 5 575 rfl ?_
             refine WM_call (χ := List Value) (val := fun x => .tuple #[.agg x.toArray, .bool ((impl_AdmitQuery_m (laws_toEngine_m x0) (laws_toQuery_m x1) x2).2)]) (js := fun x => [iOwn tyEngine x ((impl_AdmitQuery_m (laws_toEngine_m x0) (laws_toQuery_m x1) x2).1)]) (cl_fn cb36 rfl) (fun W hm => impl_AdmitQuery_c W _ (laws_toEngine_m x0) _ (laws_toQuery_m x1) x2 (tyEngine_mk (x := (laws_toEngine_m x0)) (hm.rdSI (n := 2) rfl) (hm.rdSI (n := 3) rfl) (hm.rdSI (n := 4) rfl) (hm.rdSI (n := 5) rfl) (hm.rdSI (n := 6) rfl)) (tyQuery_mk (x := (laws_toQuery_m x1)) (hm.rdSI (n := 0) rfl) (hm.rdSI (n := 1) rfl)) (by rw [laws_toEngine_eq]; exact (smEngine_wt (by omega))) (by rw [laws_toQuery_eq]; exact (smQuery_wt (by omega)))) (Wd_none rfl) (by decide) (fun z540 => ?_)
             rw [← hG280]
             refine tyEngine_sp ?_
             rintro ⟨v541, v542, v543, v544, v545⟩ rfl
             refine WM_form (n := 0) rfl ?_
             rintro A546 c547 rfl m548
             refine WM_form (n := 1) rfl ?_
             rintro A550 c551 rfl m552
             refine WM_form (n := 2) rfl ?_
             rintro A554 c555 rfl m556
             refine WM_form (n := 3) rfl ?_
             rintro A558 c559 rfl m560
             refine WM_form (n := 4) rfl ?_
             rintro A562 c563 rfl m564
             refine qnD (pk [13, 14, 15, 16, 17, 18, 19, 20, 21, 22, 23, 24, 25, 26]) (pk [13, 14, 15, 16, 17, 18, 19, 20, 21, 22, 23, 24, 25, 26]) ?_
             refine qtD 12 6 639 rfl vmv ?_
             refine qtD 12 7 767 rfl (fun W hm => rv_extract rfl rfl) ?_
             refine qtP 12 8 1023 rfl (fun W => rv_extract rfl rfl) ?_
             exact QD_sub sl7 (pk [12, 0, 1, 2, 3, 4, 5, 6, 7, 8, 9, 10, 11, 13, 14, 15, 16, 17, 18, 19, 20, 21, 22, 23, 24, 25, 26]) (H (A546, c547, A550, c551, A554, c555, A558, c559, A562, c563, p502, A532, c533, A536, c537, A509, c510, A513, c514, A517, c518, A521, c522, A525, c526))
            exact QDs_nil
          ·have g279 : ((laws_heldEngine_m (⟨(⟨(laws_markEngine_m G185.1 1).2.Store.Segments, G185.1.Store.Now⟩ : DStore), G185.1.Cursor, (laws_markEngine_m G185.1 1).2.Order, (laws_markEngine_m G185.1 1).2.Active, (laws_markEngine_m G185.1 1).2.Done, (laws_markEngine_m G185.1 1).2.Ledger, G185.1.Steps⟩ : DEngine) 1) != ((laws_markEngine_m G185.1 1).1)) = true := bne_iff_ne.2 h278
           refine CM_condT rfl g279 ?_
           refine CM_seq ?_
           refine CM_items (pk []) ?_
           refine CM_region (wa (nt' (CM_ret (QM_then_ret ?_))))
           exact rtb (h := by subst hG56 hG185 hG257 hG264; exact cond_f g53 (cond_f g55 (cond_t g213 (cond_f g215 (cond_t g243 (cond_t g256 (cond_f g269 (cond_f g277 (cond_t g279 (rfl))))))))))
       ·
        refine CM_condT rfl (nf g256) ?_
        refine CM_seq ?_
        refine CM_items (pk []) ?_
        refine CM_region (wa (nt' (CM_ret (QM_then_ret ?_))))
        exact rtb (h := by subst hG56 hG185; exact cond_f g53 (cond_f g55 (cond_t g213 (cond_f g215 (cond_t g243 (cond_f g256 (rfl)))))))
      ·
       refine CM_condT rfl (nf g243) ?_
       refine CM_seq ?_
       refine CM_items (pk []) ?_
       refine CM_region (wa (nt' (CM_ret (QM_then_ret ?_))))
       exact rtb (h := by subst hG56 hG185; exact cond_f g53 (cond_f g55 (cond_t g213 (cond_f g215 (cond_f g243 (rfl))))))
    ·
     refine ws (nf g213) ?_
     refine ws (nf g213) ?_
     refine ws (nf g213) ?_
     refine wv (vpT (nf g213)) ?_
     refine nt' ?_
     refine CM_condT rfl rfl ?_
     refine CM_seq ?_
     refine CM_items (pk []) ?_
     refine CM_region (wa (nt' (CM_ret (QM_then_ret ?_))))
     exact rtb (h := by subst hG56 hG185; exact cond_f g53 (cond_f g55 (cond_f g213 (rfl))))
   ·
    refine qtD 12 0 1 rfl (fun W hm => rv_loadN (cs := K1) underlying30 type30 rfl rfl (hm.boxCells (n := 1) rfl)) ?_
    refine qtD 12 2 5 rfl (fun W hm => rv_loadN (cs := K2) underlying87 type87 rfl rfl (hm.boxCells (n := 0) rfl)) ?_
    refine qtD 12 4 21 rfl vmv ?_
    refine qaD [1, 9] ?_
    refine qcD 12 23 rfl ?_ ?_
    ·
     refine wcs tyEngine (laws_toEngine_m x0) (cl_fn cb16 rfl) (fun W hm => laws_toEngine_c W _ x0 (tyLEngine_mk (x := x0) (hm.rdS0 r15) (hm.rdS0 r20) (hm.rdS0 r25) (hm.rdS0 r30) (hm.rdS0 r35)) (smEngine_wt (by omega))) (fun z566 => ?_)
     refine tyEngine_sp ?_
     rintro ⟨v567, v568, v569, v570, v571⟩ rfl
     refine WM_form (n := 0) rfl ?_
     rintro A572 c573 rfl m574
     refine WM_form (n := 1) rfl ?_
     rintro A576 c577 rfl m578
     refine WM_form (n := 2) rfl ?_
     rintro A580 c581 rfl m582
     refine WM_form (n := 3) rfl ?_
     rintro A584 c585 rfl m586
     refine WM_form (n := 4) rfl ?_
     rintro A588 c589 rfl m590
     refine qnD (pk [5, 6]) (pk [5, 6]) ?_
     refine qaD [3, 9] ?_
     refine qcD 12 31 rfl ?_ ?_
     ·
      refine wcs tyQuery (laws_toQuery_m x1) (cl_fn cb53 rfl) (fun W hm => laws_toQuery_c W _ x1 (tyLQuery_mk (x := x1) (hm.rdS0 r44) (hm.rdS0 r49)) (smQuery_wt (by omega))) (fun z592 => ?_)
      refine tyQuery_sp ?_
      rintro ⟨v593, v594⟩ rfl
      refine WM_form (n := 0) rfl ?_
      rintro A595 c596 rfl m597
      refine WM_form (n := 1) rfl ?_
      rintro A599 c600 rfl m601
      refine qnD (pk [7, 8]) (pk [7, 8]) ?_
      refine qaD [5, 9] ?_
      refine qcD 12 63 rfl ?_ ?_
      ·
       refine WM_call (χ := List Value) (val := fun x => .tuple #[.agg x.toArray, .bool ((spec_AdmitQuery_m (laws_toEngine_m x0) (laws_toQuery_m x1) x2).2)]) (js := fun x => [iOwn tyEngine x ((spec_AdmitQuery_m (laws_toEngine_m x0) (laws_toQuery_m x1) x2).1)]) (cl_fn cb37 rfl) (fun W hm => spec_AdmitQuery_c W _ (laws_toEngine_m x0) _ (laws_toQuery_m x1) x2 (tyEngine_mk (x := (laws_toEngine_m x0)) (hm.rdSI (n := 2) rfl) (hm.rdSI (n := 3) rfl) (hm.rdSI (n := 4) rfl) (hm.rdSI (n := 5) rfl) (hm.rdSI (n := 6) rfl)) (tyQuery_mk (x := (laws_toQuery_m x1)) (hm.rdSI (n := 0) rfl) (hm.rdSI (n := 1) rfl)) (by rw [laws_toEngine_eq]; exact (smEngine_wt (by omega))) (by rw [laws_toQuery_eq]; exact (smQuery_wt (by omega)))) (Wd_none rfl) (by decide) (fun z603 => ?_)
       rw [← hG56]
       refine tyEngine_sp ?_
       rintro ⟨v604, v605, v606, v607, v608⟩ rfl
       refine WM_form (n := 0) rfl ?_
       rintro A609 c610 rfl m611
       refine WM_form (n := 1) rfl ?_
       rintro A613 c614 rfl m615
       refine WM_form (n := 2) rfl ?_
       rintro A617 c618 rfl m619
       refine WM_form (n := 3) rfl ?_
       rintro A621 c622 rfl m623
       refine WM_form (n := 4) rfl ?_
       rintro A625 c626 rfl m627
       refine qnD (pk [12, 13]) (pk [12, 13]) ?_
       refine qtD 12 6 127 rfl vmv ?_
       refine qtD 12 7 255 rfl (fun W hm => rv_extract rfl rfl) ?_
       refine qtP 12 8 511 rfl (fun W => rv_extract rfl rfl) ?_
       refine qoD 12 9 1023 rfl ?_
       refine WM_alloc type47 rfl (Wd_none rfl) (by decide) (fun p629 => ?_)
       refine qnD (pk [13, 14]) (pk [13, 14]) ?_
       exact QD_sub sl6 (fun W hm => hm) (H (A609, c610, A613, c614, A617, c618, A621, c622, A625, c626, p629, A595, c596, A599, c600, A572, c573, A576, c577, A580, c581, A584, c585, A588, c589))
      refine qcD 12 543 rfl ?_ ?_
      ·
       refine WM_alloc type47 rfl (Wd_none rfl) (by decide) (fun p630 => ?_)
       refine qnD (pk [8, 9]) (pk [8, 9]) ?_
       refine qoD 12 5 575 rfl ?_
       refine WM_call (χ := List Value) (val := fun x => .tuple #[.agg x.toArray, .bool ((spec_AdmitQuery_m (laws_toEngine_m x0) (laws_toQuery_m x1) x2).2)]) (js := fun x => [iOwn tyEngine x ((spec_AdmitQuery_m (laws_toEngine_m x0) (laws_toQuery_m x1) x2).1)]) (cl_fn cb37 rfl) (fun W hm => spec_AdmitQuery_c W _ (laws_toEngine_m x0) _ (laws_toQuery_m x1) x2 (tyEngine_mk (x := (laws_toEngine_m x0)) (hm.rdSI (n := 3) rfl) (hm.rdSI (n := 4) rfl) (hm.rdSI (n := 5) rfl) (hm.rdSI (n := 6) rfl) (hm.rdSI (n := 7) rfl)) (tyQuery_mk (x := (laws_toQuery_m x1)) (hm.rdSI (n := 1) rfl) (hm.rdSI (n := 2) rfl)) (by rw [laws_toEngine_eq]; exact (smEngine_wt (by omega))) (by rw [laws_toQuery_eq]; exact (smQuery_wt (by omega)))) (Wd_none rfl) (by decide) (fun z631 => ?_)
       rw [← hG56]
       refine tyEngine_sp ?_
       rintro ⟨v632, v633, v634, v635, v636⟩ rfl
       refine WM_form (n := 0) rfl ?_
       rintro A637 c638 rfl m639
       refine WM_form (n := 1) rfl ?_
       rintro A641 c642 rfl m643
       refine WM_form (n := 2) rfl ?_
       rintro A645 c646 rfl m647
       refine WM_form (n := 3) rfl ?_
       rintro A649 c650 rfl m651
       refine WM_form (n := 4) rfl ?_
       rintro A653 c654 rfl m655
       refine qnD (pk [13, 14]) (pk [13, 14]) ?_
       refine qtD 12 6 639 rfl vmv ?_
       refine qtD 12 7 767 rfl (fun W hm => rv_extract rfl rfl) ?_
       refine qtP 12 8 1023 rfl (fun W => rv_extract rfl rfl) ?_
       exact QD_sub sl6 (pk [5, 0, 1, 2, 3, 4, 6, 7, 8, 9, 10, 11, 12, 13, 14]) (H (A637, c638, A641, c642, A645, c646, A649, c650, A653, c654, p630, A595, c596, A599, c600, A572, c573, A576, c577, A580, c581, A584, c585, A588, c589))
      exact QDs_nil
     refine qcD 12 535 rfl ?_ ?_
     ·
      refine WM_alloc type47 rfl (Wd_none rfl) (by decide) (fun p657 => ?_)
      refine qnD (pk [6, 7]) (pk [6, 7]) ?_
      refine qoD 12 3 543 rfl ?_
      refine wcs tyQuery (laws_toQuery_m x1) (cl_fn cb53 rfl) (fun W hm => laws_toQuery_c W _ x1 (tyLQuery_mk (x := x1) (hm.rdS0 r44) (hm.rdS0 r49)) (smQuery_wt (by omega))) (fun z658 => ?_)
      refine tyQuery_sp ?_
      rintro ⟨v659, v660⟩ rfl
      refine WM_form (n := 0) rfl ?_
      rintro A661 c662 rfl m663
      refine WM_form (n := 1) rfl ?_
      rintro A665 c666 rfl m667
      refine qnD (pk [8, 9]) (pk [8, 9]) ?_
      refine qoD 12 5 575 rfl ?_
      refine WM_call (χ := List Value) (val := fun x => .tuple #[.agg x.toArray, .bool ((spec_AdmitQuery_m (laws_toEngine_m x0) (laws_toQuery_m x1) x2).2)]) (js := fun x => [iOwn tyEngine x ((spec_AdmitQuery_m (laws_toEngine_m x0) (laws_toQuery_m x1) x2).1)]) (cl_fn cb37 rfl) (fun W hm => spec_AdmitQuery_c W _ (laws_toEngine_m x0) _ (laws_toQuery_m x1) x2 (tyEngine_mk (x := (laws_toEngine_m x0)) (hm.rdSI (n := 3) rfl) (hm.rdSI (n := 4) rfl) (hm.rdSI (n := 5) rfl) (hm.rdSI (n := 6) rfl) (hm.rdSI (n := 7) rfl)) (tyQuery_mk (x := (laws_toQuery_m x1)) (hm.rdSI (n := 0) rfl) (hm.rdSI (n := 1) rfl)) (by rw [laws_toEngine_eq]; exact (smEngine_wt (by omega))) (by rw [laws_toQuery_eq]; exact (smQuery_wt (by omega)))) (Wd_none rfl) (by decide) (fun z669 => ?_)
      rw [← hG56]
      refine tyEngine_sp ?_
      rintro ⟨v670, v671, v672, v673, v674⟩ rfl
      refine WM_form (n := 0) rfl ?_
      rintro A675 c676 rfl m677
      refine WM_form (n := 1) rfl ?_
      rintro A679 c680 rfl m681
      refine WM_form (n := 2) rfl ?_
      rintro A683 c684 rfl m685
      refine WM_form (n := 3) rfl ?_
      rintro A687 c688 rfl m689
      refine WM_form (n := 4) rfl ?_
      rintro A691 c692 rfl m693
      refine qnD (pk [13, 14]) (pk [13, 14]) ?_
      refine qtD 12 6 639 rfl vmv ?_
      refine qtD 12 7 767 rfl (fun W hm => rv_extract rfl rfl) ?_
      refine qtP 12 8 1023 rfl (fun W => rv_extract rfl rfl) ?_
      exact QD_sub sl6 (pk [7, 0, 1, 2, 3, 4, 5, 6, 8, 9, 10, 11, 12, 13, 14]) (H (A675, c676, A679, c680, A683, c684, A687, c688, A691, c692, p657, A661, c662, A665, c666, A572, c573, A576, c577, A580, c581, A584, c585, A588, c589))
     exact QDs_nil
    refine qcD 12 533 rfl ?_ ?_
    ·
     refine WM_alloc type47 rfl (Wd_none rfl) (by decide) (fun p695 => ?_)
     refine qnD (pk [1, 2]) (pk [1, 2]) ?_
     refine qoD 12 1 535 rfl ?_
     refine wcs tyEngine (laws_toEngine_m x0) (cl_fn cb16 rfl) (fun W hm => laws_toEngine_c W _ x0 (tyLEngine_mk (x := x0) (hm.rdS0 r15) (hm.rdS0 r20) (hm.rdS0 r25) (hm.rdS0 r30) (hm.rdS0 r35)) (smEngine_wt (by omega))) (fun z696 => ?_)
     refine tyEngine_sp ?_
     rintro ⟨v697, v698, v699, v700, v701⟩ rfl
     refine WM_form (n := 0) rfl ?_
     rintro A702 c703 rfl m704
     refine WM_form (n := 1) rfl ?_
     rintro A706 c707 rfl m708
     refine WM_form (n := 2) rfl ?_
     rintro A710 c711 rfl m712
     refine WM_form (n := 3) rfl ?_
     rintro A714 c715 rfl m716
     refine WM_form (n := 4) rfl ?_
     rintro A718 c719 rfl m720
     refine qnD (pk [6, 7]) (pk [6, 7]) ?_
     refine qoD 12 3 543 rfl ?_
     refine wcs tyQuery (laws_toQuery_m x1) (cl_fn cb53 rfl) (fun W hm => laws_toQuery_c W _ x1 (tyLQuery_mk (x := x1) (hm.rdS0 r44) (hm.rdS0 r49)) (smQuery_wt (by omega))) (fun z722 => ?_)
     refine tyQuery_sp ?_
     rintro ⟨v723, v724⟩ rfl
     refine WM_form (n := 0) rfl ?_
     rintro A725 c726 rfl m727
     refine WM_form (n := 1) rfl ?_
     rintro A729 c730 rfl m731
     refine qnD (pk [8, 9]) (pk [8, 9]) ?_
     refine qoD 12 5 575 rfl ?_
     refine WM_call (χ := List Value) (val := fun x => .tuple #[.agg x.toArray, .bool ((spec_AdmitQuery_m (laws_toEngine_m x0) (laws_toQuery_m x1) x2).2)]) (js := fun x => [iOwn tyEngine x ((spec_AdmitQuery_m (laws_toEngine_m x0) (laws_toQuery_m x1) x2).1)]) (cl_fn cb37 rfl) (fun W hm => spec_AdmitQuery_c W _ (laws_toEngine_m x0) _ (laws_toQuery_m x1) x2 (tyEngine_mk (x := (laws_toEngine_m x0)) (hm.rdSI (n := 2) rfl) (hm.rdSI (n := 3) rfl) (hm.rdSI (n := 4) rfl) (hm.rdSI (n := 5) rfl) (hm.rdSI (n := 6) rfl)) (tyQuery_mk (x := (laws_toQuery_m x1)) (hm.rdSI (n := 0) rfl) (hm.rdSI (n := 1) rfl)) (by rw [laws_toEngine_eq]; exact (smEngine_wt (by omega))) (by rw [laws_toQuery_eq]; exact (smQuery_wt (by omega)))) (Wd_none rfl) (by decide) (fun z733 => ?_)
     rw [← hG56]
     refine tyEngine_sp ?_
     rintro ⟨v734, v735, v736, v737, v738⟩ rfl
     refine WM_form (n := 0) rfl ?_
     rintro A739 c740 rfl m741
     refine WM_form (n := 1) rfl ?_
     rintro A743 c744 rfl m745
     refine WM_form (n := 2) rfl ?_
     rintro A747 c748 rfl m749
     refine WM_form (n := 3) rfl ?_
     rintro A751 c752 rfl m753
     refine WM_form (n := 4) rfl ?_
     rintro A755 c756 rfl m757
     refine qnD (pk [13, 14]) (pk [13, 14]) ?_
     refine qtD 12 6 639 rfl vmv ?_
     refine qtD 12 7 767 rfl (fun W hm => rv_extract rfl rfl) ?_
     refine qtP 12 8 1023 rfl (fun W => rv_extract rfl rfl) ?_
     exact QD_sub sl6 (pk [12, 0, 1, 2, 3, 4, 5, 6, 7, 8, 9, 10, 11, 13, 14]) (H (A739, c740, A743, c744, A747, c748, A751, c752, A755, c756, p695, A725, c726, A729, c730, A702, c703, A706, c707, A710, c711, A714, c715, A718, c719))
    exact QDs_nil

end Go.Proofs.YtmikmbmdibabmaaGreat
