/-
  Contracts of functions, printed by a program of ours.
-/
import Derived.Test.YtmikmbmdibabmaaGreatL7F2
namespace Go.Proofs.YtmikmbmdibabmaaGreat
open Go.RowKit
set_option maxRecDepth 100000
set_option maxHeartbeats 4000000
open _root_.Go.Proofs.Tryz
def admJ (xs : List DActive) (q : Int) : Nat := xs.findIdx (fun a => decide (q < a.Query.Id))
theorem admJ_at {xs : List DActive} {q : Int} (h : admJ xs q < xs.length) : q < (gt xs (admJ xs q)).Query.Id := by
  have h2 : xs.findIdx (fun a => decide (q < a.Query.Id)) < xs.length := h
  have h1 := List.findIdx_getElem (w := h2)
  rw [gt_at h]
  exact of_decide_eq_true h1
theorem admJ_no {xs : List DActive} {q : Int} {j : Nat} (h : j < admJ xs q) : (gt xs j).Query.Id ≤ q := by
  have h1 := List.not_of_lt_findIdx (xs := xs) (p := fun a => decide (q < a.Query.Id)) h
  have h2 : j < xs.length := Nat.lt_of_lt_of_le h List.findIdx_le_length
  have h3 : decide (q < (xs[j]'h2).Query.Id) = false := h1
  have h4 := of_decide_eq_false h3
  rw [gt_at h2]
  omega
def spec_AdmitQuery_b2 (x0 : DEngine) (x1 : DQuery) (k166 : Nat) (s167 : Bool) : (DEngine × Bool) ⊕ (Bool) :=
 cond s167 (Sum.inr s167) (cond (decide (x1.Id < ((gt x0.Active k166).Query.Id))) (Sum.inr true) (Sum.inr s167))
def spec_AdmitQuery_b1 (k115 : Nat) (d118 : (List Int)) : (DEngine × Bool) ⊕ ((List Int)) :=
 Sum.inr (d118 ++ [((k115 : Nat) : Int)])
def spec_AdmitQuery_m (x0 : DEngine) (x1 : DQuery) (x2 : Int) : (DEngine × Bool) :=
 cond (spec_IsEngine_m x0) (cond (spec_IsQuery_m x1) (cond (spec_l1In_m x2 0 32) (cond (decide (0 ≤ (spec_FindActive_m x0 x1.Id))) (x0, false) (cond (decide (8 ≤ ((x0.Active.length : Nat) : Int))) (x0, false) (Sum.elim id (fun (s1_ : (List Int)) => Sum.elim id (fun (s : Bool) => cond s ((⟨x0.Store, x0.Cursor, x0.Order, ((List.take (admJ x0.Active x1.Id) x0.Active ++ [(⟨x1, x0.Store.Now, s1_, 0, 0, x2, []⟩ : DActive)]) ++ List.drop (admJ x0.Active x1.Id) x0.Active), x0.Done, x0.Ledger, x0.Steps⟩ : DEngine), true) ((⟨x0.Store, x0.Cursor, x0.Order, ((List.take x0.Active.length x0.Active ++ [(⟨x1, x0.Store.Now, s1_, 0, 0, x2, []⟩ : DActive)]) ++ List.drop x0.Active.length x0.Active), x0.Done, x0.Ledger, x0.Steps⟩ : DEngine), true)) (rng (R := (DEngine × Bool)) (fun k (s : Bool) => spec_AdmitQuery_b2 x0 x1 k s) (x0.Active.length - 0) 0 false)) (rng (R := (DEngine × Bool)) (fun k (s : (List Int)) => spec_AdmitQuery_b1 k s) (x0.Store.Segments.length - 0) 0 [])))) (x0, false)) (x0, false)) (x0, false)
theorem cb37 : Cb Tryz.prog 37 := ⟨f37, _, func37, rfl, by decide⟩
theorem spec_AdmitQuery_c (w : World) (z0 : List Value) (x0 : DEngine) (z1 : List Value) (x1 : DQuery) (x2 : Int) (r_0 : tyEngine.rd w w.heap.size z0 x0) (r_1 : tyQuery.rd w w.heap.size z1 x1) (s_0 : smEngine 68719476736 x0) (s_1 : smQuery 68719476736 x1) :
  Calls Tryz.prog 37 #[.agg z0.toArray, .agg z1.toArray, .int .i64 x2] w fun e w' => ∃ v : List Value, e = .returned (.tuple #[.agg v.toArray, .bool ((spec_AdmitQuery_m x0 x1 x2).2)]) ∧ Mem w.heap.size w [iOwn tyEngine v (spec_AdmitQuery_m x0 x1 x2).1] w' := by
 obtain ⟨v1, v3, v5, v7, v9, rfl, r2, r4, r6, r8, r10⟩ := tyEngine_rd r_0
 obtain ⟨m11, A12, c13, rfl, q14, r15⟩ := rdS_op r2
 obtain ⟨m16, A17, c18, rfl, q19, r20⟩ := rdS_op r4
 obtain ⟨m21, A22, c23, rfl, q24, r25⟩ := rdS_op r6
 obtain ⟨m26, A27, c28, rfl, q29, r30⟩ := rdS_op r8
 obtain ⟨m31, A32, c33, rfl, q34, r35⟩ := rdS_op r10
 obtain ⟨v36, v38, rfl, r37, r39⟩ := tyQuery_rd r_1
 obtain ⟨m40, A41, c42, rfl, q43, r44⟩ := rdS_op r37
 obtain ⟨m45, A46, c47, rfl, q48, r49⟩ := rdS_op r39
 have l50 : x0.Store.Segments.length ≤ 68719476736 := s_0.1.1
 have l51 : x0.Order.length ≤ 68719476736 := s_0.2.1
 have l52 : x0.Active.length ≤ 68719476736 := s_0.2.2.1.1
 have l53 : x0.Done.length ≤ 68719476736 := s_0.2.2.2.1.1
 have l54 : x0.Ledger.length ≤ 68719476736 := s_0.2.2.2.2.1
 have l55 : x1.Conds.length ≤ 68719476736 := s_1.1
 have l56 : x1.Out.length ≤ 68719476736 := s_1.2
 refine ce3 (L := [(0, .agg #[.slice A12 x0.Store.Segments.length c13, .int .i64 x0.Store.Now, .int .i64 x0.Cursor, .slice A17 x0.Order.length c18, .slice A22 x0.Active.length c23, .slice A27 x0.Done.length c28, .slice A32 x0.Ledger.length c33, .int .i64 x0.Steps]), (1, .agg #[.int .i64 x1.Id, .int .i64 x1.Tenant, .slice A41 x1.Conds.length c42, .slice A46 x1.Out.length c47]), (2, .int .i64 x2)]) (N := 112) func37 ?_
 refine sr ?_
 refine WM_box rfl (Wd_none rfl) (by decide) (fun p57 => ?_)
 refine WM_box rfl (Wd_none rfl) (by decide) (fun p58 => ?_)
 refine WM_alloc type47 rfl (Wd_none rfl) (by decide) (fun p59 => ?_)
 refine wa (nt' (sr ?_))
 let K5 : List Value := [.slice A12 x0.Store.Segments.length c13, .int .i64 x0.Store.Now, .int .i64 x0.Cursor, .slice A17 x0.Order.length c18, .slice A22 x0.Active.length c23, .slice A27 x0.Done.length c28, .slice A32 x0.Ledger.length c33, .int .i64 x0.Steps]
 refine wv (fun W hm => rv_loadN (cs := K5) underlying47 type47 rfl rfl (hm.boxCells (n := 2) rfl)) ?_
 refine wcs tyEngine x0 (cl_fn cb81 rfl) (fun W hm => spec_l9Copy_c2 W _ x0 (tyEngine_mk (x := x0) (hm.rdS0 r15) (hm.rdS0 r20) (hm.rdS0 r25) (hm.rdS0 r30) (hm.rdS0 r35)) s_0) (fun z60 => ?_)
 refine tyEngine_sp ?_
 rintro ⟨v61, v62, v63, v64, v65⟩ rfl
 refine WM_form (n := 0) rfl ?_
 rintro A66 c67 rfl m68
 refine WM_form (n := 1) rfl ?_
 rintro A70 c71 rfl m72
 refine WM_form (n := 2) rfl ?_
 rintro A74 c75 rfl m76
 refine WM_form (n := 3) rfl ?_
 rintro A78 c79 rfl m80
 refine WM_form (n := 4) rfl ?_
 rintro A82 c83 rfl m84
 refine WM_alloc type47 rfl (Wd_none rfl) (by decide) (fun p86 => ?_)
 let K6 : List Value := [.slice A66 x0.Store.Segments.length c67, .int .i64 x0.Store.Now, .int .i64 x0.Cursor, .slice A70 x0.Order.length c71, .slice A74 x0.Active.length c75, .slice A78 x0.Done.length c79, .slice A82 x0.Ledger.length c83, .int .i64 x0.Steps]
 let K7 : List Value := [.slice none 0 0, .int .i64 0, .int .i64 0, .slice none 0 0, .slice none 0 0, .slice none 0 0, .slice none 0 0, .int .i64 0]
 let K8 : List Value := [.int .i64 x1.Id, .int .i64 x1.Tenant, .slice A41 x1.Conds.length c42, .slice A46 x1.Out.length c47]
 let I15 : It := iOwn (tSl (tSl tyVersion 191) 131) [.slice A66 x0.Store.Segments.length c67] x0.Store.Segments
 let I16 : It := iOwn (tSl tInt 3) [.slice A70 x0.Order.length c71] x0.Order
 let I17 : It := iOwn (tSl tyActive 64) [.slice A74 x0.Active.length c75] x0.Active
 let I18 : It := iOwn (tSl tyFinished 37) [.slice A78 x0.Done.length c79] x0.Done
 let I19 : It := iOwn (tSl tyCharge 133) [.slice A82 x0.Ledger.length c83] x0.Ledger
 refine sb 0 K6 [I15, I16, I17, I18, I19, iBox p59 47 K7, iBox p58 34 K8, iBox p57 47 K5] (fun W hm => hm) type47 ?_
 refine nt' (CM_seq (sr ?_))
 refine wv (fun W hm => rv_loadN (cs := K5) underlying47 type47 rfl rfl (hm.boxCells (n := 8) rfl)) ?_
 refine wcv (cl_fn cb65 rfl) (fun W hm => spec_IsEngine_c W _ x0 (tyEngine_mk (x := x0) (hm.rdS0 r15) (hm.rdS0 r20) (hm.rdS0 r25) (hm.rdS0 r30) (hm.rdS0 r35)) s_0) ?_
 refine wv vnot ?_
 refine wm ?_
 rcases Bool.eq_false_or_eq_true (spec_IsEngine_m x0) with g88 | g88
 ·
  refine wg (fun W hm => rv_loadN (cs := K8) underlying34 type34 rfl rfl (hm.boxCells (n := 7) rfl)) (nt g88) ?_
  refine WM_callV (cl_fn cb127 rfl) (fun W hm => spec_IsQuery_c W _ x1 (tyQuery_mk (x := x1) (hm.rdS0 r44) (hm.rdS0 r49))) (Wd_some rfl rfl rfl (bw (nt g88) rfl)) (by decide) ?_
  refine wg vnot (nt g88) ?_
  refine wv (vpF (nt g88)) ?_
  refine wm ?_
  rcases Bool.eq_false_or_eq_true (spec_IsQuery_m x1) with g90 | g90
  ·
   refine wg vmv (nt g90) ?_
   refine WM_callV (cl_fn cb128 rfl) (fun W hm => spec_l1In_c W x2 0 32) (Wd_some rfl rfl rfl (bw (nt g90) rfl)) (by decide) ?_
   refine wg vnot (nt g90) ?_
   refine wv (vpF (nt g90)) ?_
   refine wm ?_
   rcases Bool.eq_false_or_eq_true (spec_l1In_m x2 0 32) with g92 | g92
   ·
    have hw := spec_l1In_fact g92
    refine wg (fun W hm => rv_loadN (cs := K5) underlying47 type47 rfl rfl (hm.boxCells (n := 8) rfl)) (nt g92) ?_
    refine wg (vf underlying34 rfl type3) (nt g92) ?_
    refine wg (vl 7 0 underlying3) (nt g92) ?_
    refine WM_callV (cl_fn cb33 rfl) (fun W hm => spec_FindActive_c W _ x0 x1.Id (tyEngine_mk (x := x0) (hm.rdS0 r15) (hm.rdS0 r20) (hm.rdS0 r25) (hm.rdS0 r30) (hm.rdS0 r35))) (Wd_some rfl rfl rfl (bw (nt g92) rfl)) (by decide) ?_
    refine wg (fun W hm => rv_geq rfl rfl) (nt g92) ?_
    refine wv (vpF (nt g92)) ?_
    refine wm ?_
    by_cases h93 : 0 ≤ (spec_FindActive_m x0 x1.Id)
    ·have g94 := decide_eq_true h93
     refine ws g94 ?_
     refine ws g94 ?_
     refine ws g94 ?_
     refine ws g94 ?_
     refine wv (vpT g94) ?_
     refine nt' ?_
     refine CM_condT rfl rfl ?_
     refine sr ?_
     refine wv (fun W hm => rv_loadN (cs := K6) underlying47 type47 rfl rfl (hm.boxCells (n := 0) rfl)) ?_
     refine sb 0 K6 [iBox p86 47 K6, I15, I16, I17, I18, I19, iBox p58 34 K8, iBox p57 47 K5] (pk [6, 0, 1, 2, 3, 4, 5, 7, 8]) type47 ?_
     refine wa (nt' (CM_ret (QM_then_ret ?_)))
     have he95 := (show spec_AdmitQuery_m x0 x1 x2 = (x0, false) from cond_t g88 (cond_t g90 (cond_t g92 (cond_t g94 (rfl)))))
     refine QM_r2 rfl (RR_cell (n := 0) rfl rfl underlying47 type47 rfl) (RR_tmp rfl) (fun W hm => ⟨K6, ?_, ?_⟩)
     ·first | rw [he95] | rfl
      try rfl
     ·rw [he95]; exact Mem.join (is := [I15, I16, I17, I18, I19]) (js := []) (fun _ _ hs => tyEngine_join (x := x0) hs) (hm.pick [2, 3, 4, 5, 6] (by decide))
    ·have g94 := decide_eq_false h93
     refine wg (vf underlying47 rfl type43) g94 ?_
     refine wg (vl 8 4 underlying43) g94 ?_
     refine wg (vlen underlying43) g94 ?_
     refine wg (fun W hm => rv_geq rfl rfl) g94 ?_
     refine wv (vpF g94) ?_
     refine nt' ?_
     by_cases h96 : 8 ≤ ((x0.Active.length : Nat) : Int)
     ·have g97 := decide_eq_true h96
      refine CM_condT rfl g97 ?_
      refine sr ?_
      refine wv (fun W hm => rv_loadN (cs := K6) underlying47 type47 rfl rfl (hm.boxCells (n := 0) rfl)) ?_
      refine sb 0 K6 [iBox p86 47 K6, I15, I16, I17, I18, I19, iBox p58 34 K8, iBox p57 47 K5] (pk [6, 0, 1, 2, 3, 4, 5, 7, 8]) type47 ?_
      refine wa (nt' (CM_ret (QM_then_ret ?_)))
      have he98 := (show spec_AdmitQuery_m x0 x1 x2 = (x0, false) from cond_t g88 (cond_t g90 (cond_t g92 (cond_f g94 (cond_t g97 (rfl))))))
      refine QM_r2 rfl (RR_cell (n := 0) rfl rfl underlying47 type47 rfl) (RR_tmp rfl) (fun W hm => ⟨K6, ?_, ?_⟩)
      ·first | rw [he98] | rfl
       try rfl
      ·rw [he98]; exact Mem.join (is := [I15, I16, I17, I18, I19]) (js := []) (fun _ _ hs => tyEngine_join (x := x0) hs) (hm.pick [2, 3, 4, 5, 6] (by decide))
     ·have g97 := decide_eq_false h96
      refine CM_condF rfl g97 ?_
      refine CM_skip (QM_then (CM_seq ?_))
      refine rd2 9 [8] (s := [iBox p86 47 K6, I15, I16, I17, I18, I19, iBox p59 47 K7, iBox p58 34 K8, iBox p57 47 K5]) (s2 := [iBox p86 47 K6, I15, I16, I17, I18, I19, iBox p59 47 K7, iBox p58 34 K8, iBox p57 47 K5]) (fun W hm => hm) (fun W hm => hm) ?_
      let K9 : List Value := [.int .i64 0, .int .i64 0, .slice none 0 0, .slice none 0 0, .int .i64 0, .slice none 0 0, .int .i64 0, .int .i64 0, .int .i64 0, .slice none 0 0]
      refine QD_mid (σ := Option Addr × Nat × Option Addr × Nat × Nat) (fun s => [iBox p86 47 K6, I15, I16, I17, I18, I19, iBox p59 47 K7, iBox p58 34 K8, iBox p57 47 K5]) 9 255 1 (fun s => [(3, .pointer (some (⟨p57, 0, none⟩ : Addr))), (4, .pointer (some (⟨p58, 0, none⟩ : Addr))), (6, .pointer (some (⟨p59, 0, none⟩ : Addr))), (8, .pointer (some (⟨p86, 0, none⟩ : Addr))), (49, .agg #[.int .i64 x1.Id, .int .i64 x1.Tenant, .slice s.1 x1.Conds.length s.2.1, .slice s.2.2.1 x1.Out.length s.2.2.2.1, .int .i64 x0.Store.Now, .slice none 0 0, .int .i64 0, .int .i64 0, .int .i64 x2, .slice none 0 0]), (9, .pointer (some (⟨s.2.2.2.2, 0, none⟩ : Addr)))]) (fun s => [iBox s.2.2.2.2 64 K9, iOwn (tSl tyCond 201) [.slice s.1 x1.Conds.length s.2.1] x1.Conds, iOwn (tSl tInt 3) [.slice s.2.2.1 x1.Out.length s.2.2.2.1] x1.Out, iBox p86 47 K6, I15, I16, I17, I18, I19, iBox p59 47 K7, iBox p58 34 K8, iBox p57 47 K5]) ?_ (fun H => ?_)
      ·
       rintro ⟨A102, c103, A106, c107, p110⟩
       let I20 : It := iOwn (tSl tyCond 201) [.slice A102 x1.Conds.length c103] x1.Conds
       let I21 : It := iOwn (tSl tInt 3) [.slice A106 x1.Out.length c107] x1.Out
       show QD _ _ _ _ _ _ _ _ [(3, .pointer (some (⟨p57, 0, none⟩ : Addr))), (4, .pointer (some (⟨p58, 0, none⟩ : Addr))), (6, .pointer (some (⟨p59, 0, none⟩ : Addr))), (8, .pointer (some (⟨p86, 0, none⟩ : Addr))), (49, .agg #[.int .i64 x1.Id, .int .i64 x1.Tenant, .slice A102 x1.Conds.length c103, .slice A106 x1.Out.length c107, .int .i64 x0.Store.Now, .slice none 0 0, .int .i64 0, .int .i64 0, .int .i64 x2, .slice none 0 0]), (9, .pointer (some (⟨p110, 0, none⟩ : Addr)))] _ [iBox p86 47 K6, I15, I16, I17, I18, I19, iBox p59 47 K7, iBox p58 34 K8, iBox p57 47 K5] _ [iBox p110 64 K9, I20, I21, iBox p86 47 K6, I15, I16, I17, I18, I19, iBox p59 47 K7, iBox p58 34 K8, iBox p57 47 K5]
       refine QD_len (n := 1) rfl ?_
       intro m111 m112
       refine QD_len (n := 2) rfl ?_
       intro m113 m114
       refine qoD 9 8 511 rfl ?_
       refine sb 0 [.int .i64 x1.Id, .int .i64 x1.Tenant, .slice A102 x1.Conds.length c103, .slice A106 x1.Out.length c107, .int .i64 x0.Store.Now, .slice none 0 0, .int .i64 0, .int .i64 0, .int .i64 x2, .slice none 0 0] [I20, I21, iBox p86 47 K6, I15, I16, I17, I18, I19, iBox p59 47 K7, iBox p58 34 K8, iBox p57 47 K5] (fun W hm => hm) type64 ?_
       refine qxD (pk [3, 4, 5, 6, 7, 8, 9, 10, 11]) ?_
       refine QB_done (by kernel_rfl) ?_
       refine QM_then (CM_seq (sr (wa (nt' (CM_block ?_)))))
       refine CM_items (fun W hm => (hm.addNil (E := tInt) (e := 3)).last) ?_
       let F1 := fun k (s : (List Int)) => spec_AdmitQuery_b1 k s
       let R3 := rng (R := (DEngine × Bool)) F1
       refine CM_loop (σ := Nat × ((List Int)) × (Option Addr × Nat)) (fun s => [(3, .pointer (some (⟨p57, 0, none⟩ : Addr))), (4, .pointer (some (⟨p58, 0, none⟩ : Addr))), (6, .pointer (some (⟨p59, 0, none⟩ : Addr))), (8, .pointer (some (⟨p86, 0, none⟩ : Addr))), (9, .pointer (some (⟨p110, 0, none⟩ : Addr))), (10, .int .i64 ((s.1 : Nat) : Int))]) (fun s => [iBox p110 64 [.int .i64 x1.Id, .int .i64 x1.Tenant, .slice A102 x1.Conds.length c103, .slice A106 x1.Out.length c107, .int .i64 x0.Store.Now, .slice s.2.2.1 s.2.1.length s.2.2.2, .int .i64 0, .int .i64 0, .int .i64 x2, .slice none 0 0], I20, I21, iBox p86 47 K6, I15, I16, I17, I18, I19, iBox p59 47 K7, iBox p58 34 K8, iBox p57 47 K5, iOwn (tSl tInt 3) [.slice s.2.2.1 s.2.1.length s.2.2.2] s.2.1]) (fun s => s.1 ≤ x0.Store.Segments.length ∧ R3 (x0.Store.Segments.length - s.1) s.1 s.2.1 = R3 (x0.Store.Segments.length - 0) 0 [] ∧ s.2.1.length ≤ 0 + s.1) (fun s => x0.Store.Segments.length - s.1) (0, [], (none, 0)) sl6 (fun W hm => hm) ⟨(by omega), rfl, Nat.le_refl _⟩ ?_
       rintro ⟨k115, d118, ⟨A119, c120⟩⟩ H123
       obtain ⟨hk121, hF122, hi124⟩ : k115 ≤ x0.Store.Segments.length ∧ R3 (x0.Store.Segments.length - k115) k115 d118 = R3 (x0.Store.Segments.length - 0) 0 [] ∧ d118.length ≤ 0 + k115 := H123
       let K10 : List Value := [.int .i64 x1.Id, .int .i64 x1.Tenant, .slice A102 x1.Conds.length c103, .slice A106 x1.Out.length c107, .int .i64 x0.Store.Now, .slice A119 d118.length c120, .int .i64 0, .int .i64 0, .int .i64 x2, .slice none 0 0]
       let I22 : It := iOwn (tSl tInt 3) [.slice A119 d118.length c120] d118
       show CM Tryz.prog 112 _ _ _ _ [(3, .pointer (some (⟨p57, 0, none⟩ : Addr))), (4, .pointer (some (⟨p58, 0, none⟩ : Addr))), (6, .pointer (some (⟨p59, 0, none⟩ : Addr))), (8, .pointer (some (⟨p86, 0, none⟩ : Addr))), (9, .pointer (some (⟨p110, 0, none⟩ : Addr))), (10, .int .i64 ((k115 : Nat) : Int))] [iBox p110 64 K10, I20, I21, iBox p86 47 K6, I15, I16, I17, I18, I19, iBox p59 47 K7, iBox p58 34 K8, iBox p57 47 K5, I22]
       refine CM_seq (sr (wm ?_))
       refine wv (vf underlying47 rfl type42) ?_
       refine wv (fun W hm => rv_fieldA (o := 0) underlying42 rfl type40 (by decide) rfl rfl) ?_
       refine wv (vl 11 0 underlying40) ?_
       refine wv (vlen underlying40) ?_
       refine wv vlss ?_
       refine nt' ?_
       by_cases hl125 : k115 < x0.Store.Segments.length
       ·have g126 := dlT hl125
        refine CM_condT rfl g126 ?_
        refine CM_skip (QM_then (CM_seq (CM_block (CM_region ?_))))
        refine wv (vf underlying64 rfl type25) ?_
        refine wv (vl 0 5 underlying25) ?_
        refine wm ?_
        refine WM_build (cs := [.int .i64 ((k115 : Nat) : Int)]) underlying25 type3 rfl (by decide) (by decide) rfl (by kernel_rfl) (Wd_none rfl) (by decide) (fun p127 => ?_)
        refine ap1 tInt 3 (.slice A119 d118.length c120) d118 ((k115 : Nat) : Int) [] [iBox p110 64 K10, I20, I21, iBox p86 47 K6, I15, I16, I17, I18, I19, iBox p59 47 K7, iBox p58 34 K8, iBox p57 47 K5] [.int .i64 ((k115 : Nat) : Int)] (pk [0, 13, 1, 2, 3, 4, 5, 6, 7, 8, 9, 10, 11, 12]) (fun _ _ hs => by cases (Sep.nil hs); exact (els_cons tInt_own els_nil)) underlying25 type3 (show (d118.length + 1) * 8 ≤ 140737488355328 from by first | omega | (simp only [List.length_append, List.length_cons, List.length_nil, List.length_take] at *; omega)) (fun v128 => ?_)
        refine WM_form (n := 0) rfl ?_
        rintro A129 c130 rfl m131
        refine wv (vf underlying64 rfl type25) ?_
        refine sb 5 [.int .i64 x1.Id, .int .i64 x1.Tenant, .slice A102 x1.Conds.length c103, .slice A106 x1.Out.length c107, .int .i64 x0.Store.Now, .slice A129 (d118 ++ [((k115 : Nat) : Int)]).length c130, .int .i64 0, .int .i64 0, .int .i64 x2, .slice none 0 0] [iOwn (tSl tInt 3) [.slice A129 (d118 ++ [((k115 : Nat) : Int)]).length c130] (d118 ++ [((k115 : Nat) : Int)]), I20, I21, iBox p86 47 K6, I15, I16, I17, I18, I19, iBox p59 47 K7, iBox p58 34 K8, iBox p57 47 K5] (pk [1, 0, 2, 3, 4, 5, 6, 7, 8, 9, 10, 11, 12]) type25 ?_
        refine WM_nil (QM_block_normal (QM_then (CM_region (wm ?_))))
        refine wv (vadN k115 1 (by omega)) ?_
        refine wa (WM_nil ?_)
        have hn133 := rng_next (R := (DEngine × Bool)) (body := F1) (k := k115) (s := d118) (s' := (d118 ++ [((k115 : Nat) : Int)])) (show k115 < x0.Store.Segments.length from by omega) (rfl) hF122
        exact QM_round (k115 + 1, (d118 ++ [((k115 : Nat) : Int)]), (A129, c130)) sl6 (pk [0, 2, 3, 4, 5, 6, 7, 8, 9, 10, 11, 12, 1]) ⟨(by omega), hn133, (show (d118 ++ [((k115 : Nat) : Int)]).length ≤ 0 + (k115 + 1) from by first | omega | (simp only [List.length_append, List.length_cons, List.length_nil] at *; omega))⟩ (rl (by omega))
       ·have g126 := dlF hl125
        refine CM_condF rfl g126 ?_
        refine CM_exit (QM_then_exit (QM_then_exit ?_))
        have hE134 : R3 (x0.Store.Segments.length - 0) 0 [] = Sum.inr d118 := rng_end hl125 hF122
        refine QM_block_hit (QM_then (sr ?_))
        refine WM_build0 (E := tyActive) underlying43 type64 (Wd_none rfl) (by decide) (fun p135 => ?_)
        refine wv (vf underlying47 rfl type43) ?_
        let K11 : List Value := [.slice A66 x0.Store.Segments.length c67, .int .i64 x0.Store.Now, .int .i64 x0.Cursor, .slice A70 x0.Order.length c71, .slice (some ⟨p135, 0, none⟩) 0 0, .slice A78 x0.Done.length c79, .slice A82 x0.Ledger.length c83, .int .i64 x0.Steps]
        let I23 : It := iOwn (tSl tyActive 64) [.slice (some ⟨p135, 0, none⟩) 0 0] []
        refine sb 4 K11 [I23, iBox p110 64 K10, I20, I21, I15, I16, I17, I18, I19, iBox p59 47 K7, iBox p58 34 K8, iBox p57 47 K5, I22] (pk [4, 0, 1, 2, 3, 5, 6, 7, 8, 9, 10, 11, 12, 13]) type43 ?_
        refine nt' (sr (wa (nt' (sr ?_))))
        refine wv (fun W hm => rv_loadN (cs := K5) underlying47 type47 rfl rfl (hm.boxCells (n := 12) rfl)) ?_
        refine wcs tyEngine x0 (cl_fn cb81 rfl) (fun W hm => spec_l9Copy_c2 W _ x0 (tyEngine_mk (x := x0) (hm.rdS0 r15) (hm.rdS0 r20) (hm.rdS0 r25) (hm.rdS0 r30) (hm.rdS0 r35)) s_0) (fun z137 => ?_)
        refine tyEngine_sp ?_
        rintro ⟨v138, v139, v140, v141, v142⟩ rfl
        refine WM_form (n := 0) rfl ?_
        rintro A143 c144 rfl m145
        refine WM_form (n := 1) rfl ?_
        rintro A147 c148 rfl m149
        refine WM_form (n := 2) rfl ?_
        rintro A151 c152 rfl m153
        refine WM_form (n := 3) rfl ?_
        rintro A155 c156 rfl m157
        refine WM_form (n := 4) rfl ?_
        rintro A159 c160 rfl m161
        refine wv (fun W hm => rv_fld1 underlying47 rfl underlying43 rfl rfl rfl) ?_
        refine wa (nt' (CM_seq (CM_seq ?_)))
        refine CM_items (pk [2, 5, 6, 7, 8, 9, 10, 11, 13, 14, 15, 16, 18]) ?_
        refine CM_region (wa (nt' (CM_block ?_)))
        refine CM_toCk (E := tyActive) (e := 64) (v := .slice A151 x0.Active.length c152) (xs := x0.Active) (js := [iBox p86 47 K11, I23, iBox p110 64 K10, I20, I21, I15, I16, I18, I19, iBox p59 47 K7, iBox p58 34 K8, I22]) (fun W hm => hm) (fun ps163 hps164 => ?_)
        have hl165 : ps163.length = x0.Active.length := by rw [← hps164, List.length_map]
        refine CM_items (fun W hm => Mem.emptyAs (E := tyActive) (F := (tCk (ckA tyActive))) rfl (hm.pick [3, 0, 1, 2, 4, 5, 6, 7, 8, 9, 10, 11, 12, 13] (by decide))) ?_
        let F2 := fun k (s : Bool) => spec_AdmitQuery_b2 x0 x1 k s
        let R4 := rng (R := (DEngine × Bool)) F2
        refine CM_loop (σ := Nat × (Bool) × (Option Addr × Nat)) (fun s => [(4, .pointer (some (⟨p58, 0, none⟩ : Addr))), (6, .pointer (some (⟨p59, 0, none⟩ : Addr))), (8, .pointer (some (⟨p86, 0, none⟩ : Addr))), (9, .pointer (some (⟨p110, 0, none⟩ : Addr))), (11, .bool s.2.1), (12, .slice A151 x0.Active.length c152), (13, .int .i64 ((s.1 : Nat) : Int))]) (fun s => [iOwn (tSl (tCk (ckA tyActive)) 64) [.slice s.2.2.1 (admP (admJ x0.Active x1.Id) ps163 ((K10, (⟨x1, x0.Store.Now, d118, 0, 0, x2, []⟩ : DActive)) : List Value × DActive) s.1).length s.2.2.2] (admP (admJ x0.Active x1.Id) ps163 ((K10, (⟨x1, x0.Store.Now, d118, 0, 0, x2, []⟩ : DActive)) : List Value × DActive) s.1), iOwn (tSl (tCk (ckA tyActive)) 64) [.slice A151 x0.Active.length c152] ps163, iCk tyActive ps163, iBox p86 47 [.slice A66 x0.Store.Segments.length c67, .int .i64 x0.Store.Now, .int .i64 x0.Cursor, .slice A70 x0.Order.length c71, .slice s.2.2.1 (admP (admJ x0.Active x1.Id) ps163 ((K10, (⟨x1, x0.Store.Now, d118, 0, 0, x2, []⟩ : DActive)) : List Value × DActive) s.1).length s.2.2.2, .slice A78 x0.Done.length c79, .slice A82 x0.Ledger.length c83, .int .i64 x0.Steps], iBox p110 64 K10, I20, I21, I15, I16, I18, I19, iBox p59 47 K7, iBox p58 34 K8, I22]) (fun s => s.1 ≤ x0.Active.length ∧ R4 (x0.Active.length - s.1) s.1 s.2.1 = R4 (x0.Active.length - 0) 0 false ∧ s.2.1 = decide (admJ x0.Active x1.Id < s.1)) (fun s => x0.Active.length - s.1) (0, false, ((some ⟨p135, 0, none⟩), 0)) sl7 (fun W hm => hm) ⟨(by omega), rfl, (decide_eq_false (Nat.not_lt_zero _)).symm⟩ ?_
        rintro ⟨k166, s167, ⟨A169, c170⟩⟩ H173
        obtain ⟨hk171, hF172, hi174⟩ : k166 ≤ x0.Active.length ∧ R4 (x0.Active.length - k166) k166 s167 = R4 (x0.Active.length - 0) 0 false ∧ s167 = decide (admJ x0.Active x1.Id < k166) := H173
        show CM Tryz.prog 112 _ _ _ _ [(4, .pointer (some (⟨p58, 0, none⟩ : Addr))), (6, .pointer (some (⟨p59, 0, none⟩ : Addr))), (8, .pointer (some (⟨p86, 0, none⟩ : Addr))), (9, .pointer (some (⟨p110, 0, none⟩ : Addr))), (11, .bool s167), (12, .slice A151 x0.Active.length c152), (13, .int .i64 ((k166 : Nat) : Int))] [iOwn (tSl (tCk (ckA tyActive)) 64) [.slice A169 (admP (admJ x0.Active x1.Id) ps163 ((K10, (⟨x1, x0.Store.Now, d118, 0, 0, x2, []⟩ : DActive)) : List Value × DActive) k166).length c170] (admP (admJ x0.Active x1.Id) ps163 ((K10, (⟨x1, x0.Store.Now, d118, 0, 0, x2, []⟩ : DActive)) : List Value × DActive) k166), iOwn (tSl (tCk (ckA tyActive)) 64) [.slice A151 x0.Active.length c152] ps163, iCk tyActive ps163, iBox p86 47 [.slice A66 x0.Store.Segments.length c67, .int .i64 x0.Store.Now, .int .i64 x0.Cursor, .slice A70 x0.Order.length c71, .slice A169 (admP (admJ x0.Active x1.Id) ps163 ((K10, (⟨x1, x0.Store.Now, d118, 0, 0, x2, []⟩ : DActive)) : List Value × DActive) k166).length c170, .slice A78 x0.Done.length c79, .slice A82 x0.Ledger.length c83, .int .i64 x0.Steps], iBox p110 64 K10, I20, I21, I15, I16, I18, I19, iBox p59 47 K7, iBox p58 34 K8, I22]
        refine CM_seq (sr (wm (wm ?_)))
        refine wv (vlen underlying43) ?_
        refine wv vlss ?_
        refine nt' ?_
        by_cases hl175 : k166 < x0.Active.length
        ·have g176 := dlT hl175
         have hat := @admJ_at x0.Active x1.Id
         have hno := @admJ_no x0.Active x1.Id k166
         refine CM_formO (n := 1) rfl (by omega) ?_
         rintro g177 rfl
         refine CM_ckRd (E := tyActive) (k := k166) hps164 (show k166 < x0.Active.length from by omega) (pk [2, 0, 1, 3, 4, 5, 6, 7, 8, 9, 10, 11, 12, 13]) (fun _ _ r178 => ?_)
         obtain ⟨v182, v186, v190, v194, hcs179, r183, r187, r191, r195⟩ := tyActive_rd r178
         obtain ⟨_, A180, c181, rfl, _⟩ := r183
         obtain ⟨_, A184, c185, rfl, _⟩ := r187
         obtain ⟨_, A188, c189, rfl, _⟩ := r191
         obtain ⟨_, A192, c193, rfl, _⟩ := r195
         refine CM_ckOpen (E := tyActive) (e := 64) hcs179 (show k166 < x0.Active.length from by omega) (pk [1, 0, 2, 3, 4, 5, 6, 7, 8, 9, 10, 11, 12, 13]) ?_
         have hal196 : (admP (admJ x0.Active x1.Id) ps163 ((K10, (⟨x1, x0.Store.Now, d118, 0, 0, x2, []⟩ : DActive)) : List Value × DActive) k166).length ≤ k166 + 1 := admP_len _
         refine CM_condT rfl g176 ?_
         refine CM_skip (QM_then (CM_seq (CM_block (CM_seq (CM_seq ?_)))))
         refine CM_regionD (by kernel_rfl) (by kernel_rfl) ?_
         refine qm ?_
         refine qv vnot ?_
         refine qm ?_
         rcases Bool.eq_false_or_eq_true s167 with g198 | g198
         ·
          have hpl := g198
          refine qs (nt g198) ?_
          refine qs (nt g198) ?_
          refine qs (nt g198) ?_
          refine qs (nt g198) ?_
          refine qs (nt g198) ?_
          refine qs (nt g198) ?_
          refine qs (nt g198) ?_
          refine qs (nt g198) ?_
          refine qs (nt g198) ?_
          refine qv (vpF (nt g198)) ?_
          refine nq' ?_
          refine CM_condF rfl rfl ?_
          refine CM_skip (QM_then ?_)
          let K12 : List Value := [.int .i64 ((gt x0.Active k166).Query.Id), .int .i64 ((gt x0.Active k166).Query.Tenant), .slice A180 (gt x0.Active k166).Query.Conds.length c181, .slice A184 (gt x0.Active k166).Query.Out.length c185, .int .i64 ((gt x0.Active k166).Time), .slice A188 (gt x0.Active k166).Todo.length c189, .int .i64 ((gt x0.Active k166).Age), .int .i64 ((gt x0.Active k166).Sent), .int .i64 ((gt x0.Active k166).Cap), .slice A192 (gt x0.Active k166).Rows.length c193]
          refine rd2 10 [9] (s := [iFoc (tCk (ckA tyActive)) 64 (some ⟨g177, 0, none⟩) x0.Active.length c152 ps163 k166 K12, iCk tyActive ps163, iBox p110 64 K10, I20, I21, I15, I16, I18, I19, iBox p59 47 K7, iBox p58 34 K8, I22]) (s2 := [iFoc (tCk (ckA tyActive)) 64 (some ⟨g177, 0, none⟩) x0.Active.length c152 ps163 k166 K12, iCk tyActive ps163, iBox p86 47 [.slice A66 x0.Store.Segments.length c67, .int .i64 x0.Store.Now, .int .i64 x0.Cursor, .slice A70 x0.Order.length c71, .slice A169 (admP (admJ x0.Active x1.Id) ps163 ((K10, (⟨x1, x0.Store.Now, d118, 0, 0, x2, []⟩ : DActive)) : List Value × DActive) k166).length c170, .slice A78 x0.Done.length c79, .slice A82 x0.Ledger.length c83, .int .i64 x0.Steps], iBox p110 64 K10, I20, I21, I15, I16, I18, I19, iBox p59 47 K7, iBox p58 34 K8, I22]) (pk [0, 2, 4, 5, 6, 7, 8, 9, 10, 11, 12, 13]) (pk [0, 2, 3, 4, 5, 6, 7, 8, 9, 10, 11, 12, 13]) ?_
          refine qtD 10 0 1 rfl (vf underlying47 rfl type43) ?_
          refine qtD 10 1 3 rfl (vl 2 4 underlying43) ?_
          refine qtD 10 2 7 rfl vmv ?_
          refine qtD 10 3 15 rfl vmv ?_
          refine qtD 10 4 31 rfl (vix 10 k166 underlying43 type64) ?_
          refine qtD 10 5 63 rfl (fun W hm => rv_loadN (cs := K12) underlying64 type64 rfl rfl (hm.focCells (i := 0) rfl rfl)) ?_
          refine qoD 10 6 127 rfl ?_
          refine WM_build (cs := K12) underlying43 type64 rfl (by decide) (by decide) rfl (by kernel_rfl) (Wd_none rfl) (by decide) (fun p199 => ?_)
          refine qnD (pk [1, 3, 5, 6, 7, 8, 9, 10, 11, 12, 13, 14]) (pk [1, 3, 4, 5, 6, 7, 8, 9, 10, 11, 12, 13, 14]) ?_
          refine qoD 10 7 255 rfl ?_
          refine ap1 (tCk (ckA tyActive)) 64 (.slice A169 (admP (admJ x0.Active x1.Id) ps163 ((K10, (⟨x1, x0.Store.Now, d118, 0, 0, x2, []⟩ : DActive)) : List Value × DActive) k166).length c170) (admP (admJ x0.Active x1.Id) ps163 ((K10, (⟨x1, x0.Store.Now, d118, 0, 0, x2, []⟩ : DActive)) : List Value × DActive) k166) ((K12, (gt x0.Active k166)) : List Value × DActive) [] [iFoc (tCk (ckA tyActive)) 64 (some ⟨g177, 0, none⟩) x0.Active.length c152 ps163 k166 K12, iCk tyActive ps163, iBox p86 47 [.slice A66 x0.Store.Segments.length c67, .int .i64 x0.Store.Now, .int .i64 x0.Cursor, .slice A70 x0.Order.length c71, .slice A169 (admP (admJ x0.Active x1.Id) ps163 ((K10, (⟨x1, x0.Store.Now, d118, 0, 0, x2, []⟩ : DActive)) : List Value × DActive) k166).length c170, .slice A78 x0.Done.length c79, .slice A82 x0.Ledger.length c83, .int .i64 x0.Steps], iBox p110 64 K10, I20, I21, I15, I16, I18, I19, iBox p59 47 K7, iBox p58 34 K8, I22] K12 (pk [0, 2, 1, 3, 4, 5, 6, 7, 8, 9, 10, 11, 12, 13, 14]) (fun _ _ hs => by cases (Sep.nil hs); exact (els_ck1 rfl rfl)) underlying43 type64 (show ((admP (admJ x0.Active x1.Id) ps163 ((K10, (⟨x1, x0.Store.Now, d118, 0, 0, x2, []⟩ : DActive)) : List Value × DActive) k166).length + 1) * 144 ≤ 140737488355328 from by first | omega | (simp only [List.length_append, List.length_cons, List.length_nil, List.length_take] at *; omega)) (fun v200 => ?_)
          refine WM_form (n := 0) rfl ?_
          rintro A201 c202 rfl m203
          refine qnD (pk [1, 2, 4, 5, 6, 7, 8, 9, 10, 11, 12, 13]) (pk [1, 2, 3, 4, 5, 6, 7, 8, 9, 10, 11, 12, 13]) ?_
          refine qtD 10 8 511 rfl (vf underlying47 rfl type43) ?_
          refine qoD 10 9 1023 rfl ?_
          refine sb 4 [.slice A66 x0.Store.Segments.length c67, .int .i64 x0.Store.Now, .int .i64 x0.Cursor, .slice A70 x0.Order.length c71, .slice A201 ((admP (admJ x0.Active x1.Id) ps163 ((K10, (⟨x1, x0.Store.Now, d118, 0, 0, x2, []⟩ : DActive)) : List Value × DActive) k166) ++ [((K12, (gt x0.Active k166)) : List Value × DActive)]).length c202, .slice A78 x0.Done.length c79, .slice A82 x0.Ledger.length c83, .int .i64 x0.Steps] [iOwn (tSl (tCk (ckA tyActive)) 64) [.slice A201 ((admP (admJ x0.Active x1.Id) ps163 ((K10, (⟨x1, x0.Store.Now, d118, 0, 0, x2, []⟩ : DActive)) : List Value × DActive) k166) ++ [((K12, (gt x0.Active k166)) : List Value × DActive)]).length c202] ((admP (admJ x0.Active x1.Id) ps163 ((K10, (⟨x1, x0.Store.Now, d118, 0, 0, x2, []⟩ : DActive)) : List Value × DActive) k166) ++ [((K12, (gt x0.Active k166)) : List Value × DActive)]), iFoc (tCk (ckA tyActive)) 64 (some ⟨g177, 0, none⟩) x0.Active.length c152 ps163 k166 K12, iCk tyActive ps163, iBox p110 64 K10, I20, I21, I15, I16, I18, I19, iBox p59 47 K7, iBox p58 34 K8, I22] (pk [3, 0, 1, 2, 4, 5, 6, 7, 8, 9, 10, 11, 12, 13]) type43 ?_
          refine qxD (pk [2, 3, 4, 5, 6, 7, 8, 9, 10, 11, 12, 13]) ?_
          refine QB_done (by kernel_rfl) ?_
          refine QM_block_normal (QM_then (CM_region (wm ?_)))
          refine wv (vadN k166 1 (by omega)) ?_
          refine wa (WM_nil ?_)
          refine QM_items (fun W hm => Mem.ckClose hcs179 rfl rfl (hm.pick [2, 0, 1, 3, 4, 5, 6, 7, 8, 9, 10, 11, 12, 13] (by decide))) ?_
          have hn0205 : admJ x0.Active x1.Id ≠ k166 := by first | (have h1 : admJ x0.Active x1.Id < k166 := of_decide_eq_true (hi174.symm.trans hpl); omega) | (intro hh; have := hat (by omega); rw [hh] at this; omega)
          rw [admP_miss hn0205 hps164 hcs179]
          have hn206 := rng_next (R := (DEngine × Bool)) (body := F2) (k := k166) (s := s167) (s' := s167) (show k166 < x0.Active.length from by omega) (cond_t g198 (rfl)) hF172
          exact QM_round (k166 + 1, s167, (A201, c202)) sl7 (pk [2, 0, 3, 1, 4, 5, 6, 7, 8, 9, 10, 11, 12, 13]) ⟨(by omega), hn206, (show s167 = decide (admJ x0.Active x1.Id < (k166 + 1)) from by first | exact (decide_eq_true (by omega)).symm | (rw [hi174]; exact decide_eq_decide.2 (by omega)))⟩ (rl (by omega))
         ·
          have hpl := g198
          refine qg vmv (nf g198) ?_
          refine qg vmv (nf g198) ?_
          refine qg (vix 10 k166 underlying43 type64) (nf g198) ?_
          refine qg (vf underlying64 rfl type34) (nf g198) ?_
          refine qg (fun W hm => rv_fieldA (o := 0) underlying34 rfl type3 (by decide) rfl rfl) (nf g198) ?_
          refine qg (fun W hm => rv_load underlying3 rfl rfl (hm.focCells (i := 0) rfl rfl 0 _ rfl)) (nf g198) ?_
          refine qg (vf underlying34 rfl type3) (nf g198) ?_
          refine qg (vl 12 0 underlying3) (nf g198) ?_
          refine qg (fun W hm => rv_gtr rfl rfl) (nf g198) ?_
          refine qv (vpT (nf g198)) ?_
          refine nq' ?_
          by_cases h207 : x1.Id < ((gt x0.Active k166).Query.Id)
          ·have g208 := decide_eq_true h207
           refine CM_condT rfl g208 ?_
           refine sr ?_
           refine wv (vf underlying47 rfl type43) ?_
           refine wv (vl 3 4 underlying43) ?_
           refine wv (fun W hm => rv_loadN (cs := K10) underlying64 type64 rfl rfl (hm.boxCells (n := 4) rfl)) ?_
           refine WM_build (cs := K10) underlying43 type64 rfl (by decide) (by decide) rfl (by kernel_rfl) (Wd_none rfl) (by decide) (fun p209 => ?_)
           let K13 : List Value := [.int .i64 ((gt x0.Active k166).Query.Id), .int .i64 ((gt x0.Active k166).Query.Tenant), .slice A180 (gt x0.Active k166).Query.Conds.length c181, .slice A184 (gt x0.Active k166).Query.Out.length c185, .int .i64 ((gt x0.Active k166).Time), .slice A188 (gt x0.Active k166).Todo.length c189, .int .i64 ((gt x0.Active k166).Age), .int .i64 ((gt x0.Active k166).Sent), .int .i64 ((gt x0.Active k166).Cap), .slice A192 (gt x0.Active k166).Rows.length c193]
           refine ap1 (tCk (ckA tyActive)) 64 (.slice A169 (admP (admJ x0.Active x1.Id) ps163 ((K10, (⟨x1, x0.Store.Now, d118, 0, 0, x2, []⟩ : DActive)) : List Value × DActive) k166).length c170) (admP (admJ x0.Active x1.Id) ps163 ((K10, (⟨x1, x0.Store.Now, d118, 0, 0, x2, []⟩ : DActive)) : List Value × DActive) k166) ((K10, (⟨x1, x0.Store.Now, d118, 0, 0, x2, []⟩ : DActive)) : List Value × DActive) [] [iFoc (tCk (ckA tyActive)) 64 (some ⟨g177, 0, none⟩) x0.Active.length c152 ps163 k166 K13, iCk tyActive ps163, iBox p86 47 [.slice A66 x0.Store.Segments.length c67, .int .i64 x0.Store.Now, .int .i64 x0.Cursor, .slice A70 x0.Order.length c71, .slice A169 (admP (admJ x0.Active x1.Id) ps163 ((K10, (⟨x1, x0.Store.Now, d118, 0, 0, x2, []⟩ : DActive)) : List Value × DActive) k166).length c170, .slice A78 x0.Done.length c79, .slice A82 x0.Ledger.length c83, .int .i64 x0.Steps], iBox p110 64 K10, I20, I21, I15, I16, I18, I19, iBox p59 47 K7, iBox p58 34 K8, I22] K10 (pk [0, 2, 1, 3, 4, 5, 6, 7, 8, 9, 10, 11, 12, 13, 14]) (fun _ _ hs => by cases (Sep.nil hs); exact (els_ck1 rfl rfl)) underlying43 type64 (show ((admP (admJ x0.Active x1.Id) ps163 ((K10, (⟨x1, x0.Store.Now, d118, 0, 0, x2, []⟩ : DActive)) : List Value × DActive) k166).length + 1) * 144 ≤ 140737488355328 from by first | omega | (simp only [List.length_append, List.length_cons, List.length_nil, List.length_take] at *; omega)) (fun v210 => ?_)
           refine WM_form (n := 0) rfl ?_
           rintro A211 c212 rfl m213
           refine wv (vf underlying47 rfl type43) ?_
           refine sb 4 [.slice A66 x0.Store.Segments.length c67, .int .i64 x0.Store.Now, .int .i64 x0.Cursor, .slice A70 x0.Order.length c71, .slice A211 ((admP (admJ x0.Active x1.Id) ps163 ((K10, (⟨x1, x0.Store.Now, d118, 0, 0, x2, []⟩ : DActive)) : List Value × DActive) k166) ++ [((K10, (⟨x1, x0.Store.Now, d118, 0, 0, x2, []⟩ : DActive)) : List Value × DActive)]).length c212, .slice A78 x0.Done.length c79, .slice A82 x0.Ledger.length c83, .int .i64 x0.Steps] [iOwn (tSl (tCk (ckA tyActive)) 64) [.slice A211 ((admP (admJ x0.Active x1.Id) ps163 ((K10, (⟨x1, x0.Store.Now, d118, 0, 0, x2, []⟩ : DActive)) : List Value × DActive) k166) ++ [((K10, (⟨x1, x0.Store.Now, d118, 0, 0, x2, []⟩ : DActive)) : List Value × DActive)]).length c212] ((admP (admJ x0.Active x1.Id) ps163 ((K10, (⟨x1, x0.Store.Now, d118, 0, 0, x2, []⟩ : DActive)) : List Value × DActive) k166) ++ [((K10, (⟨x1, x0.Store.Now, d118, 0, 0, x2, []⟩ : DActive)) : List Value × DActive)]), iFoc (tCk (ckA tyActive)) 64 (some ⟨g177, 0, none⟩) x0.Active.length c152 ps163 k166 K13, iCk tyActive ps163, iBox p110 64 K10, I20, I21, I15, I16, I18, I19, iBox p59 47 K7, iBox p58 34 K8, I22] (pk [3, 0, 1, 2, 4, 5, 6, 7, 8, 9, 10, 11, 12, 13]) type43 ?_
           refine nt' (CM_region (wa (nt' ?_)))
           refine rd2 10 [9] (s := [iFoc (tCk (ckA tyActive)) 64 (some ⟨g177, 0, none⟩) x0.Active.length c152 ps163 k166 K13, iCk tyActive ps163, iBox p110 64 K10, I20, I21, I15, I16, I18, I19, iBox p59 47 K7, iBox p58 34 K8, I22]) (s2 := [iBox p86 47 [.slice A66 x0.Store.Segments.length c67, .int .i64 x0.Store.Now, .int .i64 x0.Cursor, .slice A70 x0.Order.length c71, .slice A211 ((admP (admJ x0.Active x1.Id) ps163 ((K10, (⟨x1, x0.Store.Now, d118, 0, 0, x2, []⟩ : DActive)) : List Value × DActive) k166) ++ [((K10, (⟨x1, x0.Store.Now, d118, 0, 0, x2, []⟩ : DActive)) : List Value × DActive)]).length c212, .slice A78 x0.Done.length c79, .slice A82 x0.Ledger.length c83, .int .i64 x0.Steps], iFoc (tCk (ckA tyActive)) 64 (some ⟨g177, 0, none⟩) x0.Active.length c152 ps163 k166 K13, iCk tyActive ps163, iBox p110 64 K10, I20, I21, I15, I16, I18, I19, iBox p59 47 K7, iBox p58 34 K8, I22]) (pk [2, 3, 4, 5, 6, 7, 8, 9, 10, 11, 12, 13]) (pk [0, 2, 3, 4, 5, 6, 7, 8, 9, 10, 11, 12, 13]) ?_
           refine qtD 10 0 1 rfl (vf underlying47 rfl type43) ?_
           refine qtD 10 1 3 rfl (vl 0 4 underlying43) ?_
           refine qtD 10 2 7 rfl vmv ?_
           refine qtD 10 3 15 rfl vmv ?_
           refine qtD 10 4 31 rfl (vix 10 k166 underlying43 type64) ?_
           refine qtD 10 5 63 rfl (fun W hm => rv_loadN (cs := K13) underlying64 type64 rfl rfl (hm.focCells (i := 1) rfl rfl)) ?_
           refine qoD 10 6 127 rfl ?_
           refine WM_build (cs := K13) underlying43 type64 rfl (by decide) (by decide) rfl (by kernel_rfl) (Wd_none rfl) (by decide) (fun p215 => ?_)
           refine qnD (pk [3, 4, 5, 6, 7, 8, 9, 10, 11, 12, 13, 14]) (pk [1, 3, 4, 5, 6, 7, 8, 9, 10, 11, 12, 13, 14]) ?_
           refine qoD 10 7 255 rfl ?_
           refine ap1 (tCk (ckA tyActive)) 64 (.slice A211 ((admP (admJ x0.Active x1.Id) ps163 ((K10, (⟨x1, x0.Store.Now, d118, 0, 0, x2, []⟩ : DActive)) : List Value × DActive) k166) ++ [((K10, (⟨x1, x0.Store.Now, d118, 0, 0, x2, []⟩ : DActive)) : List Value × DActive)]).length c212) ((admP (admJ x0.Active x1.Id) ps163 ((K10, (⟨x1, x0.Store.Now, d118, 0, 0, x2, []⟩ : DActive)) : List Value × DActive) k166) ++ [((K10, (⟨x1, x0.Store.Now, d118, 0, 0, x2, []⟩ : DActive)) : List Value × DActive)]) ((K13, (gt x0.Active k166)) : List Value × DActive) [] [iBox p86 47 [.slice A66 x0.Store.Segments.length c67, .int .i64 x0.Store.Now, .int .i64 x0.Cursor, .slice A70 x0.Order.length c71, .slice A211 ((admP (admJ x0.Active x1.Id) ps163 ((K10, (⟨x1, x0.Store.Now, d118, 0, 0, x2, []⟩ : DActive)) : List Value × DActive) k166) ++ [((K10, (⟨x1, x0.Store.Now, d118, 0, 0, x2, []⟩ : DActive)) : List Value × DActive)]).length c212, .slice A78 x0.Done.length c79, .slice A82 x0.Ledger.length c83, .int .i64 x0.Steps], iFoc (tCk (ckA tyActive)) 64 (some ⟨g177, 0, none⟩) x0.Active.length c152 ps163 k166 K13, iCk tyActive ps163, iBox p110 64 K10, I20, I21, I15, I16, I18, I19, iBox p59 47 K7, iBox p58 34 K8, I22] K13 (pk [0, 2, 1, 3, 4, 5, 6, 7, 8, 9, 10, 11, 12, 13, 14]) (fun _ _ hs => by cases (Sep.nil hs); exact (els_ck1 rfl rfl)) underlying43 type64 (show (((admP (admJ x0.Active x1.Id) ps163 ((K10, (⟨x1, x0.Store.Now, d118, 0, 0, x2, []⟩ : DActive)) : List Value × DActive) k166) ++ [((K10, (⟨x1, x0.Store.Now, d118, 0, 0, x2, []⟩ : DActive)) : List Value × DActive)]).length + 1) * 144 ≤ 140737488355328 from by first | omega | (simp only [List.length_append, List.length_cons, List.length_nil, List.length_take] at *; omega)) (fun v216 => ?_)
           refine WM_form (n := 0) rfl ?_
           rintro A217 c218 rfl m219
           refine qnD (pk [2, 3, 4, 5, 6, 7, 8, 9, 10, 11, 12, 13]) (pk [1, 2, 3, 4, 5, 6, 7, 8, 9, 10, 11, 12, 13]) ?_
           refine qtD 10 8 511 rfl (vf underlying47 rfl type43) ?_
           refine qoD 10 9 1023 rfl ?_
           refine sb 4 [.slice A66 x0.Store.Segments.length c67, .int .i64 x0.Store.Now, .int .i64 x0.Cursor, .slice A70 x0.Order.length c71, .slice A217 (((admP (admJ x0.Active x1.Id) ps163 ((K10, (⟨x1, x0.Store.Now, d118, 0, 0, x2, []⟩ : DActive)) : List Value × DActive) k166) ++ [((K10, (⟨x1, x0.Store.Now, d118, 0, 0, x2, []⟩ : DActive)) : List Value × DActive)]) ++ [((K13, (gt x0.Active k166)) : List Value × DActive)]).length c218, .slice A78 x0.Done.length c79, .slice A82 x0.Ledger.length c83, .int .i64 x0.Steps] [iOwn (tSl (tCk (ckA tyActive)) 64) [.slice A217 (((admP (admJ x0.Active x1.Id) ps163 ((K10, (⟨x1, x0.Store.Now, d118, 0, 0, x2, []⟩ : DActive)) : List Value × DActive) k166) ++ [((K10, (⟨x1, x0.Store.Now, d118, 0, 0, x2, []⟩ : DActive)) : List Value × DActive)]) ++ [((K13, (gt x0.Active k166)) : List Value × DActive)]).length c218] (((admP (admJ x0.Active x1.Id) ps163 ((K10, (⟨x1, x0.Store.Now, d118, 0, 0, x2, []⟩ : DActive)) : List Value × DActive) k166) ++ [((K10, (⟨x1, x0.Store.Now, d118, 0, 0, x2, []⟩ : DActive)) : List Value × DActive)]) ++ [((K13, (gt x0.Active k166)) : List Value × DActive)]), iFoc (tCk (ckA tyActive)) 64 (some ⟨g177, 0, none⟩) x0.Active.length c152 ps163 k166 K13, iCk tyActive ps163, iBox p110 64 K10, I20, I21, I15, I16, I18, I19, iBox p59 47 K7, iBox p58 34 K8, I22] (pk [1, 0, 2, 3, 4, 5, 6, 7, 8, 9, 10, 11, 12, 13]) type43 ?_
           refine qxD (pk [2, 3, 4, 5, 6, 7, 8, 9, 10, 11, 12, 13]) ?_
           refine QB_done (by kernel_rfl) ?_
           refine QM_block_normal (QM_then (CM_region (wm ?_)))
           refine wv (vadN k166 1 (by omega)) ?_
           refine wa (WM_nil ?_)
           refine QM_items (fun W hm => Mem.ckClose hcs179 rfl rfl (hm.pick [2, 0, 1, 3, 4, 5, 6, 7, 8, 9, 10, 11, 12, 13] (by decide))) ?_
           have hn0221 : admJ x0.Active x1.Id = k166 := by have h1 : ¬ admJ x0.Active x1.Id < k166 := of_decide_eq_false (hi174.symm.trans hpl); exact Classical.byContradiction fun hh => (by have := hno (by omega); omega)
           rw [admP_hit hn0221 hps164 hcs179]
           have hn222 := rng_next (R := (DEngine × Bool)) (body := F2) (k := k166) (s := s167) (s' := true) (show k166 < x0.Active.length from by omega) (cond_f g198 (cond_t g208 (rfl))) hF172
           exact QM_round (k166 + 1, true, (A217, c218)) sl7 (pk [2, 0, 3, 1, 4, 5, 6, 7, 8, 9, 10, 11, 12, 13]) ⟨(by omega), hn222, (show true = decide (admJ x0.Active x1.Id < (k166 + 1)) from by first | exact (decide_eq_true (by omega)).symm | (rw [hi174]; exact decide_eq_decide.2 (by omega)))⟩ (rl (by omega))
          ·have g208 := decide_eq_false h207
           refine CM_condF rfl g208 ?_
           refine CM_skip (QM_then ?_)
           let K14 : List Value := [.int .i64 ((gt x0.Active k166).Query.Id), .int .i64 ((gt x0.Active k166).Query.Tenant), .slice A180 (gt x0.Active k166).Query.Conds.length c181, .slice A184 (gt x0.Active k166).Query.Out.length c185, .int .i64 ((gt x0.Active k166).Time), .slice A188 (gt x0.Active k166).Todo.length c189, .int .i64 ((gt x0.Active k166).Age), .int .i64 ((gt x0.Active k166).Sent), .int .i64 ((gt x0.Active k166).Cap), .slice A192 (gt x0.Active k166).Rows.length c193]
           refine rd2 10 [9] (s := [iFoc (tCk (ckA tyActive)) 64 (some ⟨g177, 0, none⟩) x0.Active.length c152 ps163 k166 K14, iCk tyActive ps163, iBox p110 64 K10, I20, I21, I15, I16, I18, I19, iBox p59 47 K7, iBox p58 34 K8, I22]) (s2 := [iFoc (tCk (ckA tyActive)) 64 (some ⟨g177, 0, none⟩) x0.Active.length c152 ps163 k166 K14, iCk tyActive ps163, iBox p86 47 [.slice A66 x0.Store.Segments.length c67, .int .i64 x0.Store.Now, .int .i64 x0.Cursor, .slice A70 x0.Order.length c71, .slice A169 (admP (admJ x0.Active x1.Id) ps163 ((K10, (⟨x1, x0.Store.Now, d118, 0, 0, x2, []⟩ : DActive)) : List Value × DActive) k166).length c170, .slice A78 x0.Done.length c79, .slice A82 x0.Ledger.length c83, .int .i64 x0.Steps], iBox p110 64 K10, I20, I21, I15, I16, I18, I19, iBox p59 47 K7, iBox p58 34 K8, I22]) (pk [0, 2, 4, 5, 6, 7, 8, 9, 10, 11, 12, 13]) (pk [0, 2, 3, 4, 5, 6, 7, 8, 9, 10, 11, 12, 13]) ?_
           refine qtD 10 0 1 rfl (vf underlying47 rfl type43) ?_
           refine qtD 10 1 3 rfl (vl 2 4 underlying43) ?_
           refine qtD 10 2 7 rfl vmv ?_
           refine qtD 10 3 15 rfl vmv ?_
           refine qtD 10 4 31 rfl (vix 10 k166 underlying43 type64) ?_
           refine qtD 10 5 63 rfl (fun W hm => rv_loadN (cs := K14) underlying64 type64 rfl rfl (hm.focCells (i := 0) rfl rfl)) ?_
           refine qoD 10 6 127 rfl ?_
           refine WM_build (cs := K14) underlying43 type64 rfl (by decide) (by decide) rfl (by kernel_rfl) (Wd_none rfl) (by decide) (fun p223 => ?_)
           refine qnD (pk [1, 3, 5, 6, 7, 8, 9, 10, 11, 12, 13, 14]) (pk [1, 3, 4, 5, 6, 7, 8, 9, 10, 11, 12, 13, 14]) ?_
           refine qoD 10 7 255 rfl ?_
           refine ap1 (tCk (ckA tyActive)) 64 (.slice A169 (admP (admJ x0.Active x1.Id) ps163 ((K10, (⟨x1, x0.Store.Now, d118, 0, 0, x2, []⟩ : DActive)) : List Value × DActive) k166).length c170) (admP (admJ x0.Active x1.Id) ps163 ((K10, (⟨x1, x0.Store.Now, d118, 0, 0, x2, []⟩ : DActive)) : List Value × DActive) k166) ((K14, (gt x0.Active k166)) : List Value × DActive) [] [iFoc (tCk (ckA tyActive)) 64 (some ⟨g177, 0, none⟩) x0.Active.length c152 ps163 k166 K14, iCk tyActive ps163, iBox p86 47 [.slice A66 x0.Store.Segments.length c67, .int .i64 x0.Store.Now, .int .i64 x0.Cursor, .slice A70 x0.Order.length c71, .slice A169 (admP (admJ x0.Active x1.Id) ps163 ((K10, (⟨x1, x0.Store.Now, d118, 0, 0, x2, []⟩ : DActive)) : List Value × DActive) k166).length c170, .slice A78 x0.Done.length c79, .slice A82 x0.Ledger.length c83, .int .i64 x0.Steps], iBox p110 64 K10, I20, I21, I15, I16, I18, I19, iBox p59 47 K7, iBox p58 34 K8, I22] K14 (pk [0, 2, 1, 3, 4, 5, 6, 7, 8, 9, 10, 11, 12, 13, 14]) (fun _ _ hs => by cases (Sep.nil hs); exact (els_ck1 rfl rfl)) underlying43 type64 (show ((admP (admJ x0.Active x1.Id) ps163 ((K10, (⟨x1, x0.Store.Now, d118, 0, 0, x2, []⟩ : DActive)) : List Value × DActive) k166).length + 1) * 144 ≤ 140737488355328 from by first | omega | (simp only [List.length_append, List.length_cons, List.length_nil, List.length_take] at *; omega)) (fun v224 => ?_)
           refine WM_form (n := 0) rfl ?_
           rintro A225 c226 rfl m227
           refine qnD (pk [1, 2, 4, 5, 6, 7, 8, 9, 10, 11, 12, 13]) (pk [1, 2, 3, 4, 5, 6, 7, 8, 9, 10, 11, 12, 13]) ?_
           refine qtD 10 8 511 rfl (vf underlying47 rfl type43) ?_
           refine qoD 10 9 1023 rfl ?_
           refine sb 4 [.slice A66 x0.Store.Segments.length c67, .int .i64 x0.Store.Now, .int .i64 x0.Cursor, .slice A70 x0.Order.length c71, .slice A225 ((admP (admJ x0.Active x1.Id) ps163 ((K10, (⟨x1, x0.Store.Now, d118, 0, 0, x2, []⟩ : DActive)) : List Value × DActive) k166) ++ [((K14, (gt x0.Active k166)) : List Value × DActive)]).length c226, .slice A78 x0.Done.length c79, .slice A82 x0.Ledger.length c83, .int .i64 x0.Steps] [iOwn (tSl (tCk (ckA tyActive)) 64) [.slice A225 ((admP (admJ x0.Active x1.Id) ps163 ((K10, (⟨x1, x0.Store.Now, d118, 0, 0, x2, []⟩ : DActive)) : List Value × DActive) k166) ++ [((K14, (gt x0.Active k166)) : List Value × DActive)]).length c226] ((admP (admJ x0.Active x1.Id) ps163 ((K10, (⟨x1, x0.Store.Now, d118, 0, 0, x2, []⟩ : DActive)) : List Value × DActive) k166) ++ [((K14, (gt x0.Active k166)) : List Value × DActive)]), iFoc (tCk (ckA tyActive)) 64 (some ⟨g177, 0, none⟩) x0.Active.length c152 ps163 k166 K14, iCk tyActive ps163, iBox p110 64 K10, I20, I21, I15, I16, I18, I19, iBox p59 47 K7, iBox p58 34 K8, I22] (pk [3, 0, 1, 2, 4, 5, 6, 7, 8, 9, 10, 11, 12, 13]) type43 ?_
           refine qxD (pk [2, 3, 4, 5, 6, 7, 8, 9, 10, 11, 12, 13]) ?_
           refine QB_done (by kernel_rfl) ?_
           refine QM_block_normal (QM_then (CM_region (wm ?_)))
           refine wv (vadN k166 1 (by omega)) ?_
           refine wa (WM_nil ?_)
           refine QM_items (fun W hm => Mem.ckClose hcs179 rfl rfl (hm.pick [2, 0, 1, 3, 4, 5, 6, 7, 8, 9, 10, 11, 12, 13] (by decide))) ?_
           have hn0229 : admJ x0.Active x1.Id ≠ k166 := by first | (have h1 : admJ x0.Active x1.Id < k166 := of_decide_eq_true (hi174.symm.trans hpl); omega) | (intro hh; have := hat (by omega); rw [hh] at this; omega)
           rw [admP_miss hn0229 hps164 hcs179]
           have hn230 := rng_next (R := (DEngine × Bool)) (body := F2) (k := k166) (s := s167) (s' := s167) (show k166 < x0.Active.length from by omega) (cond_f g198 (cond_f g208 (rfl))) hF172
           exact QM_round (k166 + 1, s167, (A225, c226)) sl7 (pk [2, 0, 3, 1, 4, 5, 6, 7, 8, 9, 10, 11, 12, 13]) ⟨(by omega), hn230, (show s167 = decide (admJ x0.Active x1.Id < (k166 + 1)) from by first | exact (decide_eq_true (by omega)).symm | (rw [hi174]; exact decide_eq_decide.2 (by omega)))⟩ (rl (by omega))
        ·have g176 := dlF hl175
         refine CM_condF rfl g176 ?_
         refine CM_exit (QM_then_exit (QM_then_exit ?_))
         have hE231 : R4 (x0.Active.length - 0) 0 false = Sum.inr s167 := rng_end hl175 hF172
         have hkl232 : k166 = ps163.length := by omega
         refine QM_block_hit (QM_then (CM_seq (sr (wm ?_))))
         refine wv vnot ?_
         refine nt' ?_
         rcases Bool.eq_false_or_eq_true s167 with g234 | g234
         ·
          have hpl := g234
          have hin235 : (admJ x0.Active x1.Id) < k166 := of_decide_eq_true (by rw [← hi174]; exact g234)
          rw [admP_in hkl232 hin235]
          refine CM_condF rfl (nt g234) ?_
          refine CM_skip (QM_then (CM_seq ?_))
          refine CM_items (pk [0, 2, 3, 5, 6, 7, 8, 9, 10, 11, 13]) ?_
          refine CM_region ?_
          refine wv (fun W hm => rv_loadN (cs := [.slice A66 x0.Store.Segments.length c67, .int .i64 x0.Store.Now, .int .i64 x0.Cursor, .slice A70 x0.Order.length c71, .slice A169 (List.take (admJ x0.Active x1.Id) ps163 ++ [((K10, (⟨x1, x0.Store.Now, d118, 0, 0, x2, []⟩ : DActive)) : List Value × DActive)] ++ List.drop (admJ x0.Active x1.Id) ps163).length c170, .slice A78 x0.Done.length c79, .slice A82 x0.Ledger.length c83, .int .i64 x0.Steps]) underlying47 type47 rfl rfl (hm.boxCells (n := 2) rfl)) ?_
          refine sb 0 [.slice A66 x0.Store.Segments.length c67, .int .i64 x0.Store.Now, .int .i64 x0.Cursor, .slice A70 x0.Order.length c71, .slice A169 (List.take (admJ x0.Active x1.Id) ps163 ++ [((K10, (⟨x1, x0.Store.Now, d118, 0, 0, x2, []⟩ : DActive)) : List Value × DActive)] ++ List.drop (admJ x0.Active x1.Id) ps163).length c170, .slice A78 x0.Done.length c79, .slice A82 x0.Ledger.length c83, .int .i64 x0.Steps] [iOwn (tSl (tCk (ckA tyActive)) 64) [.slice A169 (List.take (admJ x0.Active x1.Id) ps163 ++ [((K10, (⟨x1, x0.Store.Now, d118, 0, 0, x2, []⟩ : DActive)) : List Value × DActive)] ++ List.drop (admJ x0.Active x1.Id) ps163).length c170] (List.take (admJ x0.Active x1.Id) ps163 ++ [((K10, (⟨x1, x0.Store.Now, d118, 0, 0, x2, []⟩ : DActive)) : List Value × DActive)] ++ List.drop (admJ x0.Active x1.Id) ps163), iCk tyActive ps163, iBox p86 47 [.slice A66 x0.Store.Segments.length c67, .int .i64 x0.Store.Now, .int .i64 x0.Cursor, .slice A70 x0.Order.length c71, .slice A169 (List.take (admJ x0.Active x1.Id) ps163 ++ [((K10, (⟨x1, x0.Store.Now, d118, 0, 0, x2, []⟩ : DActive)) : List Value × DActive)] ++ List.drop (admJ x0.Active x1.Id) ps163).length c170, .slice A78 x0.Done.length c79, .slice A82 x0.Ledger.length c83, .int .i64 x0.Steps], I20, I21, I15, I16, I18, I19, I22] (pk [9, 0, 1, 2, 3, 4, 5, 6, 7, 8, 10]) type47 ?_
          refine wa (nt' (CM_ret ?_))
          refine QM_items (fun W hm => hm.addNil (E := tyRow) (e := 73)) ?_
          refine QM_items (fun W hm => Mem.ckInsert hps164 (Mem.join (is := [I20, I21, I22, iOwn (tSl tyRow 73) [.slice none 0 0] []]) (js := (iOwn (tSl (tCk (ckA tyActive)) 64) [.slice A169 (List.take (admJ x0.Active x1.Id) ps163 ++ [((K10, (⟨x1, x0.Store.Now, d118, 0, 0, x2, []⟩ : DActive)) : List Value × DActive)] ++ List.drop (admJ x0.Active x1.Id) ps163).length c170] (List.take (admJ x0.Active x1.Id) ps163 ++ [((K10, (⟨x1, x0.Store.Now, d118, 0, 0, x2, []⟩ : DActive)) : List Value × DActive)] ++ List.drop (admJ x0.Active x1.Id) ps163) :: iCk tyActive ps163 :: [iBox p59 47 [.slice A66 x0.Store.Segments.length c67, .int .i64 x0.Store.Now, .int .i64 x0.Cursor, .slice A70 x0.Order.length c71, .slice A169 (List.take (admJ x0.Active x1.Id) ps163 ++ [((K10, (⟨x1, x0.Store.Now, d118, 0, 0, x2, []⟩ : DActive)) : List Value × DActive)] ++ List.drop (admJ x0.Active x1.Id) ps163).length c170, .slice A78 x0.Done.length c79, .slice A82 x0.Ledger.length c83, .int .i64 x0.Steps], iBox p86 47 [.slice A66 x0.Store.Segments.length c67, .int .i64 x0.Store.Now, .int .i64 x0.Cursor, .slice A70 x0.Order.length c71, .slice A169 (List.take (admJ x0.Active x1.Id) ps163 ++ [((K10, (⟨x1, x0.Store.Now, d118, 0, 0, x2, []⟩ : DActive)) : List Value × DActive)] ++ List.drop (admJ x0.Active x1.Id) ps163).length c170, .slice A78 x0.Done.length c79, .slice A82 x0.Ledger.length c83, .int .i64 x0.Steps], I15, I16, I18, I19])) (fun _ _ hs => tyActive_join (x := (⟨x1, x0.Store.Now, d118, 0, 0, x2, []⟩ : DActive)) hs) (hm.pick [5, 6, 11, 0, 2, 3, 1, 4, 7, 8, 9, 10] (by decide)))) ?_
          have hl237 : (List.take (admJ x0.Active x1.Id) ps163 ++ [((K10, (⟨x1, x0.Store.Now, d118, 0, 0, x2, []⟩ : DActive)) : List Value × DActive)] ++ List.drop (admJ x0.Active x1.Id) ps163).length = ((List.take (admJ x0.Active x1.Id) x0.Active ++ [(⟨x1, x0.Store.Now, d118, 0, 0, x2, []⟩ : DActive)]) ++ List.drop (admJ x0.Active x1.Id) x0.Active).length := by rw [← hps164]; simp only [List.length_append, List.length_take, List.length_drop, List.length_map, List.length_cons, List.length_nil]
          rw [hl237]
          have he238 := (show spec_AdmitQuery_m x0 x1 x2 = ((⟨x0.Store, x0.Cursor, x0.Order, ((List.take (admJ x0.Active x1.Id) x0.Active ++ [(⟨x1, x0.Store.Now, d118, 0, 0, x2, []⟩ : DActive)]) ++ List.drop (admJ x0.Active x1.Id) x0.Active), x0.Done, x0.Ledger, x0.Steps⟩ : DEngine), true) from cond_t g88 (cond_t g90 (cond_t g92 (cond_f g94 (cond_f g97 (fin_inr hE134 (fin_inr hE231 (cond_t g234 (rfl)))))))))
          refine QM_r2 rfl (RR_cell (n := 1) rfl rfl underlying47 type47 rfl) (RR_tmp rfl) (fun W hm => ⟨[.slice A66 x0.Store.Segments.length c67, .int .i64 x0.Store.Now, .int .i64 x0.Cursor, .slice A70 x0.Order.length c71, .slice A169 ((List.take (admJ x0.Active x1.Id) x0.Active ++ [(⟨x1, x0.Store.Now, d118, 0, 0, x2, []⟩ : DActive)]) ++ List.drop (admJ x0.Active x1.Id) x0.Active).length c170, .slice A78 x0.Done.length c79, .slice A82 x0.Ledger.length c83, .int .i64 x0.Steps], ?_, ?_⟩)
          ·first | rw [he238] | rfl
           try rfl
          ·rw [he238]; exact Mem.join (is := [I15, I16, iOwn (tSl tyActive 64) [.slice A169 ((List.take (admJ x0.Active x1.Id) x0.Active ++ [(⟨x1, x0.Store.Now, d118, 0, 0, x2, []⟩ : DActive)]) ++ List.drop (admJ x0.Active x1.Id) x0.Active).length c170] ((List.take (admJ x0.Active x1.Id) x0.Active ++ [(⟨x1, x0.Store.Now, d118, 0, 0, x2, []⟩ : DActive)]) ++ List.drop (admJ x0.Active x1.Id) x0.Active), I18, I19]) (js := []) (fun _ _ hs => tyEngine_join (x := (⟨x0.Store, x0.Cursor, x0.Order, ((List.take (admJ x0.Active x1.Id) x0.Active ++ [(⟨x1, x0.Store.Now, d118, 0, 0, x2, []⟩ : DActive)]) ++ List.drop (admJ x0.Active x1.Id) x0.Active), x0.Done, x0.Ledger, x0.Steps⟩ : DEngine)) hs) (hm.pick [3, 4, 0, 5, 6] (by decide))
         ·
          have hpl := g234
          have hin239 : ¬ (admJ x0.Active x1.Id) < k166 := of_decide_eq_false (by rw [← hi174]; exact g234)
          have hx240 : k166 = x0.Active.length := by omega
          rw [admP_out hkl232 hin239, hx240]
          refine CM_condT rfl (nf g234) ?_
          refine CM_region ?_
          refine wv (vf underlying47 rfl type43) ?_
          refine wv (vl 3 4 underlying43) ?_
          refine wv (fun W hm => rv_loadN (cs := K10) underlying64 type64 rfl rfl (hm.boxCells (n := 4) rfl)) ?_
          refine WM_build (cs := K10) underlying43 type64 rfl (by decide) (by decide) rfl (by kernel_rfl) (Wd_none rfl) (by decide) (fun p241 => ?_)
          refine ap1 (tCk (ckA tyActive)) 64 (.slice A169 (List.take x0.Active.length ps163).length c170) (List.take x0.Active.length ps163) ((K10, (⟨x1, x0.Store.Now, d118, 0, 0, x2, []⟩ : DActive)) : List Value × DActive) [] [iOwn (tSl (tCk (ckA tyActive)) 64) [.slice A151 x0.Active.length c152] ps163, iCk tyActive ps163, iBox p86 47 [.slice A66 x0.Store.Segments.length c67, .int .i64 x0.Store.Now, .int .i64 x0.Cursor, .slice A70 x0.Order.length c71, .slice A169 (List.take x0.Active.length ps163).length c170, .slice A78 x0.Done.length c79, .slice A82 x0.Ledger.length c83, .int .i64 x0.Steps], iBox p110 64 K10, I20, I21, I15, I16, I18, I19, iBox p59 47 K7, iBox p58 34 K8, I22] K10 (fun W hm => hm) (fun _ _ hs => by cases (Sep.nil hs); exact (els_ck1 rfl rfl)) underlying43 type64 (show ((List.take x0.Active.length ps163).length + 1) * 144 ≤ 140737488355328 from by first | omega | (simp only [List.length_append, List.length_cons, List.length_nil, List.length_take] at *; omega)) (fun v242 => ?_)
          refine WM_form (n := 0) rfl ?_
          rintro A243 c244 rfl m245
          refine wv (vf underlying47 rfl type43) ?_
          refine sb 4 [.slice A66 x0.Store.Segments.length c67, .int .i64 x0.Store.Now, .int .i64 x0.Cursor, .slice A70 x0.Order.length c71, .slice A243 ((List.take x0.Active.length ps163) ++ [((K10, (⟨x1, x0.Store.Now, d118, 0, 0, x2, []⟩ : DActive)) : List Value × DActive)]).length c244, .slice A78 x0.Done.length c79, .slice A82 x0.Ledger.length c83, .int .i64 x0.Steps] [iOwn (tSl (tCk (ckA tyActive)) 64) [.slice A243 ((List.take x0.Active.length ps163) ++ [((K10, (⟨x1, x0.Store.Now, d118, 0, 0, x2, []⟩ : DActive)) : List Value × DActive)]).length c244] ((List.take x0.Active.length ps163) ++ [((K10, (⟨x1, x0.Store.Now, d118, 0, 0, x2, []⟩ : DActive)) : List Value × DActive)]), iOwn (tSl (tCk (ckA tyActive)) 64) [.slice A151 x0.Active.length c152] ps163, iCk tyActive ps163, iBox p110 64 K10, I20, I21, I15, I16, I18, I19, iBox p59 47 K7, iBox p58 34 K8, I22] (pk [3, 0, 1, 2, 4, 5, 6, 7, 8, 9, 10, 11, 12, 13]) type43 ?_
          refine nt' (CM_seq ?_)
          refine CM_items (pk [0, 1, 3, 5, 6, 7, 8, 9, 10, 11, 13]) ?_
          refine CM_region ?_
          refine wv (fun W hm => rv_loadN (cs := [.slice A66 x0.Store.Segments.length c67, .int .i64 x0.Store.Now, .int .i64 x0.Cursor, .slice A70 x0.Order.length c71, .slice A243 ((List.take x0.Active.length ps163) ++ [((K10, (⟨x1, x0.Store.Now, d118, 0, 0, x2, []⟩ : DActive)) : List Value × DActive)]).length c244, .slice A78 x0.Done.length c79, .slice A82 x0.Ledger.length c83, .int .i64 x0.Steps]) underlying47 type47 rfl rfl (hm.boxCells (n := 0) rfl)) ?_
          refine sb 0 [.slice A66 x0.Store.Segments.length c67, .int .i64 x0.Store.Now, .int .i64 x0.Cursor, .slice A70 x0.Order.length c71, .slice A243 ((List.take x0.Active.length ps163) ++ [((K10, (⟨x1, x0.Store.Now, d118, 0, 0, x2, []⟩ : DActive)) : List Value × DActive)]).length c244, .slice A78 x0.Done.length c79, .slice A82 x0.Ledger.length c83, .int .i64 x0.Steps] [iBox p86 47 [.slice A66 x0.Store.Segments.length c67, .int .i64 x0.Store.Now, .int .i64 x0.Cursor, .slice A70 x0.Order.length c71, .slice A243 ((List.take x0.Active.length ps163) ++ [((K10, (⟨x1, x0.Store.Now, d118, 0, 0, x2, []⟩ : DActive)) : List Value × DActive)]).length c244, .slice A78 x0.Done.length c79, .slice A82 x0.Ledger.length c83, .int .i64 x0.Steps], iOwn (tSl (tCk (ckA tyActive)) 64) [.slice A243 ((List.take x0.Active.length ps163) ++ [((K10, (⟨x1, x0.Store.Now, d118, 0, 0, x2, []⟩ : DActive)) : List Value × DActive)]).length c244] ((List.take x0.Active.length ps163) ++ [((K10, (⟨x1, x0.Store.Now, d118, 0, 0, x2, []⟩ : DActive)) : List Value × DActive)]), iCk tyActive ps163, I20, I21, I15, I16, I18, I19, I22] (pk [9, 0, 1, 2, 3, 4, 5, 6, 7, 8, 10]) type47 ?_
          refine wa (nt' (CM_ret ?_))
          rw [take_drop0 (show x0.Active.length = ps163.length from by omega)]
          refine QM_items (fun W hm => hm.addNil (E := tyRow) (e := 73)) ?_
          refine QM_items (fun W hm => Mem.ckInsert hps164 (Mem.join (is := [I20, I21, I22, iOwn (tSl tyRow 73) [.slice none 0 0] []]) (js := (iOwn (tSl (tCk (ckA tyActive)) 64) [.slice A243 (((List.take x0.Active.length ps163) ++ [((K10, (⟨x1, x0.Store.Now, d118, 0, 0, x2, []⟩ : DActive)) : List Value × DActive)]) ++ List.drop x0.Active.length ps163).length c244] (((List.take x0.Active.length ps163) ++ [((K10, (⟨x1, x0.Store.Now, d118, 0, 0, x2, []⟩ : DActive)) : List Value × DActive)]) ++ List.drop x0.Active.length ps163) :: iCk tyActive ps163 :: [iBox p59 47 [.slice A66 x0.Store.Segments.length c67, .int .i64 x0.Store.Now, .int .i64 x0.Cursor, .slice A70 x0.Order.length c71, .slice A243 (((List.take x0.Active.length ps163) ++ [((K10, (⟨x1, x0.Store.Now, d118, 0, 0, x2, []⟩ : DActive)) : List Value × DActive)]) ++ List.drop x0.Active.length ps163).length c244, .slice A78 x0.Done.length c79, .slice A82 x0.Ledger.length c83, .int .i64 x0.Steps], iBox p86 47 [.slice A66 x0.Store.Segments.length c67, .int .i64 x0.Store.Now, .int .i64 x0.Cursor, .slice A70 x0.Order.length c71, .slice A243 (((List.take x0.Active.length ps163) ++ [((K10, (⟨x1, x0.Store.Now, d118, 0, 0, x2, []⟩ : DActive)) : List Value × DActive)]) ++ List.drop x0.Active.length ps163).length c244, .slice A78 x0.Done.length c79, .slice A82 x0.Ledger.length c83, .int .i64 x0.Steps], I15, I16, I18, I19])) (fun _ _ hs => tyActive_join (x := (⟨x1, x0.Store.Now, d118, 0, 0, x2, []⟩ : DActive)) hs) (hm.pick [5, 6, 11, 0, 3, 4, 1, 2, 7, 8, 9, 10] (by decide)))) ?_
          have hl248 : (((List.take x0.Active.length ps163) ++ [((K10, (⟨x1, x0.Store.Now, d118, 0, 0, x2, []⟩ : DActive)) : List Value × DActive)]) ++ List.drop x0.Active.length ps163).length = ((List.take x0.Active.length x0.Active ++ [(⟨x1, x0.Store.Now, d118, 0, 0, x2, []⟩ : DActive)]) ++ List.drop x0.Active.length x0.Active).length := by rw [← hps164]; simp only [List.length_append, List.length_take, List.length_drop, List.length_map, List.length_cons, List.length_nil]
          rw [hl248]
          have he249 := (show spec_AdmitQuery_m x0 x1 x2 = ((⟨x0.Store, x0.Cursor, x0.Order, ((List.take x0.Active.length x0.Active ++ [(⟨x1, x0.Store.Now, d118, 0, 0, x2, []⟩ : DActive)]) ++ List.drop x0.Active.length x0.Active), x0.Done, x0.Ledger, x0.Steps⟩ : DEngine), true) from cond_t g88 (cond_t g90 (cond_t g92 (cond_f g94 (cond_f g97 (fin_inr hE134 (fin_inr hE231 (cond_f g234 (rfl)))))))))
          refine QM_r2 rfl (RR_cell (n := 1) rfl rfl underlying47 type47 rfl) (RR_tmp rfl) (fun W hm => ⟨[.slice A66 x0.Store.Segments.length c67, .int .i64 x0.Store.Now, .int .i64 x0.Cursor, .slice A70 x0.Order.length c71, .slice A243 ((List.take x0.Active.length x0.Active ++ [(⟨x1, x0.Store.Now, d118, 0, 0, x2, []⟩ : DActive)]) ++ List.drop x0.Active.length x0.Active).length c244, .slice A78 x0.Done.length c79, .slice A82 x0.Ledger.length c83, .int .i64 x0.Steps], ?_, ?_⟩)
          ·first | rw [he249] | rfl
           try rfl
          ·rw [he249]; exact Mem.join (is := [I15, I16, iOwn (tSl tyActive 64) [.slice A243 ((List.take x0.Active.length x0.Active ++ [(⟨x1, x0.Store.Now, d118, 0, 0, x2, []⟩ : DActive)]) ++ List.drop x0.Active.length x0.Active).length c244] ((List.take x0.Active.length x0.Active ++ [(⟨x1, x0.Store.Now, d118, 0, 0, x2, []⟩ : DActive)]) ++ List.drop x0.Active.length x0.Active), I18, I19]) (js := []) (fun _ _ hs => tyEngine_join (x := (⟨x0.Store, x0.Cursor, x0.Order, ((List.take x0.Active.length x0.Active ++ [(⟨x1, x0.Store.Now, d118, 0, 0, x2, []⟩ : DActive)]) ++ List.drop x0.Active.length x0.Active), x0.Done, x0.Ledger, x0.Steps⟩ : DEngine)) hs) (hm.pick [3, 4, 0, 5, 6] (by decide))
      ·
       refine qtD 9 0 1 rfl (fun W hm => rv_loadN (cs := K8) underlying34 type34 rfl rfl (hm.boxCells (n := 7) rfl)) ?_
       refine qtD 9 2 5 rfl (vf underlying47 rfl type42) ?_
       refine qtD 9 3 13 rfl (fun W hm => rv_fieldA (o := 1) underlying42 rfl type3 (by decide) rfl rfl) ?_
       refine qtD 9 4 29 rfl (vl 8 1 underlying3) ?_
       refine qtD 9 5 61 rfl vmv ?_
       refine qaD [1, 7] ?_
       refine qcD 9 63 rfl ?_ ?_
       ·
        refine wcs tyQuery x1 (cl_fn cb129 rfl) (fun W hm => spec_l6Query_c2 W _ x1 (tyQuery_mk (x := x1) (hm.rdS0 r44) (hm.rdS0 r49)) s_1) (fun z250 => ?_)
        refine tyQuery_sp ?_
        rintro ⟨v251, v252⟩ rfl
        refine WM_form (n := 0) rfl ?_
        rintro A253 c254 rfl m255
        refine WM_form (n := 1) rfl ?_
        rintro A257 c258 rfl m259
        refine qnD (pk [2, 3, 4, 5, 6, 7, 8, 9, 10]) (pk [2, 3, 4, 5, 6, 7, 8, 9, 10]) ?_
        refine qtD 9 6 127 rfl (fun W hm => rv_build (cs := [.int .i64 x1.Id, .int .i64 x1.Tenant, .slice A253 x1.Conds.length c254, .slice A257 x1.Out.length c258, .int .i64 x0.Store.Now, .slice none 0 0, .int .i64 0, .int .i64 0, .int .i64 x2, .slice none 0 0]) rfl (by kernel_rfl)) ?_
        refine qoD 9 7 255 rfl ?_
        refine WM_alloc type64 rfl (Wd_none rfl) (by decide) (fun p261 => ?_)
        refine qnD (pk [3, 4, 5, 6, 7, 8, 9, 10, 11]) (pk [3, 4, 5, 6, 7, 8, 9, 10, 11]) ?_
        exact QD_sub sl6 (fun W hm => hm) (H (A253, c254, A257, c258, p261))
       refine qcD 9 189 rfl ?_ ?_
       ·
        refine WM_alloc type64 rfl (Wd_none rfl) (by decide) (fun p262 => ?_)
        refine qnD (pk [1, 2, 3, 4, 5, 6, 7, 8, 9]) (pk [1, 2, 3, 4, 5, 6, 7, 8, 9]) ?_
        refine qoD 9 1 191 rfl ?_
        refine wcs tyQuery x1 (cl_fn cb129 rfl) (fun W hm => spec_l6Query_c2 W _ x1 (tyQuery_mk (x := x1) (hm.rdS0 r44) (hm.rdS0 r49)) s_1) (fun z263 => ?_)
        refine tyQuery_sp ?_
        rintro ⟨v264, v265⟩ rfl
        refine WM_form (n := 0) rfl ?_
        rintro A266 c267 rfl m268
        refine WM_form (n := 1) rfl ?_
        rintro A270 c271 rfl m272
        refine qnD (pk [3, 4, 5, 6, 7, 8, 9, 10, 11]) (pk [3, 4, 5, 6, 7, 8, 9, 10, 11]) ?_
        refine qtD 9 6 255 rfl (fun W hm => rv_build (cs := [.int .i64 x1.Id, .int .i64 x1.Tenant, .slice A266 x1.Conds.length c267, .slice A270 x1.Out.length c271, .int .i64 x0.Store.Now, .slice none 0 0, .int .i64 0, .int .i64 0, .int .i64 x2, .slice none 0 0]) rfl (by kernel_rfl)) ?_
        exact QD_sub sl6 (pk [2, 0, 1, 3, 4, 5, 6, 7, 8, 9, 10, 11]) (H (A266, c267, A270, c271, p262))
       exact QDs_nil
   ·
    refine ws (nf g92) ?_
    refine ws (nf g92) ?_
    refine ws (nf g92) ?_
    refine ws (nf g92) ?_
    refine ws (nf g92) ?_
    refine wv (vpT (nf g92)) ?_
    refine wm ?_
    refine wk ?_
    refine wk ?_
    refine wk ?_
    refine wk ?_
    refine wv (vpT rfl) ?_
    refine nt' ?_
    refine CM_condT rfl rfl ?_
    refine sr ?_
    refine wv (fun W hm => rv_loadN (cs := K6) underlying47 type47 rfl rfl (hm.boxCells (n := 0) rfl)) ?_
    refine sb 0 K6 [iBox p86 47 K6, I15, I16, I17, I18, I19, iBox p58 34 K8, iBox p57 47 K5] (pk [6, 0, 1, 2, 3, 4, 5, 7, 8]) type47 ?_
    refine wa (nt' (CM_ret (QM_then_ret ?_)))
    have he274 := (show spec_AdmitQuery_m x0 x1 x2 = (x0, false) from cond_t g88 (cond_t g90 (cond_f g92 (rfl))))
    refine QM_r2 rfl (RR_cell (n := 0) rfl rfl underlying47 type47 rfl) (RR_tmp rfl) (fun W hm => ⟨K6, ?_, ?_⟩)
    ·first | rw [he274] | rfl
     try rfl
    ·rw [he274]; exact Mem.join (is := [I15, I16, I17, I18, I19]) (js := []) (fun _ _ hs => tyEngine_join (x := x0) hs) (hm.pick [2, 3, 4, 5, 6] (by decide))
  ·
   refine ws (nf g90) ?_
   refine ws (nf g90) ?_
   refine ws (nf g90) ?_
   refine wv (vpT (nf g90)) ?_
   refine wm ?_
   refine wk ?_
   refine wk ?_
   refine wk ?_
   refine wk ?_
   refine wk ?_
   refine wv (vpT rfl) ?_
   refine wm ?_
   refine wk ?_
   refine wk ?_
   refine wk ?_
   refine wk ?_
   refine wv (vpT rfl) ?_
   refine nt' ?_
   refine CM_condT rfl rfl ?_
   refine sr ?_
   refine wv (fun W hm => rv_loadN (cs := K6) underlying47 type47 rfl rfl (hm.boxCells (n := 0) rfl)) ?_
   refine sb 0 K6 [iBox p86 47 K6, I15, I16, I17, I18, I19, iBox p58 34 K8, iBox p57 47 K5] (pk [6, 0, 1, 2, 3, 4, 5, 7, 8]) type47 ?_
   refine wa (nt' (CM_ret (QM_then_ret ?_)))
   have he275 := (show spec_AdmitQuery_m x0 x1 x2 = (x0, false) from cond_t g88 (cond_f g90 (rfl)))
   refine QM_r2 rfl (RR_cell (n := 0) rfl rfl underlying47 type47 rfl) (RR_tmp rfl) (fun W hm => ⟨K6, ?_, ?_⟩)
   ·first | rw [he275] | rfl
    try rfl
   ·rw [he275]; exact Mem.join (is := [I15, I16, I17, I18, I19]) (js := []) (fun _ _ hs => tyEngine_join (x := x0) hs) (hm.pick [2, 3, 4, 5, 6] (by decide))
 ·
  refine ws (nf g88) ?_
  refine ws (nf g88) ?_
  refine ws (nf g88) ?_
  refine wv (vpT (nf g88)) ?_
  refine wm ?_
  refine wk ?_
  refine wk ?_
  refine wk ?_
  refine wv (vpT rfl) ?_
  refine wm ?_
  refine wk ?_
  refine wk ?_
  refine wk ?_
  refine wk ?_
  refine wk ?_
  refine wv (vpT rfl) ?_
  refine wm ?_
  refine wk ?_
  refine wk ?_
  refine wk ?_
  refine wk ?_
  refine wv (vpT rfl) ?_
  refine nt' ?_
  refine CM_condT rfl rfl ?_
  refine sr ?_
  refine wv (fun W hm => rv_loadN (cs := K6) underlying47 type47 rfl rfl (hm.boxCells (n := 0) rfl)) ?_
  refine sb 0 K6 [iBox p86 47 K6, I15, I16, I17, I18, I19, iBox p58 34 K8, iBox p57 47 K5] (pk [6, 0, 1, 2, 3, 4, 5, 7, 8]) type47 ?_
  refine wa (nt' (CM_ret (QM_then_ret ?_)))
  have he276 := (show spec_AdmitQuery_m x0 x1 x2 = (x0, false) from cond_f g88 (rfl))
  refine QM_r2 rfl (RR_cell (n := 0) rfl rfl underlying47 type47 rfl) (RR_tmp rfl) (fun W hm => ⟨K6, ?_, ?_⟩)
  ·first | rw [he276] | rfl
   try rfl
  ·rw [he276]; exact Mem.join (is := [I15, I16, I17, I18, I19]) (js := []) (fun _ _ hs => tyEngine_join (x := x0) hs) (hm.pick [2, 3, 4, 5, 6] (by decide))

def impl_copyInts_m (x0 : (List Int)) : (List Int) :=
 x0
theorem cb136 : Cb Tryz.prog 136 := ⟨f136, _, func136, rfl, by decide⟩
theorem impl_copyInts_c (w : World) (z0 : Value) (x0 : (List Int)) (r_0 : rdS tInt w w.heap.size z0 x0) (s_0 : x0.length ≤ 68719476736) :
  Calls Tryz.prog 136 #[z0] w fun e w' => ∃ v : Value, e = .returned (v) ∧ Mem w.heap.size w [iOwn (tSl tInt 3) [v] (impl_copyInts_m x0)] w' := by
 obtain ⟨m1, A2, c3, rfl, q4, r5⟩ := rdS_op r_0
 have l6 : x0.length ≤ 68719476736 := s_0
 refine ce1 (L := [(0, .slice A2 x0.length c3)]) (N := 6) func136 ?_
 refine sr (wa (nt' (sr ?_)))
 refine WM_build0 (E := tInt) underlying25 type3 (Wd_none rfl) (by decide) (fun p7 => ?_)
 refine wm ?_
 refine apR tInt tInt 3 (.slice (some ⟨p7, 0, none⟩) 0 0) [] x0 [] (fun W hm => hm) (fun W hm => src_flat flat_int (hm.rdS0 r5)) underlying25 type3 (show (0 + x0.length) * 8 ≤ 140737488355328 from by omega) (fun v9 => ?_)
 refine WM_form (n := 0) rfl ?_
 rintro A10 c11 rfl m12
 refine wa (nt' (CM_ret ?_))
 have he14 := (show impl_copyInts_m x0 = x0 from rfl)
 refine QM_r1 rfl (RR_tmp rfl) (fun W hm => ⟨.slice A10 x0.length c11, ?_, ?_⟩)
 ·first | rw [he14] | rfl
 ·rw [he14]; exact hm
theorem impl_copyInts_eq (x0 : (List Int)) : impl_copyInts_m x0 = x0 := by
 rfl
theorem impl_copyInts_c2 (w : World) (z0 : Value) (x0 : (List Int)) (r_0 : rdS tInt w w.heap.size z0 x0) (s_0 : x0.length ≤ 68719476736) :
  Calls Tryz.prog 136 #[z0] w fun e w' => ∃ v : Value, e = .returned (v) ∧ Mem w.heap.size w [iOwn (tSl tInt 3) [v] x0] w' := by
 have h := impl_copyInts_c w z0 x0 r_0 s_0
 rw [impl_copyInts_eq] at h
 exact h

def impl_copyStore_b2 (x0 : DStore) (k12 : Nat) (k39 : Nat) (d40 : (List DVersion)) : DStore ⊕ ((List DVersion)) :=
 Sum.inr (d40 ++ [(⟨(gt (gt x0.Segments k12) k39).Id, ((gt (gt x0.Segments k12) k39).Values), (gt (gt x0.Segments k12) k39).Born, (gt (gt x0.Segments k12) k39).Died⟩ : DVersion)])
def impl_copyStore_b1 (x0 : DStore) (k12 : Nat) (d15 : (List (List DVersion))) : DStore ⊕ ((List (List DVersion))) :=
 Sum.elim Sum.inl (fun (s : (List DVersion)) => Sum.inr (d15 ++ [s])) (rng (R := DStore) (fun k (s : (List DVersion)) => impl_copyStore_b2 x0 k12 k s) (((gt x0.Segments k12)).length - 0) 0 [])
def impl_copyStore_m (x0 : DStore) : DStore :=
 Sum.elim id (fun (s : (List (List DVersion))) => (⟨s, x0.Now⟩ : DStore)) (rng (R := DStore) (fun k (s : (List (List DVersion))) => impl_copyStore_b1 x0 k s) (x0.Segments.length - 0) 0 [])
theorem cb173 : Cb Tryz.prog 173 := ⟨f173, _, func173, rfl, by decide⟩
theorem impl_copyStore_c (w : World) (z0 : List Value) (x0 : DStore) (r_0 : tyStore.rd w w.heap.size z0 x0) (s_0 : smStore 68719476736 x0) :
  Calls Tryz.prog 173 #[.agg z0.toArray] w fun e w' => ∃ v : List Value, e = .returned (.agg v.toArray) ∧ Mem w.heap.size w [iOwn tyStore v (impl_copyStore_m x0)] w' := by
 obtain ⟨v1, rfl, r2⟩ := tyStore_rd r_0
 obtain ⟨m3, A4, c5, rfl, q6, r7⟩ := rdS_op r2
 have l8 : x0.Segments.length ≤ 68719476736 := s_0.1
 refine ce1 (L := [(0, .agg #[.slice A4 x0.Segments.length c5, .int .i64 x0.Now])]) (N := 48) func173 ?_
 refine sr ?_
 refine WM_box rfl (Wd_none rfl) (by decide) (fun p9 => ?_)
 refine WM_alloc type42 rfl (Wd_none rfl) (by decide) (fun p10 => ?_)
 refine nt' (sr ?_)
 refine wv (vf underlying42 rfl type3) ?_
 refine wv (vl 1 1 underlying3) ?_
 refine wv (fun W hm => rv_build (cs := [.slice none 0 0, .int .i64 x0.Now]) rfl (by kernel_rfl)) ?_
 refine WM_alloc type42 rfl (Wd_none rfl) (by decide) (fun p11 => ?_)
 let I7 : It := iBox p9 42 [.slice A4 x0.Segments.length c5, .int .i64 x0.Now]
 refine sb 0 [.slice none 0 0, .int .i64 x0.Now] [iBox p10 42 [.slice none 0 0, .int .i64 0], I7] (fun W hm => hm) type42 ?_
 refine nt' (CM_seq (sr ?_))
 refine wv (vf underlying42 rfl type40) ?_
 refine wv (vl 2 0 underlying40) ?_
 refine wv (vlen underlying40) ?_
 refine wm (nt' (CM_block ?_))
 refine CM_items (fun W hm => (hm.addNil (E := (tSl tyVersion 191)) (e := 131)).last) ?_
 let F1 := fun k (s : (List (List DVersion))) => impl_copyStore_b1 x0 k s
 let R3 := rng (R := DStore) F1
 refine CM_loop (σ := Nat × ((List (List DVersion))) × (Option Addr × Nat)) (fun s => [(2, .pointer (some (⟨p10, 0, none⟩ : Addr))), (3, .pointer (some (⟨p11, 0, none⟩ : Addr))), (13, .slice A4 x0.Segments.length c5), (14, .int .i64 ((x0.Segments.length : Nat) : Int)), (15, .int .i64 ((s.1 : Nat) : Int))]) (fun s => [iBox p11 42 [.slice s.2.2.1 s.2.1.length s.2.2.2, .int .i64 x0.Now], iBox p10 42 [.slice none 0 0, .int .i64 0], I7, iOwn (tSl (tSl tyVersion 191) 131) [.slice s.2.2.1 s.2.1.length s.2.2.2] s.2.1]) (fun s => s.1 ≤ x0.Segments.length ∧ R3 (x0.Segments.length - s.1) s.1 s.2.1 = R3 (x0.Segments.length - 0) 0 [] ∧ s.2.1.length ≤ 0 + s.1) (fun s => x0.Segments.length - s.1) (0, [], (none, 0)) sl5 (fun W hm => hm) ⟨(by omega), rfl, Nat.le_refl _⟩ ?_
 rintro ⟨k12, d15, ⟨A16, c17⟩⟩ H20
 obtain ⟨hk18, hF19, hi21⟩ : k12 ≤ x0.Segments.length ∧ R3 (x0.Segments.length - k12) k12 d15 = R3 (x0.Segments.length - 0) 0 [] ∧ d15.length ≤ 0 + k12 := H20
 let I8 : It := iBox p11 42 [.slice A16 d15.length c17, .int .i64 x0.Now]
 let I9 : It := iOwn (tSl (tSl tyVersion 191) 131) [.slice A16 d15.length c17] d15
 show CM Tryz.prog 48 _ _ _ _ [(2, .pointer (some (⟨p10, 0, none⟩ : Addr))), (3, .pointer (some (⟨p11, 0, none⟩ : Addr))), (13, .slice A4 x0.Segments.length c5), (14, .int .i64 ((x0.Segments.length : Nat) : Int)), (15, .int .i64 ((k12 : Nat) : Int))] [I8, iBox p10 42 [.slice none 0 0, .int .i64 0], I7, I9]
 refine sr ?_
 refine wv vlss ?_
 refine nt' (CM_seq ?_)
 by_cases hl22 : k12 < x0.Segments.length
 ·have g23 := dlT hl22
  refine CM_condT rfl g23 ?_
  refine CM_skip (QM_then (CM_seq (CM_block (sr ?_))))
  obtain ⟨a24, rfl, hb25, he26⟩ := q6 (by omega)
  refine wv (vix 1 k12 underlying40 type131) ?_
  obtain ⟨_, e28, hc27⟩ := he26 k12 _ (gt_some (show k12 < x0.Segments.length from by omega))
  have l29 : (gt x0.Segments k12).length ≤ 68719476736 := (s_0.2 _ (gt_mem (show k12 < x0.Segments.length from by omega))).1
  obtain ⟨v30, rfl, r31⟩ := e28
  obtain ⟨m32, A33, c34, rfl, q35, r36⟩ := rdS_op r31
  refine wv (fun W hm => rv_load underlying131 rfl rfl ((hm.cell0 (show (a24.add (k12 * 1)).block < w.heap.size from by rw [add_block]; exact hb25.1)).trans (hc27 0 _ rfl))) ?_
  refine wa (nt' (sr ?_))
  refine WM_build0 (E := tyVersion) underlying131 type191 (Wd_none rfl) (by decide) (fun p37 => ?_)
  refine wa (nt' (CM_seq (sr (wm ?_))))
  refine wv (vlen underlying131) ?_
  refine wm (nt' (CM_block ?_))
  let F2 := fun k (s : (List DVersion)) => impl_copyStore_b2 x0 k12 k s
  let R4 := rng (R := DStore) F2
  let I10 : It := iBox p9 42 [.slice (some a24) x0.Segments.length c5, .int .i64 x0.Now]
  refine CM_loop (σ := Nat × ((List DVersion)) × (Option Addr × Nat)) (fun s => [(2, .pointer (some (⟨p10, 0, none⟩ : Addr))), (3, .pointer (some (⟨p11, 0, none⟩ : Addr))), (6, .slice s.2.2.1 s.2.1.length s.2.2.2), (13, .slice (some a24) x0.Segments.length c5), (14, .int .i64 ((x0.Segments.length : Nat) : Int)), (15, .int .i64 ((k12 : Nat) : Int)), (20, .slice A33 ((gt x0.Segments k12)).length c34), (21, .int .i64 ((((gt x0.Segments k12)).length : Nat) : Int)), (22, .int .i64 ((s.1 : Nat) : Int))]) (fun s => [iOwn (tSl tyVersion 191) [.slice s.2.2.1 s.2.1.length s.2.2.2] s.2.1, I8, iBox p10 42 [.slice none 0 0, .int .i64 0], I10, I9]) (fun s => s.1 ≤ ((gt x0.Segments k12)).length ∧ R4 (((gt x0.Segments k12)).length - s.1) s.1 s.2.1 = R4 (((gt x0.Segments k12)).length - 0) 0 [] ∧ s.2.1.length ≤ 0 + s.1) (fun s => ((gt x0.Segments k12)).length - s.1) (0, [], ((some ⟨p37, 0, none⟩), 0)) sl9 (fun W hm => hm) ⟨(by omega), rfl, Nat.le_refl _⟩ ?_
  rintro ⟨k39, d40, ⟨A41, c42⟩⟩ H45
  obtain ⟨hk43, hF44, hi46⟩ : k39 ≤ ((gt x0.Segments k12)).length ∧ R4 (((gt x0.Segments k12)).length - k39) k39 d40 = R4 (((gt x0.Segments k12)).length - 0) 0 [] ∧ d40.length ≤ 0 + k39 := H45
  let I11 : It := iOwn (tSl tyVersion 191) [.slice A41 d40.length c42] d40
  show CM Tryz.prog 48 _ _ _ _ [(2, .pointer (some (⟨p10, 0, none⟩ : Addr))), (3, .pointer (some (⟨p11, 0, none⟩ : Addr))), (6, .slice A41 d40.length c42), (13, .slice (some a24) x0.Segments.length c5), (14, .int .i64 ((x0.Segments.length : Nat) : Int)), (15, .int .i64 ((k12 : Nat) : Int)), (20, .slice A33 ((gt x0.Segments k12)).length c34), (21, .int .i64 ((((gt x0.Segments k12)).length : Nat) : Int)), (22, .int .i64 ((k39 : Nat) : Int))] [I11, I8, iBox p10 42 [.slice none 0 0, .int .i64 0], I10, I9]
  refine sr ?_
  refine wv vlss ?_
  refine nt' (CM_seq ?_)
  by_cases hl47 : k39 < ((gt x0.Segments k12)).length
  ·have g48 := dlT hl47
   refine CM_condT rfl g48 ?_
   refine CM_skip (QM_then (CM_seq (CM_block (sr ?_))))
   obtain ⟨a49, rfl, hb50, he51⟩ := q35 (by omega)
   refine wv (vix 4 k39 underlying131 type191) ?_
   obtain ⟨_, e55, hc52⟩ := he51 k39 _ (gt_some (show k39 < ((gt x0.Segments k12)).length from by omega))
   obtain ⟨v53, rfl, r54⟩ := tyVersion_rd e55
   have l56 : ((gt (gt x0.Segments k12) k39).Values).length ≤ 68719476736 := ((s_0.2 _ (gt_mem (show k12 < x0.Segments.length from by omega))).2 _ (gt_mem (show k39 < ((gt x0.Segments k12)).length from by omega)))
   obtain ⟨m57, A58, c59, rfl, q60, r61⟩ := rdS_op r54
   let K5 : List Value := [.int .i64 ((gt (gt x0.Segments k12) k39).Id), .slice A58 ((gt (gt x0.Segments k12) k39).Values).length c59, .int .i64 ((gt (gt x0.Segments k12) k39).Born), .int .i64 ((gt (gt x0.Segments k12) k39).Died)]
   refine wv (fun W hm => rv_loadN (cs := K5) underlying191 type191 rfl rfl (hm.elCells (show (a49.add (k39 * 4)).block < w.heap.size from by rw [add_block]; exact hb50.1) hc52)) ?_
   refine WM_alloc type191 rfl (Wd_none rfl) (by decide) (fun p62 => ?_)
   refine sb 0 K5 [I11, I8, iBox p10 42 [.slice none 0 0, .int .i64 0], I10, I9] (fun W hm => hm) type191 ?_
   refine nt' ?_
   refine rb 14 (s := [iBox p62 191 K5, I8, iBox p10 42 [.slice none 0 0, .int .i64 0], I10, I9]) (pk [0, 2, 3, 4, 5]) ?_
   refine qt 14 0 1 rfl vmv ?_
   refine qt 14 1 3 rfl (vf underlying191 rfl type3) ?_
   refine qt 14 2 7 rfl (vl 0 0 underlying3) ?_
   refine qt 14 3 15 rfl (vf underlying191 rfl type25) ?_
   refine qt 14 4 31 rfl (vl 0 1 underlying25) ?_
   refine qt 14 6 95 rfl (vf underlying191 rfl type3) ?_
   refine qt 14 7 223 rfl (vl 0 2 underlying3) ?_
   refine qt 14 8 479 rfl (vf underlying191 rfl type3) ?_
   refine qt 14 9 991 rfl (vl 0 3 underlying3) ?_
   refine qo 14 5 1023 rfl ?_
   refine wcl (tSl tInt 3) ((gt (gt x0.Segments k12) k39).Values) (cl_fn cb136 rfl) (fun W hm => impl_copyInts_c2 W _ ((gt (gt x0.Segments k12) k39).Values) (hm.rdS0 r61) ((s_0.2 _ (gt_mem (show k12 < x0.Segments.length from by omega))).2 _ (gt_mem (show k39 < ((gt x0.Segments k12)).length from by omega)))) (fun z63 => ?_)
   refine WM_form (n := 0) rfl ?_
   rintro A64 c65 rfl m66
   refine qn (pk [1, 3, 4, 5, 6]) ?_
   let K6 : List Value := [.int .i64 ((gt (gt x0.Segments k12) k39).Id), .slice A64 ((gt (gt x0.Segments k12) k39).Values).length c65, .int .i64 ((gt (gt x0.Segments k12) k39).Born), .int .i64 ((gt (gt x0.Segments k12) k39).Died)]
   refine qt 14 10 2047 rfl (fun W hm => rv_build (cs := K6) rfl (by kernel_rfl)) ?_
   refine qo 14 11 4095 rfl ?_
   refine WM_build (cs := K6) underlying131 type191 rfl (by decide) (by decide) rfl (by kernel_rfl) (Wd_none rfl) (by decide) (fun p68 => ?_)
   refine qn (pk [2, 4, 5, 6, 7]) ?_
   refine qo 14 12 8191 rfl ?_
   refine ap1 tyVersion 191 (.slice A41 d40.length c42) d40 (⟨(gt (gt x0.Segments k12) k39).Id, ((gt (gt x0.Segments k12) k39).Values), (gt (gt x0.Segments k12) k39).Born, (gt (gt x0.Segments k12) k39).Died⟩ : DVersion) [iOwn (tSl tInt 3) [.slice A64 ((gt (gt x0.Segments k12) k39).Values).length c65] ((gt (gt x0.Segments k12) k39).Values)] [iBox p62 191 K5, I8, iBox p10 42 [.slice none 0 0, .int .i64 0], I10, I9] K6 (pk [0, 3, 1, 2, 4, 5, 6, 7]) (fun _ _ hs => Els.single (tyVersion_join (x := (⟨(gt (gt x0.Segments k12) k39).Id, ((gt (gt x0.Segments k12) k39).Values), (gt (gt x0.Segments k12) k39).Born, (gt (gt x0.Segments k12) k39).Died⟩ : DVersion)) hs)) underlying131 type191 (show (d40.length + 1) * 48 ≤ 140737488355328 from by omega) (fun v69 => ?_)
   refine WM_form (n := 0) rfl ?_
   rintro A70 c71 rfl m72
   refine qn (pk [1, 2, 3, 4, 5]) ?_
   refine qt 14 13 16383 rfl (fun W hm => rv_assign rfl) ?_
   refine QB_done (by kernel_rfl) ?_
   refine QM_block_normal (QM_then (CM_region ?_))
   refine wv (vadN k39 1 (by omega)) ?_
   refine wm (WM_nil ?_)
   have hn74 := rng_next (R := DStore) (body := F2) (k := k39) (s := d40) (s' := (d40 ++ [(⟨(gt (gt x0.Segments k12) k39).Id, ((gt (gt x0.Segments k12) k39).Values), (gt (gt x0.Segments k12) k39).Born, (gt (gt x0.Segments k12) k39).Died⟩ : DVersion)])) (show k39 < ((gt x0.Segments k12)).length from by omega) (rfl) hF44
   exact QM_round (k39 + 1, (d40 ++ [(⟨(gt (gt x0.Segments k12) k39).Id, ((gt (gt x0.Segments k12) k39).Values), (gt (gt x0.Segments k12) k39).Born, (gt (gt x0.Segments k12) k39).Died⟩ : DVersion)]), (A70, c71)) sl9 (pk [0, 2, 3, 4, 5]) ⟨(by omega), hn74, (show (d40 ++ [(⟨(gt (gt x0.Segments k12) k39).Id, ((gt (gt x0.Segments k12) k39).Values), (gt (gt x0.Segments k12) k39).Born, (gt (gt x0.Segments k12) k39).Died⟩ : DVersion)]).length ≤ 0 + (k39 + 1) from by first | omega | (simp only [List.length_append, List.length_cons, List.length_nil] at *; omega))⟩ (show ((gt x0.Segments k12)).length - (k39 + 1) < ((gt x0.Segments k12)).length - k39 from by omega)
  ·have g48 := dlF hl47
   refine CM_condF rfl g48 ?_
   refine CM_exit (QM_then_exit (QM_then_exit ?_))
   have hE75 : R4 (((gt x0.Segments k12)).length - 0) 0 [] = Sum.inr d40 := rng_end hl47 hF44
   refine QM_block_hit (QM_then (CM_region ?_))
   refine wv (vf underlying42 rfl type40) ?_
   refine wv (vl 1 0 underlying40) ?_
   refine wm ?_
   refine WM_build (cs := [.slice A41 d40.length c42]) underlying40 type131 rfl (by decide) (by decide) rfl (by kernel_rfl) (Wd_none rfl) (by decide) (fun p76 => ?_)
   refine ap1 (tSl tyVersion 191) 131 (.slice A16 d15.length c17) d15 d40 [I11] [I8, iBox p10 42 [.slice none 0 0, .int .i64 0], I10] [.slice A41 d40.length c42] (pk [0, 5, 1, 2, 3, 4]) (fun _ _ hs => Els.single (Sep.one hs)) underlying40 type131 (show (d15.length + 1) * 24 ≤ 140737488355328 from by omega) (fun v77 => ?_)
   refine WM_form (n := 0) rfl ?_
   rintro A78 c79 rfl m80
   refine wv (vf underlying42 rfl type40) ?_
   refine sb 0 [.slice A78 (d15 ++ [d40]).length c79, .int .i64 x0.Now] [iOwn (tSl (tSl tyVersion 191) 131) [.slice A78 (d15 ++ [d40]).length c79] (d15 ++ [d40]), iBox p10 42 [.slice none 0 0, .int .i64 0], I10] (pk [1, 0, 2, 3]) type40 ?_
   refine WM_nil (QM_block_normal (QM_then (CM_region ?_)))
   refine wv (vadN k12 1 (by omega)) ?_
   refine wm (WM_nil ?_)
   have hn82 := rng_next (R := DStore) (body := F1) (k := k12) (s := d15) (s' := (d15 ++ [d40])) (show k12 < x0.Segments.length from by omega) (fin_inr hE75 (rfl)) hF19
   exact QM_round (k12 + 1, (d15 ++ [d40]), (A78, c79)) sl5 (pk [0, 2, 3, 1]) ⟨(by omega), hn82, (show (d15 ++ [d40]).length ≤ 0 + (k12 + 1) from by first | omega | (simp only [List.length_append, List.length_cons, List.length_nil] at *; omega))⟩ (rl (by omega))
 ·have g23 := dlF hl22
  refine CM_condF rfl g23 ?_
  refine CM_exit (QM_then_exit (QM_then_exit ?_))
  have hE83 : R3 (x0.Segments.length - 0) 0 [] = Sum.inr d15 := rng_end hl22 hF19
  refine QM_block_hit (QM_then (sr ?_))
  refine wv (fun W hm => rv_loadN (cs := [.slice A16 d15.length c17, .int .i64 x0.Now]) underlying42 type42 rfl rfl (hm.boxCells (n := 0) rfl)) ?_
  refine sb 0 [.slice A16 d15.length c17, .int .i64 x0.Now] [I8, I7, I9] (pk [1, 0, 2, 3]) type42 ?_
  refine nt' (CM_ret ?_)
  have he84 := (show impl_copyStore_m x0 = (⟨d15, x0.Now⟩ : DStore) from fin_inr hE83 (rfl))
  refine QM_r1 rfl (RR_cell (n := 0) rfl rfl underlying42 type42 rfl) (fun W hm => ⟨[.slice A16 d15.length c17, .int .i64 x0.Now], ?_, ?_⟩)
  ·first | rw [he84] | rfl
  ·rw [he84]; exact Mem.join (is := [I9]) (js := []) (fun _ _ hs => tyStore_join (x := (⟨d15, x0.Now⟩ : DStore)) hs) (hm.pick [3] (by decide))
theorem impl_copyStore_eq (x0 : DStore) : impl_copyStore_m x0 = x0 := by
 unfold impl_copyStore_m; rw [rng_app (xs := x0.Segments) (b := fun k s => impl_copyStore_b1 x0 k s) (fun j s => by unfold impl_copyStore_b1; rw [rng_app (xs := gt x0.Segments j) (b := fun k s => impl_copyStore_b2 x0 j k s) (fun _ _ => rfl)]; rfl)]; rfl
theorem impl_copyStore_c2 (w : World) (z0 : List Value) (x0 : DStore) (r_0 : tyStore.rd w w.heap.size z0 x0) (s_0 : smStore 68719476736 x0) :
  Calls Tryz.prog 173 #[.agg z0.toArray] w fun e w' => ∃ v : List Value, e = .returned (.agg v.toArray) ∧ Mem w.heap.size w [iOwn tyStore v x0] w' := by
 have h := impl_copyStore_c w z0 x0 r_0 s_0
 rw [impl_copyStore_eq] at h
 exact h

def impl_copyQuery_m (x0 : DQuery) : DQuery :=
 x0
theorem cb126 : Cb Tryz.prog 126 := ⟨f126, _, func126, rfl, by decide⟩
theorem impl_copyQuery_c (w : World) (z0 : List Value) (x0 : DQuery) (r_0 : tyQuery.rd w w.heap.size z0 x0) (s_0 : smQuery 68719476736 x0) :
  Calls Tryz.prog 126 #[.agg z0.toArray] w fun e w' => ∃ v : List Value, e = .returned (.agg v.toArray) ∧ Mem w.heap.size w [iOwn tyQuery v (impl_copyQuery_m x0)] w' := by
 obtain ⟨v1, v3, rfl, r2, r4⟩ := tyQuery_rd r_0
 obtain ⟨m5, A6, c7, rfl, q8, r9⟩ := rdS_op r2
 obtain ⟨m10, A11, c12, rfl, q13, r14⟩ := rdS_op r4
 have l15 : x0.Conds.length ≤ 68719476736 := s_0.1
 have l16 : x0.Out.length ≤ 68719476736 := s_0.2
 refine ce1 (L := [(0, .agg #[.int .i64 x0.Id, .int .i64 x0.Tenant, .slice A6 x0.Conds.length c7, .slice A11 x0.Out.length c12])]) (N := 13) func126 ?_
 refine sr ?_
 refine WM_box rfl (Wd_none rfl) (by decide) (fun p17 => ?_)
 refine WM_alloc type34 rfl (Wd_none rfl) (by decide) (fun p18 => ?_)
 refine nt' (sr ?_)
 refine WM_build0 (E := tyCond) underlying32 type201 (Wd_none rfl) (by decide) (fun p19 => ?_)
 refine wv (vf underlying34 rfl type32) ?_
 refine wv (vl 2 2 underlying32) ?_
 let K1 : List Value := [.int .i64 0, .int .i64 0, .slice none 0 0, .slice none 0 0]
 refine apR tyCond tyCond 201 (.slice (some ⟨p19, 0, none⟩) 0 0) [] x0.Conds [iBox p18 34 K1, iBox p17 34 [.int .i64 x0.Id, .int .i64 x0.Tenant, .slice A6 x0.Conds.length c7, .slice A11 x0.Out.length c12]] (fun W hm => hm) (fun W hm => src_flat (flat_map (flat_pair flat_int (flat_pair flat_int flat_int))) (hm.rdS0 r9)) underlying32 type201 (show (0 + x0.Conds.length) * 24 ≤ 140737488355328 from by omega) (fun v21 => ?_)
 refine WM_form (n := 0) rfl ?_
 rintro A22 c23 rfl m24
 refine wv (vf underlying34 rfl type32) ?_
 let I3 : It := iOwn (tSl tyCond 201) [.slice A22 x0.Conds.length c23] x0.Conds
 refine sb 2 [.int .i64 x0.Id, .int .i64 x0.Tenant, .slice A22 x0.Conds.length c23, .slice A11 x0.Out.length c12] [I3, iBox p18 34 K1] (pk [2, 0, 1]) type32 ?_
 refine nt' (sr ?_)
 refine wv (vf underlying34 rfl type25) ?_
 refine wv (vl 0 3 underlying25) ?_
 refine wcl (tSl tInt 3) x0.Out (cl_fn cb136 rfl) (fun W hm => impl_copyInts_c2 W _ x0.Out (hm.rdS0 r14) s_0.2) (fun z26 => ?_)
 refine WM_form (n := 0) rfl ?_
 rintro A27 c28 rfl m29
 refine wv (vf underlying34 rfl type25) ?_
 let K2 : List Value := [.int .i64 x0.Id, .int .i64 x0.Tenant, .slice A22 x0.Conds.length c23, .slice A27 x0.Out.length c28]
 let I4 : It := iOwn (tSl tInt 3) [.slice A27 x0.Out.length c28] x0.Out
 refine sb 3 K2 [I4, I3, iBox p18 34 K1] (pk [1, 0, 2, 3]) type25 ?_
 refine nt' (sr ?_)
 refine wv (fun W hm => rv_loadN (cs := K2) underlying34 type34 rfl rfl (hm.boxCells (n := 0) rfl)) ?_
 refine sb 0 K2 [iBox p17 34 K2, I4, I3] (pk [3, 0, 1, 2]) type34 ?_
 refine nt' (CM_ret ?_)
 have he31 := (show impl_copyQuery_m x0 = x0 from rfl)
 refine QM_r1 rfl (RR_cell (n := 0) rfl rfl underlying34 type34 rfl) (fun W hm => ⟨K2, ?_, ?_⟩)
 ·first | rw [he31] | rfl
 ·rw [he31]; exact Mem.join (is := [I3, I4]) (js := []) (fun _ _ hs => tyQuery_join (x := x0) hs) (hm.pick [3, 2] (by decide))
theorem impl_copyQuery_eq (x0 : DQuery) : impl_copyQuery_m x0 = x0 := by
 rfl
theorem impl_copyQuery_c2 (w : World) (z0 : List Value) (x0 : DQuery) (r_0 : tyQuery.rd w w.heap.size z0 x0) (s_0 : smQuery 68719476736 x0) :
  Calls Tryz.prog 126 #[.agg z0.toArray] w fun e w' => ∃ v : List Value, e = .returned (.agg v.toArray) ∧ Mem w.heap.size w [iOwn tyQuery v x0] w' := by
 have h := impl_copyQuery_c w z0 x0 r_0 s_0
 rw [impl_copyQuery_eq] at h
 exact h

def impl_copyRow_m (x0 : DRow) : DRow :=
 x0
theorem cb217 : Cb Tryz.prog 217 := ⟨f217, _, func217, rfl, by decide⟩
theorem impl_copyRow_c (w : World) (z0 : List Value) (x0 : DRow) (r_0 : tyRow.rd w w.heap.size z0 x0) (s_0 : smRow 68719476736 x0) :
  Calls Tryz.prog 217 #[.agg z0.toArray] w fun e w' => ∃ v : List Value, e = .returned (.agg v.toArray) ∧ Mem w.heap.size w [iOwn tyRow v (impl_copyRow_m x0)] w' := by
 obtain ⟨v1, rfl, r2⟩ := tyRow_rd r_0
 obtain ⟨m3, A4, c5, rfl, q6, r7⟩ := rdS_op r2
 have l8 : x0.Values.length ≤ 68719476736 := s_0
 refine ce1 (L := [(0, .agg #[.int .i64 x0.Id, .slice A4 x0.Values.length c5])]) (N := 9) func217 ?_
 refine sr ?_
 refine WM_box rfl (Wd_none rfl) (by decide) (fun p9 => ?_)
 refine WM_alloc type73 rfl (Wd_none rfl) (by decide) (fun p10 => ?_)
 refine nt' (CM_seq ?_)
 let I1 : It := iBox p9 73 [.int .i64 x0.Id, .slice A4 x0.Values.length c5]
 refine rd2 7 [6] (s := [I1]) (s2 := [iBox p10 73 [.int .i64 0, .slice none 0 0], I1]) (pk [1]) (fun W hm => hm) ?_
 refine qtD 7 0 1 rfl (vf underlying73 rfl type3) ?_
 refine qtD 7 1 3 rfl (vl 1 0 underlying3) ?_
 refine qtD 7 2 7 rfl (vf underlying73 rfl type25) ?_
 refine qtD 7 3 15 rfl (vl 1 1 underlying25) ?_
 refine qoD 7 4 31 rfl ?_
 refine wcl (tSl tInt 3) x0.Values (cl_fn cb136 rfl) (fun W hm => impl_copyInts_c2 W _ x0.Values (hm.rdS0 r7) s_0) (fun z11 => ?_)
 refine WM_form (n := 0) rfl ?_
 rintro A12 c13 rfl m14
 refine qnD (pk [2]) (pk [1, 2]) ?_
 refine qtD 7 5 63 rfl (fun W hm => rv_build (cs := [.int .i64 x0.Id, .slice A12 x0.Values.length c13]) rfl (by kernel_rfl)) ?_
 refine qoD 7 6 127 rfl ?_
 let I2 : It := iOwn (tSl tInt 3) [.slice A12 x0.Values.length c13] x0.Values
 refine sb 0 [.int .i64 x0.Id, .slice A12 x0.Values.length c13] [I2, I1] (pk [1, 0, 2]) type73 ?_
 refine qxD (pk [2]) ?_
 refine QB_done (by kernel_rfl) ?_
 refine QM_then (CM_ret ?_)
 have he16 := (show impl_copyRow_m x0 = x0 from rfl)
 refine QM_r1 rfl (RR_cell (n := 0) rfl rfl underlying73 type73 rfl) (fun W hm => ⟨[.int .i64 x0.Id, .slice A12 x0.Values.length c13], ?_, ?_⟩)
 ·first | rw [he16] | rfl
 ·rw [he16]; exact Mem.join (is := [I2]) (js := []) (fun _ _ hs => tyRow_join (x := x0) hs) (hm.pick [1] (by decide))
theorem impl_copyRow_eq (x0 : DRow) : impl_copyRow_m x0 = x0 := by
 rfl
theorem impl_copyRow_c2 (w : World) (z0 : List Value) (x0 : DRow) (r_0 : tyRow.rd w w.heap.size z0 x0) (s_0 : smRow 68719476736 x0) :
  Calls Tryz.prog 217 #[.agg z0.toArray] w fun e w' => ∃ v : List Value, e = .returned (.agg v.toArray) ∧ Mem w.heap.size w [iOwn tyRow v x0] w' := by
 have h := impl_copyRow_c w z0 x0 r_0 s_0
 rw [impl_copyRow_eq] at h
 exact h

def impl_copyRows_b1 (x0 : (List DRow)) (k9 : Nat) (d10 : (List DRow)) : (List DRow) ⊕ ((List DRow)) :=
 Sum.inr (d10 ++ [(gt x0 k9)])
def impl_copyRows_m (x0 : (List DRow)) : (List DRow) :=
 Sum.elim id (fun (s : (List DRow)) => s) (rng (R := (List DRow)) (fun k (s : (List DRow)) => impl_copyRows_b1 x0 k s) (x0.length - 0) 0 [])
theorem cb166 : Cb Tryz.prog 166 := ⟨f166, _, func166, rfl, by decide⟩
theorem impl_copyRows_c (w : World) (z0 : Value) (x0 : (List DRow)) (r_0 : rdS tyRow w w.heap.size z0 x0) (s_0 : (x0.length ≤ 68719476736 ∧ ∀ y ∈ x0, smRow 68719476736 y)) :
  Calls Tryz.prog 166 #[z0] w fun e w' => ∃ v : Value, e = .returned (v) ∧ Mem w.heap.size w [iOwn (tSl tyRow 73) [v] (impl_copyRows_m x0)] w' := by
 obtain ⟨m1, A2, c3, rfl, q4, r5⟩ := rdS_op r_0
 have l6 : x0.length ≤ 68719476736 := s_0.1
 refine ce1 (L := [(0, .slice A2 x0.length c3)]) (N := 20) func166 ?_
 refine sr (wa (nt' (sr ?_)))
 refine WM_build0 (E := tyRow) underlying35 type73 (Wd_none rfl) (by decide) (fun p7 => ?_)
 refine wa (nt' (CM_seq (sr (wm ?_))))
 refine wv (vlen underlying35) ?_
 refine wm (nt' (CM_block ?_))
 let F1 := fun k (s : (List DRow)) => impl_copyRows_b1 x0 k s
 let R2 := rng (R := (List DRow)) F1
 refine CM_loop (σ := Nat × ((List DRow)) × (Option Addr × Nat)) (fun s => [(3, .slice s.2.2.1 s.2.1.length s.2.2.2), (7, .slice A2 x0.length c3), (8, .int .i64 ((x0.length : Nat) : Int)), (9, .int .i64 ((s.1 : Nat) : Int))]) (fun s => [iOwn (tSl tyRow 73) [.slice s.2.2.1 s.2.1.length s.2.2.2] s.2.1]) (fun s => s.1 ≤ x0.length ∧ R2 (x0.length - s.1) s.1 s.2.1 = R2 (x0.length - 0) 0 [] ∧ s.2.1.length ≤ 0 + s.1) (fun s => x0.length - s.1) (0, [], ((some ⟨p7, 0, none⟩), 0)) sl4 (fun W hm => hm) ⟨(by omega), rfl, Nat.le_refl _⟩ ?_
 rintro ⟨k9, d10, ⟨A11, c12⟩⟩ H15
 obtain ⟨hk13, hF14, hi16⟩ : k9 ≤ x0.length ∧ R2 (x0.length - k9) k9 d10 = R2 (x0.length - 0) 0 [] ∧ d10.length ≤ 0 + k9 := H15
 let I5 : It := iOwn (tSl tyRow 73) [.slice A11 d10.length c12] d10
 show CM Tryz.prog 20 _ _ _ _ [(3, .slice A11 d10.length c12), (7, .slice A2 x0.length c3), (8, .int .i64 ((x0.length : Nat) : Int)), (9, .int .i64 ((k9 : Nat) : Int))] [I5]
 refine sr ?_
 refine wv vlss ?_
 refine nt' (CM_seq ?_)
 by_cases hl17 : k9 < x0.length
 ·have g18 := dlT hl17
  refine CM_condT rfl g18 ?_
  refine CM_skip (QM_then (CM_seq (CM_block (sr ?_))))
  obtain ⟨a19, rfl, hb20, he21⟩ := q4 (by omega)
  refine wv (vix 2 k9 underlying35 type73) ?_
  obtain ⟨_, e25, hc22⟩ := he21 k9 _ (gt_some (show k9 < x0.length from by omega))
  obtain ⟨v23, rfl, r24⟩ := tyRow_rd e25
  have l26 : ((gt x0 k9).Values).length ≤ 68719476736 := (s_0.2 _ (gt_mem (show k9 < x0.length from by omega)))
  obtain ⟨m27, A28, c29, rfl, q30, r31⟩ := rdS_op r24
  let K3 : List Value := [.int .i64 ((gt x0 k9).Id), .slice A28 ((gt x0 k9).Values).length c29]
  refine wv (fun W hm => rv_loadN (cs := K3) underlying73 type73 rfl rfl (hm.elCells (show (a19.add (k9 * 2)).block < w.heap.size from by rw [add_block]; exact hb20.1) hc22)) ?_
  refine WM_alloc type73 rfl (Wd_none rfl) (by decide) (fun p32 => ?_)
  refine sb 0 K3 [I5] (fun W hm => hm) type73 ?_
  refine nt' (CM_region (wm ?_))
  refine wv (fun W hm => rv_loadN (cs := K3) underlying73 type73 rfl rfl (hm.boxCells (n := 0) rfl)) ?_
  refine wcs tyRow (gt x0 k9) (cl_fn cb217 rfl) (fun W hm => impl_copyRow_c2 W _ (gt x0 k9) (tyRow_mk (x := (gt x0 k9)) (hm.rdS0 r31)) (s_0.2 _ (gt_mem (show k9 < x0.length from by omega)))) (fun z33 => ?_)
  refine tyRow_sp ?_
  rintro v34 rfl
  refine WM_form (n := 0) rfl ?_
  rintro A35 c36 rfl m37
  let K4 : List Value := [.int .i64 ((gt x0 k9).Id), .slice A35 ((gt x0 k9).Values).length c36]
  refine WM_build (cs := K4) underlying35 type73 rfl (by decide) (by decide) rfl (by kernel_rfl) (Wd_none rfl) (by decide) (fun p39 => ?_)
  refine ap1 tyRow 73 (.slice A11 d10.length c12) d10 (gt x0 k9) [iOwn (tSl tInt 3) [.slice A35 ((gt x0 k9).Values).length c36] ((gt x0 k9).Values)] [iBox p32 73 K3] K4 (pk [0, 3, 1, 2]) (fun _ _ hs => Els.single (tyRow_join (x := (gt x0 k9)) hs)) underlying35 type73 (show (d10.length + 1) * 32 ≤ 140737488355328 from by omega) (fun v40 => ?_)
  refine WM_form (n := 0) rfl ?_
  rintro A41 c42 rfl m43
  refine wa (WM_nil (QM_block_normal (QM_then (CM_region ?_))))
  refine wv (vadN k9 1 (by omega)) ?_
  refine wm (WM_nil ?_)
  have hn45 := rng_next (R := (List DRow)) (body := F1) (k := k9) (s := d10) (s' := (d10 ++ [(gt x0 k9)])) (show k9 < x0.length from by omega) (rfl) hF14
  exact QM_round (k9 + 1, (d10 ++ [(gt x0 k9)]), (A41, c42)) sl4 (pk [0]) ⟨(by omega), hn45, (show (d10 ++ [(gt x0 k9)]).length ≤ 0 + (k9 + 1) from by first | omega | (simp only [List.length_append, List.length_cons, List.length_nil] at *; omega))⟩ (rl (by omega))
 ·have g18 := dlF hl17
  refine CM_condF rfl g18 ?_
  refine CM_exit (QM_then_exit (QM_then_exit ?_))
  have hE46 : R2 (x0.length - 0) 0 [] = Sum.inr d10 := rng_end hl17 hF14
  refine QM_block_hit (QM_then (sr (wm (wa (nt' (CM_ret ?_))))))
  have he47 := (show impl_copyRows_m x0 = d10 from fin_inr hE46 (rfl))
  refine QM_r1 rfl (RR_tmp rfl) (fun W hm => ⟨.slice A11 d10.length c12, ?_, ?_⟩)
  ·first | rw [he47] | rfl
  ·rw [he47]; exact hm
theorem impl_copyRows_eq (x0 : (List DRow)) : impl_copyRows_m x0 = x0 := by
 unfold impl_copyRows_m; rw [rng_app (xs := x0) (b := fun k s => impl_copyRows_b1 x0 k s) (fun _ _ => rfl)]; rfl
theorem impl_copyRows_c2 (w : World) (z0 : Value) (x0 : (List DRow)) (r_0 : rdS tyRow w w.heap.size z0 x0) (s_0 : (x0.length ≤ 68719476736 ∧ ∀ y ∈ x0, smRow 68719476736 y)) :
  Calls Tryz.prog 166 #[z0] w fun e w' => ∃ v : Value, e = .returned (v) ∧ Mem w.heap.size w [iOwn (tSl tyRow 73) [v] x0] w' := by
 have h := impl_copyRows_c w z0 x0 r_0 s_0
 rw [impl_copyRows_eq] at h
 exact h

def impl_copyActive_m (x0 : DActive) : DActive :=
 x0
theorem cb174 : Cb Tryz.prog 174 := ⟨f174, _, func174, rfl, by decide⟩
theorem impl_copyActive_c (w : World) (z0 : List Value) (x0 : DActive) (r_0 : tyActive.rd w w.heap.size z0 x0) (s_0 : smActive 68719476736 x0) :
  Calls Tryz.prog 174 #[.agg z0.toArray] w fun e w' => ∃ v : List Value, e = .returned (.agg v.toArray) ∧ Mem w.heap.size w [iOwn tyActive v (impl_copyActive_m x0)] w' := by
 obtain ⟨v1, v3, v5, v7, rfl, r2, r4, r6, r8⟩ := tyActive_rd r_0
 obtain ⟨m9, A10, c11, rfl, q12, r13⟩ := rdS_op r2
 obtain ⟨m14, A15, c16, rfl, q17, r18⟩ := rdS_op r4
 obtain ⟨m19, A20, c21, rfl, q22, r23⟩ := rdS_op r6
 obtain ⟨m24, A25, c26, rfl, q27, r28⟩ := rdS_op r8
 have l29 : x0.Query.Conds.length ≤ 68719476736 := s_0.1.1
 have l30 : x0.Query.Out.length ≤ 68719476736 := s_0.1.2
 have l31 : x0.Todo.length ≤ 68719476736 := s_0.2.1
 have l32 : x0.Rows.length ≤ 68719476736 := s_0.2.2.1
 refine ce1 (L := [(0, .agg #[.int .i64 x0.Query.Id, .int .i64 x0.Query.Tenant, .slice A10 x0.Query.Conds.length c11, .slice A15 x0.Query.Out.length c16, .int .i64 x0.Time, .slice A20 x0.Todo.length c21, .int .i64 x0.Age, .int .i64 x0.Sent, .int .i64 x0.Cap, .slice A25 x0.Rows.length c26])]) (N := 16) func174 ?_
 refine sr ?_
 refine WM_box rfl (Wd_none rfl) (by decide) (fun p33 => ?_)
 refine WM_alloc type64 rfl (Wd_none rfl) (by decide) (fun p34 => ?_)
 refine nt' (CM_seq ?_)
 let K1 : List Value := [.int .i64 0, .int .i64 0, .slice none 0 0, .slice none 0 0, .int .i64 0, .slice none 0 0, .int .i64 0, .int .i64 0, .int .i64 0, .slice none 0 0]
 refine rd2 15 [10, 12, 14] (s := [iBox p34 64 K1]) (s2 := [iBox p34 64 K1, iBox p33 64 [.int .i64 x0.Query.Id, .int .i64 x0.Query.Tenant, .slice A10 x0.Query.Conds.length c11, .slice A15 x0.Query.Out.length c16, .int .i64 x0.Time, .slice A20 x0.Todo.length c21, .int .i64 x0.Age, .int .i64 x0.Sent, .int .i64 x0.Cap, .slice A25 x0.Rows.length c26]]) (pk [0]) (fun W hm => hm) ?_
 refine qtD 15 0 1 rfl (vf underlying64 rfl type34) ?_
 refine qtD 15 1 3 rfl (fun W hm => rv_loadN (cs := [.int .i64 x0.Query.Id, .int .i64 x0.Query.Tenant, .slice A10 x0.Query.Conds.length c11, .slice A15 x0.Query.Out.length c16]) underlying34 type34 rfl rfl (hm.boxPart (n := 1) rfl rfl)) ?_
 refine qtD 15 3 11 rfl (vf underlying64 rfl type25) ?_
 refine qtD 15 4 27 rfl (vl 1 5 underlying25) ?_
 refine qtD 15 6 91 rfl (vf underlying64 rfl type35) ?_
 refine qtD 15 7 219 rfl (vl 1 9 underlying35) ?_
 refine qoD 15 2 223 rfl ?_
 refine wcs tyQuery x0.Query (cl_fn cb126 rfl) (fun W hm => impl_copyQuery_c2 W _ x0.Query (tyQuery_mk (x := x0.Query) (hm.rdS0 r13) (hm.rdS0 r18)) s_0.1) (fun z35 => ?_)
 refine tyQuery_sp ?_
 rintro ⟨v36, v37⟩ rfl
 refine WM_form (n := 0) rfl ?_
 rintro A38 c39 rfl m40
 refine WM_form (n := 1) rfl ?_
 rintro A42 c43 rfl m44
 refine qnD (pk [2]) (pk [2, 3]) ?_
 refine qtD 15 9 735 rfl (vf underlying64 rfl type34) ?_
 refine qoD 15 5 767 rfl ?_
 refine wcl (tSl tInt 3) x0.Todo (cl_fn cb136 rfl) (fun W hm => impl_copyInts_c2 W _ x0.Todo (hm.rdS0 r23) s_0.2.1) (fun z46 => ?_)
 refine WM_form (n := 0) rfl ?_
 rintro A47 c48 rfl m49
 refine qnD (pk [3]) (pk [3, 4]) ?_
 refine qoD 15 8 1023 rfl ?_
 refine wcl (tSl tyRow 73) x0.Rows (cl_fn cb166 rfl) (fun W hm => impl_copyRows_c2 W _ x0.Rows (hm.rdS0 r28) s_0.2.2) (fun z51 => ?_)
 refine WM_form (n := 0) rfl ?_
 rintro A52 c53 rfl m54
 refine qnD (pk [4]) (pk [4, 5]) ?_
 refine qoD 15 10 2047 rfl ?_
 let I3 : It := iOwn (tSl tyRow 73) [.slice A52 x0.Rows.length c53] x0.Rows
 let I4 : It := iOwn (tSl tInt 3) [.slice A47 x0.Todo.length c48] x0.Todo
 let I5 : It := iOwn (tSl tyCond 201) [.slice A38 x0.Query.Conds.length c39] x0.Query.Conds
 let I6 : It := iOwn (tSl tInt 3) [.slice A42 x0.Query.Out.length c43] x0.Query.Out
 refine sb 0 [.int .i64 x0.Query.Id, .int .i64 x0.Query.Tenant, .slice A38 x0.Query.Conds.length c39, .slice A42 x0.Query.Out.length c43, .int .i64 x0.Time, .slice A20 x0.Todo.length c21, .int .i64 x0.Age, .int .i64 x0.Sent, .int .i64 x0.Cap, .slice A25 x0.Rows.length c26] [I3, I4, I5, I6, iBox p34 64 K1] (pk [5, 0, 1, 2, 3, 4]) type34 ?_
 refine qxD (pk [5]) ?_
 refine qt 15 11 4095 rfl (vf underlying64 rfl type25) ?_
 refine qo 15 12 8191 rfl ?_
 refine sb 5 [.int .i64 x0.Query.Id, .int .i64 x0.Query.Tenant, .slice A38 x0.Query.Conds.length c39, .slice A42 x0.Query.Out.length c43, .int .i64 x0.Time, .slice A47 x0.Todo.length c48, .int .i64 x0.Age, .int .i64 x0.Sent, .int .i64 x0.Cap, .slice A25 x0.Rows.length c26] [I3, I4, I5, I6, iBox p34 64 K1] (fun W hm => hm) type25 ?_
 refine qn (pk [5]) ?_
 refine qt 15 13 16383 rfl (vf underlying64 rfl type35) ?_
 refine qo 15 14 32767 rfl ?_
 let K2 : List Value := [.int .i64 x0.Query.Id, .int .i64 x0.Query.Tenant, .slice A38 x0.Query.Conds.length c39, .slice A42 x0.Query.Out.length c43, .int .i64 x0.Time, .slice A47 x0.Todo.length c48, .int .i64 x0.Age, .int .i64 x0.Sent, .int .i64 x0.Cap, .slice A52 x0.Rows.length c53]
 refine sb 9 K2 [I3, I4, I5, I6, iBox p34 64 K1] (fun W hm => hm) type35 ?_
 refine qn (pk [5]) ?_
 refine QB_done (by kernel_rfl) ?_
 refine QM_then (sr ?_)
 refine wv (fun W hm => rv_loadN (cs := K2) underlying64 type64 rfl rfl (hm.boxCells (n := 0) rfl)) ?_
 refine sb 0 K2 [iBox p33 64 K2, I3, I4, I5, I6] (pk [5, 0, 1, 2, 3, 4]) type64 ?_
 refine nt' (CM_ret ?_)
 have he56 := (show impl_copyActive_m x0 = x0 from rfl)
 refine QM_r1 rfl (RR_cell (n := 0) rfl rfl underlying64 type64 rfl) (fun W hm => ⟨K2, ?_, ?_⟩)
 ·first | rw [he56] | rfl
 ·rw [he56]; exact Mem.join (is := [I5, I6, I4, I3]) (js := []) (fun _ _ hs => tyActive_join (x := x0) hs) (hm.pick [4, 5, 3, 2] (by decide))
theorem impl_copyActive_eq (x0 : DActive) : impl_copyActive_m x0 = x0 := by
 rfl
theorem impl_copyActive_c2 (w : World) (z0 : List Value) (x0 : DActive) (r_0 : tyActive.rd w w.heap.size z0 x0) (s_0 : smActive 68719476736 x0) :
  Calls Tryz.prog 174 #[.agg z0.toArray] w fun e w' => ∃ v : List Value, e = .returned (.agg v.toArray) ∧ Mem w.heap.size w [iOwn tyActive v x0] w' := by
 have h := impl_copyActive_c w z0 x0 r_0 s_0
 rw [impl_copyActive_eq] at h
 exact h

def impl_copyFinished_m (x0 : DFinished) : DFinished :=
 x0
theorem cb86 : Cb Tryz.prog 86 := ⟨f86, _, func86, rfl, by decide⟩
theorem impl_copyFinished_c (w : World) (z0 : List Value) (x0 : DFinished) (r_0 : tyFinished.rd w w.heap.size z0 x0) (s_0 : smFinished 68719476736 x0) :
  Calls Tryz.prog 86 #[.agg z0.toArray] w fun e w' => ∃ v : List Value, e = .returned (.agg v.toArray) ∧ Mem w.heap.size w [iOwn tyFinished v (impl_copyFinished_m x0)] w' := by
 obtain ⟨v1, v3, v5, rfl, r2, r4, r6⟩ := tyFinished_rd r_0
 obtain ⟨m7, A8, c9, rfl, q10, r11⟩ := rdS_op r2
 obtain ⟨m12, A13, c14, rfl, q15, r16⟩ := rdS_op r4
 obtain ⟨m17, A18, c19, rfl, q20, r21⟩ := rdS_op r6
 have l22 : x0.Query.Conds.length ≤ 68719476736 := s_0.1.1
 have l23 : x0.Query.Out.length ≤ 68719476736 := s_0.1.2
 have l24 : x0.Rows.length ≤ 68719476736 := s_0.2.1
 refine ce1 (L := [(0, .agg #[.int .i64 x0.Query.Id, .int .i64 x0.Query.Tenant, .slice A8 x0.Query.Conds.length c9, .slice A13 x0.Query.Out.length c14, .int .i64 x0.Time, .int .i64 x0.Steps, .slice A18 x0.Rows.length c19])]) (N := 12) func86 ?_
 refine sr ?_
 refine WM_box rfl (Wd_none rfl) (by decide) (fun p25 => ?_)
 refine WM_alloc type37 rfl (Wd_none rfl) (by decide) (fun p26 => ?_)
 refine nt' (CM_seq ?_)
 let K1 : List Value := [.int .i64 0, .int .i64 0, .slice none 0 0, .slice none 0 0, .int .i64 0, .int .i64 0, .slice none 0 0]
 refine rd2 10 [7, 9] (s := [iBox p26 37 K1]) (s2 := [iBox p26 37 K1, iBox p25 37 [.int .i64 x0.Query.Id, .int .i64 x0.Query.Tenant, .slice A8 x0.Query.Conds.length c9, .slice A13 x0.Query.Out.length c14, .int .i64 x0.Time, .int .i64 x0.Steps, .slice A18 x0.Rows.length c19]]) (pk [0]) (fun W hm => hm) ?_
 refine qtD 10 0 1 rfl (vf underlying37 rfl type34) ?_
 refine qtD 10 1 3 rfl (fun W hm => rv_loadN (cs := [.int .i64 x0.Query.Id, .int .i64 x0.Query.Tenant, .slice A8 x0.Query.Conds.length c9, .slice A13 x0.Query.Out.length c14]) underlying34 type34 rfl rfl (hm.boxPart (n := 1) rfl rfl)) ?_
 refine qtD 10 3 11 rfl (vf underlying37 rfl type35) ?_
 refine qtD 10 4 27 rfl (vl 1 6 underlying35) ?_
 refine qoD 10 2 31 rfl ?_
 refine wcs tyQuery x0.Query (cl_fn cb126 rfl) (fun W hm => impl_copyQuery_c2 W _ x0.Query (tyQuery_mk (x := x0.Query) (hm.rdS0 r11) (hm.rdS0 r16)) s_0.1) (fun z27 => ?_)
 refine tyQuery_sp ?_
 rintro ⟨v28, v29⟩ rfl
 refine WM_form (n := 0) rfl ?_
 rintro A30 c31 rfl m32
 refine WM_form (n := 1) rfl ?_
 rintro A34 c35 rfl m36
 refine qnD (pk [2]) (pk [2, 3]) ?_
 refine qtD 10 6 95 rfl (vf underlying37 rfl type34) ?_
 refine qoD 10 5 127 rfl ?_
 refine wcl (tSl tyRow 73) x0.Rows (cl_fn cb166 rfl) (fun W hm => impl_copyRows_c2 W _ x0.Rows (hm.rdS0 r21) s_0.2) (fun z38 => ?_)
 refine WM_form (n := 0) rfl ?_
 rintro A39 c40 rfl m41
 refine qnD (pk [3]) (pk [3, 4]) ?_
 refine qoD 10 7 255 rfl ?_
 let I3 : It := iOwn (tSl tyRow 73) [.slice A39 x0.Rows.length c40] x0.Rows
 let I4 : It := iOwn (tSl tyCond 201) [.slice A30 x0.Query.Conds.length c31] x0.Query.Conds
 let I5 : It := iOwn (tSl tInt 3) [.slice A34 x0.Query.Out.length c35] x0.Query.Out
 refine sb 0 [.int .i64 x0.Query.Id, .int .i64 x0.Query.Tenant, .slice A30 x0.Query.Conds.length c31, .slice A34 x0.Query.Out.length c35, .int .i64 x0.Time, .int .i64 x0.Steps, .slice A18 x0.Rows.length c19] [I3, I4, I5, iBox p26 37 K1] (pk [4, 0, 1, 2, 3]) type34 ?_
 refine qxD (pk [4]) ?_
 refine qt 10 8 511 rfl (vf underlying37 rfl type35) ?_
 refine qo 10 9 1023 rfl ?_
 let K2 : List Value := [.int .i64 x0.Query.Id, .int .i64 x0.Query.Tenant, .slice A30 x0.Query.Conds.length c31, .slice A34 x0.Query.Out.length c35, .int .i64 x0.Time, .int .i64 x0.Steps, .slice A39 x0.Rows.length c40]
 refine sb 6 K2 [I3, I4, I5, iBox p26 37 K1] (fun W hm => hm) type35 ?_
 refine qn (pk [4]) ?_
 refine QB_done (by kernel_rfl) ?_
 refine QM_then (sr ?_)
 refine wv (fun W hm => rv_loadN (cs := K2) underlying37 type37 rfl rfl (hm.boxCells (n := 0) rfl)) ?_
 refine sb 0 K2 [iBox p25 37 K2, I3, I4, I5] (pk [4, 0, 1, 2, 3]) type37 ?_
 refine nt' (CM_ret ?_)
 have he43 := (show impl_copyFinished_m x0 = x0 from rfl)
 refine QM_r1 rfl (RR_cell (n := 0) rfl rfl underlying37 type37 rfl) (fun W hm => ⟨K2, ?_, ?_⟩)
 ·first | rw [he43] | rfl
 ·rw [he43]; exact Mem.join (is := [I4, I5, I3]) (js := []) (fun _ _ hs => tyFinished_join (x := x0) hs) (hm.pick [3, 4, 2] (by decide))
theorem impl_copyFinished_eq (x0 : DFinished) : impl_copyFinished_m x0 = x0 := by
 rfl
theorem impl_copyFinished_c2 (w : World) (z0 : List Value) (x0 : DFinished) (r_0 : tyFinished.rd w w.heap.size z0 x0) (s_0 : smFinished 68719476736 x0) :
  Calls Tryz.prog 86 #[.agg z0.toArray] w fun e w' => ∃ v : List Value, e = .returned (.agg v.toArray) ∧ Mem w.heap.size w [iOwn tyFinished v x0] w' := by
 have h := impl_copyFinished_c w z0 x0 r_0 s_0
 rw [impl_copyFinished_eq] at h
 exact h

def impl_copyCharge_m (x0 : DCharge) : DCharge :=
 x0
theorem cb175 : Cb Tryz.prog 175 := ⟨f175, _, func175, rfl, by decide⟩
theorem impl_copyCharge_c (w : World) (z0 : List Value) (x0 : DCharge) (r_0 : tyCharge.rd w w.heap.size z0 x0) (s_0 : smCharge 68719476736 x0) :
  Calls Tryz.prog 175 #[.agg z0.toArray] w fun e w' => ∃ v : List Value, e = .returned (.agg v.toArray) ∧ Mem w.heap.size w [iOwn tyCharge v (impl_copyCharge_m x0)] w' := by
 obtain ⟨v1, v3, v5, rfl, r2, r4, r6⟩ := tyCharge_rd r_0
 obtain ⟨m7, A8, c9, rfl, q10, r11⟩ := rdS_op r2
 obtain ⟨m12, A13, c14, rfl, q15, r16⟩ := rdS_op r4
 obtain ⟨m17, A18, c19, rfl, q20, r21⟩ := rdS_op r6
 have l22 : x0.Ids.length ≤ 68719476736 := s_0.1
 have l23 : x0.Tenants.length ≤ 68719476736 := s_0.2.1
 have l24 : x0.Rows.length ≤ 68719476736 := s_0.2.2
 refine ce1 (L := [(0, .agg #[.int .i64 x0.Segment, .int .i64 x0.Base, .slice A8 x0.Ids.length c9, .slice A13 x0.Tenants.length c14, .slice A18 x0.Rows.length c19])]) (N := 16) func175 ?_
 refine sr ?_
 refine WM_box rfl (Wd_none rfl) (by decide) (fun p25 => ?_)
 refine WM_alloc type133 rfl (Wd_none rfl) (by decide) (fun p26 => ?_)
 refine nt' (CM_seq ?_)
 let K1 : List Value := [.int .i64 0, .int .i64 0, .slice none 0 0, .slice none 0 0, .slice none 0 0]
 refine rd2 15 [10, 12, 14] (s := [iBox p26 133 K1]) (s2 := [iBox p26 133 K1, iBox p25 133 [.int .i64 x0.Segment, .int .i64 x0.Base, .slice A8 x0.Ids.length c9, .slice A13 x0.Tenants.length c14, .slice A18 x0.Rows.length c19]]) (pk [0]) (fun W hm => hm) ?_
 refine qtD 15 0 1 rfl (vf underlying133 rfl type25) ?_
 refine qtD 15 1 3 rfl (vl 1 2 underlying25) ?_
 refine qtD 15 3 11 rfl (vf underlying133 rfl type25) ?_
 refine qtD 15 4 27 rfl (vl 1 3 underlying25) ?_
 refine qtD 15 6 91 rfl (vf underlying133 rfl type25) ?_
 refine qtD 15 7 219 rfl (vl 1 4 underlying25) ?_
 refine qoD 15 2 223 rfl ?_
 refine wcl (tSl tInt 3) x0.Ids (cl_fn cb136 rfl) (fun W hm => impl_copyInts_c2 W _ x0.Ids (hm.rdS0 r11) s_0.1) (fun z27 => ?_)
 refine WM_form (n := 0) rfl ?_
 rintro A28 c29 rfl m30
 refine qnD (pk [1]) (pk [1, 2]) ?_
 refine qtD 15 9 735 rfl (vf underlying133 rfl type25) ?_
 refine qoD 15 5 767 rfl ?_
 refine wcl (tSl tInt 3) x0.Tenants (cl_fn cb136 rfl) (fun W hm => impl_copyInts_c2 W _ x0.Tenants (hm.rdS0 r16) s_0.2.1) (fun z32 => ?_)
 refine WM_form (n := 0) rfl ?_
 rintro A33 c34 rfl m35
 refine qnD (pk [2]) (pk [2, 3]) ?_
 refine qoD 15 8 1023 rfl ?_
 refine wcl (tSl tInt 3) x0.Rows (cl_fn cb136 rfl) (fun W hm => impl_copyInts_c2 W _ x0.Rows (hm.rdS0 r21) s_0.2.2) (fun z37 => ?_)
 refine WM_form (n := 0) rfl ?_
 rintro A38 c39 rfl m40
 refine qnD (pk [3]) (pk [3, 4]) ?_
 refine qoD 15 10 2047 rfl ?_
 let I3 : It := iOwn (tSl tInt 3) [.slice A38 x0.Rows.length c39] x0.Rows
 let I4 : It := iOwn (tSl tInt 3) [.slice A33 x0.Tenants.length c34] x0.Tenants
 let I5 : It := iOwn (tSl tInt 3) [.slice A28 x0.Ids.length c29] x0.Ids
 refine sb 2 [.int .i64 x0.Segment, .int .i64 x0.Base, .slice A28 x0.Ids.length c29, .slice A13 x0.Tenants.length c14, .slice A18 x0.Rows.length c19] [I3, I4, I5, iBox p26 133 K1] (pk [4, 0, 1, 2, 3]) type25 ?_
 refine qxD (pk [4]) ?_
 refine qt 15 11 4095 rfl (vf underlying133 rfl type25) ?_
 refine qo 15 12 8191 rfl ?_
 refine sb 3 [.int .i64 x0.Segment, .int .i64 x0.Base, .slice A28 x0.Ids.length c29, .slice A33 x0.Tenants.length c34, .slice A18 x0.Rows.length c19] [I3, I4, I5, iBox p26 133 K1] (fun W hm => hm) type25 ?_
 refine qn (pk [4]) ?_
 refine qt 15 13 16383 rfl (vf underlying133 rfl type25) ?_
 refine qo 15 14 32767 rfl ?_
 let K2 : List Value := [.int .i64 x0.Segment, .int .i64 x0.Base, .slice A28 x0.Ids.length c29, .slice A33 x0.Tenants.length c34, .slice A38 x0.Rows.length c39]
 refine sb 4 K2 [I3, I4, I5, iBox p26 133 K1] (fun W hm => hm) type25 ?_
 refine qn (pk [4]) ?_
 refine QB_done (by kernel_rfl) ?_
 refine QM_then (sr ?_)
 refine wv (fun W hm => rv_loadN (cs := K2) underlying133 type133 rfl rfl (hm.boxCells (n := 0) rfl)) ?_
 refine sb 0 K2 [iBox p25 133 K2, I3, I4, I5] (pk [4, 0, 1, 2, 3]) type133 ?_
 refine nt' (CM_ret ?_)
 have he42 := (show impl_copyCharge_m x0 = x0 from rfl)
 refine QM_r1 rfl (RR_cell (n := 0) rfl rfl underlying133 type133 rfl) (fun W hm => ⟨K2, ?_, ?_⟩)
 ·first | rw [he42] | rfl
 ·rw [he42]; exact Mem.join (is := [I5, I4, I3]) (js := []) (fun _ _ hs => tyCharge_join (x := x0) hs) (hm.pick [4, 3, 2] (by decide))
theorem impl_copyCharge_eq (x0 : DCharge) : impl_copyCharge_m x0 = x0 := by
 rfl
theorem impl_copyCharge_c2 (w : World) (z0 : List Value) (x0 : DCharge) (r_0 : tyCharge.rd w w.heap.size z0 x0) (s_0 : smCharge 68719476736 x0) :
  Calls Tryz.prog 175 #[.agg z0.toArray] w fun e w' => ∃ v : List Value, e = .returned (.agg v.toArray) ∧ Mem w.heap.size w [iOwn tyCharge v x0] w' := by
 have h := impl_copyCharge_c w z0 x0 r_0 s_0
 rw [impl_copyCharge_eq] at h
 exact h

def impl_copyEngine_b3 (x0 : DEngine) (k204 : Nat) (d207 : (List DCharge)) : DEngine ⊕ ((List DCharge)) :=
 Sum.inr (d207 ++ [(gt x0.Ledger k204)])
def impl_copyEngine_b2 (x0 : DEngine) (k138 : Nat) (d141 : (List DFinished)) : DEngine ⊕ ((List DFinished)) :=
 Sum.inr (d141 ++ [(gt x0.Done k138)])
def impl_copyEngine_b1 (x0 : DEngine) (k59 : Nat) (d62 : (List DActive)) : DEngine ⊕ ((List DActive)) :=
 Sum.inr (d62 ++ [(gt x0.Active k59)])
def impl_copyEngine_m (x0 : DEngine) : DEngine :=
 Sum.elim id (fun (s1_ : (List DActive)) => Sum.elim id (fun (s2_ : (List DFinished)) => Sum.elim id (fun (s : (List DCharge)) => (⟨x0.Store, x0.Cursor, x0.Order, s1_, s2_, s, x0.Steps⟩ : DEngine)) (rng (R := DEngine) (fun k (s : (List DCharge)) => impl_copyEngine_b3 x0 k s) (x0.Ledger.length - 0) 0 [])) (rng (R := DEngine) (fun k (s : (List DFinished)) => impl_copyEngine_b2 x0 k s) (x0.Done.length - 0) 0 [])) (rng (R := DEngine) (fun k (s : (List DActive)) => impl_copyEngine_b1 x0 k s) (x0.Active.length - 0) 0 [])
theorem cb101 : Cb Tryz.prog 101 := ⟨f101, _, func101, rfl, by decide⟩
theorem impl_copyEngine_c (w : World) (z0 : List Value) (x0 : DEngine) (r_0 : tyEngine.rd w w.heap.size z0 x0) (s_0 : smEngine 68719476736 x0) :
  Calls Tryz.prog 101 #[.agg z0.toArray] w fun e w' => ∃ v : List Value, e = .returned (.agg v.toArray) ∧ Mem w.heap.size w [iOwn tyEngine v (impl_copyEngine_m x0)] w' := by
 obtain ⟨v1, v3, v5, v7, v9, rfl, r2, r4, r6, r8, r10⟩ := tyEngine_rd r_0
 obtain ⟨m11, A12, c13, rfl, q14, r15⟩ := rdS_op r2
 obtain ⟨m16, A17, c18, rfl, q19, r20⟩ := rdS_op r4
 obtain ⟨m21, A22, c23, rfl, q24, r25⟩ := rdS_op r6
 obtain ⟨m26, A27, c28, rfl, q29, r30⟩ := rdS_op r8
 obtain ⟨m31, A32, c33, rfl, q34, r35⟩ := rdS_op r10
 have l36 : x0.Store.Segments.length ≤ 68719476736 := s_0.1.1
 have l37 : x0.Order.length ≤ 68719476736 := s_0.2.1
 have l38 : x0.Active.length ≤ 68719476736 := s_0.2.2.1.1
 have l39 : x0.Done.length ≤ 68719476736 := s_0.2.2.2.1.1
 have l40 : x0.Ledger.length ≤ 68719476736 := s_0.2.2.2.2.1
 refine ce1 (L := [(0, .agg #[.slice A12 x0.Store.Segments.length c13, .int .i64 x0.Store.Now, .int .i64 x0.Cursor, .slice A17 x0.Order.length c18, .slice A22 x0.Active.length c23, .slice A27 x0.Done.length c28, .slice A32 x0.Ledger.length c33, .int .i64 x0.Steps])]) (N := 67) func101 ?_
 refine sr ?_
 refine WM_box rfl (Wd_none rfl) (by decide) (fun p41 => ?_)
 refine WM_alloc type47 rfl (Wd_none rfl) (by decide) (fun p42 => ?_)
 refine nt' (CM_seq ?_)
 let K7 : List Value := [.slice none 0 0, .int .i64 0, .int .i64 0, .slice none 0 0, .slice none 0 0, .slice none 0 0, .slice none 0 0, .int .i64 0]
 let K8 : List Value := [.slice A12 x0.Store.Segments.length c13, .int .i64 x0.Store.Now, .int .i64 x0.Cursor, .slice A17 x0.Order.length c18, .slice A22 x0.Active.length c23, .slice A27 x0.Done.length c28, .slice A32 x0.Ledger.length c33, .int .i64 x0.Steps]
 refine rd2 13 [12] (s := [iBox p42 47 K7, iBox p41 47 K8]) (s2 := [iBox p42 47 K7, iBox p41 47 K8]) (fun W hm => hm) (fun W hm => hm) ?_
 refine QD_mid (σ := Option Addr × Nat × Option Addr × Nat × Nat) (fun s => [iBox p42 47 K7, iBox p41 47 K8]) 13 4095 1 (fun s => [(1, .pointer (some (⟨p41, 0, none⟩ : Addr))), (2, .pointer (some (⟨p42, 0, none⟩ : Addr))), (20, .agg #[.slice s.1 x0.Store.Segments.length s.2.1, .int .i64 x0.Store.Now, .int .i64 x0.Cursor, .slice s.2.2.1 x0.Order.length s.2.2.2.1, .slice none 0 0, .slice none 0 0, .slice none 0 0, .int .i64 x0.Steps]), (3, .pointer (some (⟨s.2.2.2.2, 0, none⟩ : Addr)))]) (fun s => [iBox s.2.2.2.2 47 K7, iOwn (tSl tInt 3) [.slice s.2.2.1 x0.Order.length s.2.2.2.1] x0.Order, iOwn (tSl (tSl tyVersion 191) 131) [.slice s.1 x0.Store.Segments.length s.2.1] x0.Store.Segments, iBox p42 47 K7, iBox p41 47 K8]) ?_ (fun H => ?_)
 ·
  rintro ⟨A45, c46, A50, c51, p54⟩
  let I21 : It := iOwn (tSl tInt 3) [.slice A50 x0.Order.length c51] x0.Order
  let I22 : It := iOwn (tSl (tSl tyVersion 191) 131) [.slice A45 x0.Store.Segments.length c46] x0.Store.Segments
  show QD _ _ _ _ _ _ _ _ [(1, .pointer (some (⟨p41, 0, none⟩ : Addr))), (2, .pointer (some (⟨p42, 0, none⟩ : Addr))), (20, .agg #[.slice A45 x0.Store.Segments.length c46, .int .i64 x0.Store.Now, .int .i64 x0.Cursor, .slice A50 x0.Order.length c51, .slice none 0 0, .slice none 0 0, .slice none 0 0, .int .i64 x0.Steps]), (3, .pointer (some (⟨p54, 0, none⟩ : Addr)))] _ [iBox p42 47 K7, iBox p41 47 K8] _ [iBox p54 47 K7, I21, I22, iBox p42 47 K7, iBox p41 47 K8]
  refine QD_len (n := 1) rfl ?_
  intro m55 m56
  refine QD_len (n := 2) rfl ?_
  intro m57 m58
  refine qoD 13 12 8191 rfl ?_
  refine sb 0 [.slice A45 x0.Store.Segments.length c46, .int .i64 x0.Store.Now, .int .i64 x0.Cursor, .slice A50 x0.Order.length c51, .slice none 0 0, .slice none 0 0, .slice none 0 0, .int .i64 x0.Steps] [I21, I22, iBox p42 47 K7, iBox p41 47 K8] (fun W hm => hm) type47 ?_
  refine qxD (pk [3, 4]) ?_
  refine QB_done (by kernel_rfl) ?_
  refine QM_then (CM_seq (sr ?_))
  refine wv (vf underlying47 rfl type43) ?_
  refine wv (vl 4 4 underlying43) ?_
  refine wv (vlen underlying43) ?_
  refine wm (nt' (CM_block ?_))
  refine CM_items (fun W hm => (hm.addNil (E := tyActive) (e := 64)).last) ?_
  let F1 := fun k (s : (List DActive)) => impl_copyEngine_b1 x0 k s
  let R4 := rng (R := DEngine) F1
  refine CM_loop (σ := Nat × ((List DActive)) × (Option Addr × Nat)) (fun s => [(1, .pointer (some (⟨p41, 0, none⟩ : Addr))), (2, .pointer (some (⟨p42, 0, none⟩ : Addr))), (3, .pointer (some (⟨p54, 0, none⟩ : Addr))), (22, .slice A22 x0.Active.length c23), (23, .int .i64 ((x0.Active.length : Nat) : Int)), (24, .int .i64 ((s.1 : Nat) : Int))]) (fun s => [iBox p54 47 [.slice A45 x0.Store.Segments.length c46, .int .i64 x0.Store.Now, .int .i64 x0.Cursor, .slice A50 x0.Order.length c51, .slice s.2.2.1 s.2.1.length s.2.2.2, .slice none 0 0, .slice none 0 0, .int .i64 x0.Steps], I21, I22, iBox p42 47 K7, iBox p41 47 K8, iOwn (tSl tyActive 64) [.slice s.2.2.1 s.2.1.length s.2.2.2] s.2.1]) (fun s => s.1 ≤ x0.Active.length ∧ R4 (x0.Active.length - s.1) s.1 s.2.1 = R4 (x0.Active.length - 0) 0 [] ∧ s.2.1.length ≤ 0 + s.1) (fun s => x0.Active.length - s.1) (0, [], (none, 0)) sl6 (fun W hm => hm) ⟨(by omega), rfl, Nat.le_refl _⟩ ?_
  rintro ⟨k59, d62, ⟨A63, c64⟩⟩ H67
  obtain ⟨hk65, hF66, hi68⟩ : k59 ≤ x0.Active.length ∧ R4 (x0.Active.length - k59) k59 d62 = R4 (x0.Active.length - 0) 0 [] ∧ d62.length ≤ 0 + k59 := H67
  let K9 : List Value := [.slice A45 x0.Store.Segments.length c46, .int .i64 x0.Store.Now, .int .i64 x0.Cursor, .slice A50 x0.Order.length c51, .slice A63 d62.length c64, .slice none 0 0, .slice none 0 0, .int .i64 x0.Steps]
  let I23 : It := iOwn (tSl tyActive 64) [.slice A63 d62.length c64] d62
  show CM Tryz.prog 67 _ _ _ _ [(1, .pointer (some (⟨p41, 0, none⟩ : Addr))), (2, .pointer (some (⟨p42, 0, none⟩ : Addr))), (3, .pointer (some (⟨p54, 0, none⟩ : Addr))), (22, .slice A22 x0.Active.length c23), (23, .int .i64 ((x0.Active.length : Nat) : Int)), (24, .int .i64 ((k59 : Nat) : Int))] [iBox p54 47 K9, I21, I22, iBox p42 47 K7, iBox p41 47 K8, I23]
  refine sr ?_
  refine wv vlss ?_
  refine nt' (CM_seq ?_)
  by_cases hl69 : k59 < x0.Active.length
  ·have g70 := dlT hl69
   refine CM_condT rfl g70 ?_
   refine CM_skip (QM_then (CM_seq (CM_block (sr ?_))))
   obtain ⟨a71, rfl, hb72, he73⟩ := q24 (by omega)
   refine wv (vix 10 k59 underlying43 type64) ?_
   obtain ⟨_, e83, hc74⟩ := he73 k59 _ (gt_some (show k59 < x0.Active.length from by omega))
   obtain ⟨v75, v77, v79, v81, rfl, r76, r78, r80, r82⟩ := tyActive_rd e83
   have l84 : ((gt x0.Active k59).Query.Conds).length ≤ 68719476736 := (s_0.2.2.1.2 _ (gt_mem (show k59 < x0.Active.length from by omega))).1.1
   have l85 : ((gt x0.Active k59).Query.Out).length ≤ 68719476736 := (s_0.2.2.1.2 _ (gt_mem (show k59 < x0.Active.length from by omega))).1.2
   have l86 : ((gt x0.Active k59).Todo).length ≤ 68719476736 := (s_0.2.2.1.2 _ (gt_mem (show k59 < x0.Active.length from by omega))).2.1
   have l87 : ((gt x0.Active k59).Rows).length ≤ 68719476736 := (s_0.2.2.1.2 _ (gt_mem (show k59 < x0.Active.length from by omega))).2.2.1
   obtain ⟨m88, A89, c90, rfl, q91, r92⟩ := rdS_op r76
   obtain ⟨m93, A94, c95, rfl, q96, r97⟩ := rdS_op r78
   obtain ⟨m98, A99, c100, rfl, q101, r102⟩ := rdS_op r80
   obtain ⟨m103, A104, c105, rfl, q106, r107⟩ := rdS_op r82
   let K10 : List Value := [.int .i64 ((gt x0.Active k59).Query.Id), .int .i64 ((gt x0.Active k59).Query.Tenant), .slice A89 ((gt x0.Active k59).Query.Conds).length c90, .slice A94 ((gt x0.Active k59).Query.Out).length c95, .int .i64 ((gt x0.Active k59).Time), .slice A99 ((gt x0.Active k59).Todo).length c100, .int .i64 ((gt x0.Active k59).Age), .int .i64 ((gt x0.Active k59).Sent), .int .i64 ((gt x0.Active k59).Cap), .slice A104 ((gt x0.Active k59).Rows).length c105]
   refine wv (fun W hm => rv_loadN (cs := K10) underlying64 type64 rfl rfl (hm.elCells (show (a71.add (k59 * 10)).block < w.heap.size from by rw [add_block]; exact hb72.1) hc74)) ?_
   refine WM_alloc type64 rfl (Wd_none rfl) (by decide) (fun p108 => ?_)
   let K11 : List Value := [.slice A12 x0.Store.Segments.length c13, .int .i64 x0.Store.Now, .int .i64 x0.Cursor, .slice A17 x0.Order.length c18, .slice (some a71) x0.Active.length c23, .slice A27 x0.Done.length c28, .slice A32 x0.Ledger.length c33, .int .i64 x0.Steps]
   refine sb 0 K10 [iBox p54 47 K9, I21, I22, iBox p42 47 K7, iBox p41 47 K11, I23] (fun W hm => hm) type64 ?_
   refine nt' ?_
   refine rd2 8 [7] (s := [iBox p108 64 K10, I21, I22, iBox p42 47 K7, iBox p41 47 K11]) (s2 := [iBox p108 64 K10, iBox p54 47 K9, I21, I22, iBox p42 47 K7, iBox p41 47 K11]) (pk [0, 2, 3, 4, 5]) (pk [0, 1, 2, 3, 4, 5]) ?_
   refine qtD 8 0 1 rfl (vf underlying47 rfl type43) ?_
   refine qtD 8 1 3 rfl (vl 1 4 underlying43) ?_
   refine qtD 8 2 7 rfl (fun W hm => rv_loadN (cs := K10) underlying64 type64 rfl rfl (hm.boxCells (n := 0) rfl)) ?_
   refine qoD 8 3 15 rfl ?_
   refine wcs tyActive (gt x0.Active k59) (cl_fn cb174 rfl) (fun W hm => impl_copyActive_c2 W _ (gt x0.Active k59) (tyActive_mk (x := (gt x0.Active k59)) (hm.rdS0 r92) (hm.rdS0 r97) (hm.rdS0 r102) (hm.rdS0 r107)) (s_0.2.2.1.2 _ (gt_mem (show k59 < x0.Active.length from by omega)))) (fun z109 => ?_)
   refine tyActive_sp ?_
   rintro ⟨v110, v111, v112, v113⟩ rfl
   refine WM_form (n := 0) rfl ?_
   rintro A114 c115 rfl m116
   refine WM_form (n := 1) rfl ?_
   rintro A118 c119 rfl m120
   refine WM_form (n := 2) rfl ?_
   rintro A122 c123 rfl m124
   refine WM_form (n := 3) rfl ?_
   rintro A126 c127 rfl m128
   refine qnD (pk [4, 6, 7, 8, 9]) (pk [4, 5, 6, 7, 8, 9]) ?_
   refine qoD 8 4 31 rfl ?_
   let K12 : List Value := [.int .i64 ((gt x0.Active k59).Query.Id), .int .i64 ((gt x0.Active k59).Query.Tenant), .slice A114 ((gt x0.Active k59).Query.Conds).length c115, .slice A118 ((gt x0.Active k59).Query.Out).length c119, .int .i64 ((gt x0.Active k59).Time), .slice A122 ((gt x0.Active k59).Todo).length c123, .int .i64 ((gt x0.Active k59).Age), .int .i64 ((gt x0.Active k59).Sent), .int .i64 ((gt x0.Active k59).Cap), .slice A126 ((gt x0.Active k59).Rows).length c127]
   refine WM_build (cs := K12) underlying43 type64 rfl (by decide) (by decide) rfl (by kernel_rfl) (Wd_none rfl) (by decide) (fun p130 => ?_)
   refine qnD (pk [5, 7, 8, 9, 10]) (pk [5, 6, 7, 8, 9, 10]) ?_
   refine qoD 8 5 63 rfl ?_
   refine ap1 tyActive 64 (.slice A63 d62.length c64) d62 (gt x0.Active k59) [iOwn (tSl tyCond 201) [.slice A114 ((gt x0.Active k59).Query.Conds).length c115] ((gt x0.Active k59).Query.Conds), iOwn (tSl tInt 3) [.slice A118 ((gt x0.Active k59).Query.Out).length c119] ((gt x0.Active k59).Query.Out), iOwn (tSl tInt 3) [.slice A122 ((gt x0.Active k59).Todo).length c123] ((gt x0.Active k59).Todo), iOwn (tSl tyRow 73) [.slice A126 ((gt x0.Active k59).Rows).length c127] ((gt x0.Active k59).Rows)] [iBox p108 64 K10, iBox p54 47 K9, I21, I22, iBox p42 47 K7, iBox p41 47 K11] K12 (pk [0, 11, 1, 2, 3, 4, 5, 6, 7, 8, 9, 10]) (fun _ _ hs => Els.single (tyActive_join (x := (gt x0.Active k59)) hs)) underlying43 type64 (show (d62.length + 1) * 144 ≤ 140737488355328 from by omega) (fun v131 => ?_)
   refine WM_form (n := 0) rfl ?_
   rintro A132 c133 rfl m134
   refine qnD (pk [1, 3, 4, 5, 6]) (pk [1, 2, 3, 4, 5, 6]) ?_
   refine qtD 8 6 127 rfl (vf underlying47 rfl type43) ?_
   refine qoD 8 7 255 rfl ?_
   refine sb 4 [.slice A45 x0.Store.Segments.length c46, .int .i64 x0.Store.Now, .int .i64 x0.Cursor, .slice A50 x0.Order.length c51, .slice A132 (d62 ++ [(gt x0.Active k59)]).length c133, .slice none 0 0, .slice none 0 0, .int .i64 x0.Steps] [iOwn (tSl tyActive 64) [.slice A132 (d62 ++ [(gt x0.Active k59)]).length c133] (d62 ++ [(gt x0.Active k59)]), iBox p108 64 K10, I21, I22, iBox p42 47 K7, iBox p41 47 K11] (pk [2, 0, 1, 3, 4, 5, 6]) type43 ?_
   refine qxD (pk [2, 3, 4, 5, 6]) ?_
   refine QB_done (by kernel_rfl) ?_
   refine QM_block_normal (QM_then (CM_region ?_))
   refine wv (vadN k59 1 (by omega)) ?_
   refine wm (WM_nil ?_)
   have hn136 := rng_next (R := DEngine) (body := F1) (k := k59) (s := d62) (s' := (d62 ++ [(gt x0.Active k59)])) (show k59 < x0.Active.length from by omega) (rfl) hF66
   exact QM_round (k59 + 1, (d62 ++ [(gt x0.Active k59)]), (A132, c133)) sl6 (pk [0, 3, 4, 5, 6, 1]) ⟨(by omega), hn136, (show (d62 ++ [(gt x0.Active k59)]).length ≤ 0 + (k59 + 1) from by first | omega | (simp only [List.length_append, List.length_cons, List.length_nil] at *; omega))⟩ (rl (by omega))
  ·have g70 := dlF hl69
   refine CM_condF rfl g70 ?_
   refine CM_exit (QM_then_exit (QM_then_exit ?_))
   have hE137 : R4 (x0.Active.length - 0) 0 [] = Sum.inr d62 := rng_end hl69 hF66
   refine QM_block_hit (QM_then (CM_seq (sr ?_)))
   refine wv (vf underlying47 rfl type44) ?_
   refine wv (vl 4 5 underlying44) ?_
   refine wv (vlen underlying44) ?_
   refine wm (nt' (CM_block ?_))
   refine CM_items (fun W hm => (hm.addNil (E := tyFinished) (e := 37)).last) ?_
   let F2 := fun k (s : (List DFinished)) => impl_copyEngine_b2 x0 k s
   let R5 := rng (R := DEngine) F2
   refine CM_loop (σ := Nat × ((List DFinished)) × (Option Addr × Nat)) (fun s => [(1, .pointer (some (⟨p41, 0, none⟩ : Addr))), (2, .pointer (some (⟨p42, 0, none⟩ : Addr))), (3, .pointer (some (⟨p54, 0, none⟩ : Addr))), (37, .slice A27 x0.Done.length c28), (38, .int .i64 ((x0.Done.length : Nat) : Int)), (39, .int .i64 ((s.1 : Nat) : Int))]) (fun s => [iBox p54 47 [.slice A45 x0.Store.Segments.length c46, .int .i64 x0.Store.Now, .int .i64 x0.Cursor, .slice A50 x0.Order.length c51, .slice A63 d62.length c64, .slice s.2.2.1 s.2.1.length s.2.2.2, .slice none 0 0, .int .i64 x0.Steps], I21, I22, iBox p42 47 K7, iBox p41 47 K8, I23, iOwn (tSl tyFinished 37) [.slice s.2.2.1 s.2.1.length s.2.2.2] s.2.1]) (fun s => s.1 ≤ x0.Done.length ∧ R5 (x0.Done.length - s.1) s.1 s.2.1 = R5 (x0.Done.length - 0) 0 [] ∧ s.2.1.length ≤ 0 + s.1) (fun s => x0.Done.length - s.1) (0, [], (none, 0)) sl6 (fun W hm => hm) ⟨(by omega), rfl, Nat.le_refl _⟩ ?_
   rintro ⟨k138, d141, ⟨A142, c143⟩⟩ H146
   obtain ⟨hk144, hF145, hi147⟩ : k138 ≤ x0.Done.length ∧ R5 (x0.Done.length - k138) k138 d141 = R5 (x0.Done.length - 0) 0 [] ∧ d141.length ≤ 0 + k138 := H146
   let K13 : List Value := [.slice A45 x0.Store.Segments.length c46, .int .i64 x0.Store.Now, .int .i64 x0.Cursor, .slice A50 x0.Order.length c51, .slice A63 d62.length c64, .slice A142 d141.length c143, .slice none 0 0, .int .i64 x0.Steps]
   let I24 : It := iOwn (tSl tyFinished 37) [.slice A142 d141.length c143] d141
   show CM Tryz.prog 67 _ _ _ _ [(1, .pointer (some (⟨p41, 0, none⟩ : Addr))), (2, .pointer (some (⟨p42, 0, none⟩ : Addr))), (3, .pointer (some (⟨p54, 0, none⟩ : Addr))), (37, .slice A27 x0.Done.length c28), (38, .int .i64 ((x0.Done.length : Nat) : Int)), (39, .int .i64 ((k138 : Nat) : Int))] [iBox p54 47 K13, I21, I22, iBox p42 47 K7, iBox p41 47 K8, I23, I24]
   refine sr ?_
   refine wv vlss ?_
   refine nt' (CM_seq ?_)
   by_cases hl148 : k138 < x0.Done.length
   ·have g149 := dlT hl148
    refine CM_condT rfl g149 ?_
    refine CM_skip (QM_then (CM_seq (CM_block (sr ?_))))
    obtain ⟨a150, rfl, hb151, he152⟩ := q29 (by omega)
    refine wv (vix 7 k138 underlying44 type37) ?_
    obtain ⟨_, e160, hc153⟩ := he152 k138 _ (gt_some (show k138 < x0.Done.length from by omega))
    obtain ⟨v154, v156, v158, rfl, r155, r157, r159⟩ := tyFinished_rd e160
    have l161 : ((gt x0.Done k138).Query.Conds).length ≤ 68719476736 := (s_0.2.2.2.1.2 _ (gt_mem (show k138 < x0.Done.length from by omega))).1.1
    have l162 : ((gt x0.Done k138).Query.Out).length ≤ 68719476736 := (s_0.2.2.2.1.2 _ (gt_mem (show k138 < x0.Done.length from by omega))).1.2
    have l163 : ((gt x0.Done k138).Rows).length ≤ 68719476736 := (s_0.2.2.2.1.2 _ (gt_mem (show k138 < x0.Done.length from by omega))).2.1
    obtain ⟨m164, A165, c166, rfl, q167, r168⟩ := rdS_op r155
    obtain ⟨m169, A170, c171, rfl, q172, r173⟩ := rdS_op r157
    obtain ⟨m174, A175, c176, rfl, q177, r178⟩ := rdS_op r159
    let K14 : List Value := [.int .i64 ((gt x0.Done k138).Query.Id), .int .i64 ((gt x0.Done k138).Query.Tenant), .slice A165 ((gt x0.Done k138).Query.Conds).length c166, .slice A170 ((gt x0.Done k138).Query.Out).length c171, .int .i64 ((gt x0.Done k138).Time), .int .i64 ((gt x0.Done k138).Steps), .slice A175 ((gt x0.Done k138).Rows).length c176]
    refine wv (fun W hm => rv_loadN (cs := K14) underlying37 type37 rfl rfl (hm.elCells (show (a150.add (k138 * 7)).block < w.heap.size from by rw [add_block]; exact hb151.1) hc153)) ?_
    refine WM_alloc type37 rfl (Wd_none rfl) (by decide) (fun p179 => ?_)
    let K15 : List Value := [.slice A12 x0.Store.Segments.length c13, .int .i64 x0.Store.Now, .int .i64 x0.Cursor, .slice A17 x0.Order.length c18, .slice A22 x0.Active.length c23, .slice (some a150) x0.Done.length c28, .slice A32 x0.Ledger.length c33, .int .i64 x0.Steps]
    refine sb 0 K14 [iBox p54 47 K13, I21, I22, iBox p42 47 K7, iBox p41 47 K15, I23, I24] (fun W hm => hm) type37 ?_
    refine nt' ?_
    refine rd2 8 [7] (s := [iBox p179 37 K14, I21, I22, iBox p42 47 K7, iBox p41 47 K15, I23]) (s2 := [iBox p179 37 K14, iBox p54 47 K13, I21, I22, iBox p42 47 K7, iBox p41 47 K15, I23]) (pk [0, 2, 3, 4, 5, 6]) (pk [0, 1, 2, 3, 4, 5, 6]) ?_
    refine qtD 8 0 1 rfl (vf underlying47 rfl type44) ?_
    refine qtD 8 1 3 rfl (vl 1 5 underlying44) ?_
    refine qtD 8 2 7 rfl (fun W hm => rv_loadN (cs := K14) underlying37 type37 rfl rfl (hm.boxCells (n := 0) rfl)) ?_
    refine qoD 8 3 15 rfl ?_
    refine wcs tyFinished (gt x0.Done k138) (cl_fn cb86 rfl) (fun W hm => impl_copyFinished_c2 W _ (gt x0.Done k138) (tyFinished_mk (x := (gt x0.Done k138)) (hm.rdS0 r168) (hm.rdS0 r173) (hm.rdS0 r178)) (s_0.2.2.2.1.2 _ (gt_mem (show k138 < x0.Done.length from by omega)))) (fun z180 => ?_)
    refine tyFinished_sp ?_
    rintro ⟨v181, v182, v183⟩ rfl
    refine WM_form (n := 0) rfl ?_
    rintro A184 c185 rfl m186
    refine WM_form (n := 1) rfl ?_
    rintro A188 c189 rfl m190
    refine WM_form (n := 2) rfl ?_
    rintro A192 c193 rfl m194
    refine qnD (pk [3, 5, 6, 7, 8, 9]) (pk [3, 4, 5, 6, 7, 8, 9]) ?_
    refine qoD 8 4 31 rfl ?_
    let K16 : List Value := [.int .i64 ((gt x0.Done k138).Query.Id), .int .i64 ((gt x0.Done k138).Query.Tenant), .slice A184 ((gt x0.Done k138).Query.Conds).length c185, .slice A188 ((gt x0.Done k138).Query.Out).length c189, .int .i64 ((gt x0.Done k138).Time), .int .i64 ((gt x0.Done k138).Steps), .slice A192 ((gt x0.Done k138).Rows).length c193]
    refine WM_build (cs := K16) underlying44 type37 rfl (by decide) (by decide) rfl (by kernel_rfl) (Wd_none rfl) (by decide) (fun p196 => ?_)
    refine qnD (pk [4, 6, 7, 8, 9, 10]) (pk [4, 5, 6, 7, 8, 9, 10]) ?_
    refine qoD 8 5 63 rfl ?_
    refine ap1 tyFinished 37 (.slice A142 d141.length c143) d141 (gt x0.Done k138) [iOwn (tSl tyCond 201) [.slice A184 ((gt x0.Done k138).Query.Conds).length c185] ((gt x0.Done k138).Query.Conds), iOwn (tSl tInt 3) [.slice A188 ((gt x0.Done k138).Query.Out).length c189] ((gt x0.Done k138).Query.Out), iOwn (tSl tyRow 73) [.slice A192 ((gt x0.Done k138).Rows).length c193] ((gt x0.Done k138).Rows)] [iBox p179 37 K14, iBox p54 47 K13, I21, I22, iBox p42 47 K7, iBox p41 47 K15, I23] K16 (pk [0, 11, 1, 2, 3, 4, 5, 6, 7, 8, 9, 10]) (fun _ _ hs => Els.single (tyFinished_join (x := (gt x0.Done k138)) hs)) underlying44 type37 (show (d141.length + 1) * 104 ≤ 140737488355328 from by omega) (fun v197 => ?_)
    refine WM_form (n := 0) rfl ?_
    rintro A198 c199 rfl m200
    refine qnD (pk [1, 3, 4, 5, 6, 7]) (pk [1, 2, 3, 4, 5, 6, 7]) ?_
    refine qtD 8 6 127 rfl (vf underlying47 rfl type44) ?_
    refine qoD 8 7 255 rfl ?_
    refine sb 5 [.slice A45 x0.Store.Segments.length c46, .int .i64 x0.Store.Now, .int .i64 x0.Cursor, .slice A50 x0.Order.length c51, .slice A63 d62.length c64, .slice A198 (d141 ++ [(gt x0.Done k138)]).length c199, .slice none 0 0, .int .i64 x0.Steps] [iOwn (tSl tyFinished 37) [.slice A198 (d141 ++ [(gt x0.Done k138)]).length c199] (d141 ++ [(gt x0.Done k138)]), iBox p179 37 K14, I21, I22, iBox p42 47 K7, iBox p41 47 K15, I23] (pk [2, 0, 1, 3, 4, 5, 6, 7]) type44 ?_
    refine qxD (pk [2, 3, 4, 5, 6, 7]) ?_
    refine QB_done (by kernel_rfl) ?_
    refine QM_block_normal (QM_then (CM_region ?_))
    refine wv (vadN k138 1 (by omega)) ?_
    refine wm (WM_nil ?_)
    have hn202 := rng_next (R := DEngine) (body := F2) (k := k138) (s := d141) (s' := (d141 ++ [(gt x0.Done k138)])) (show k138 < x0.Done.length from by omega) (rfl) hF145
    exact QM_round (k138 + 1, (d141 ++ [(gt x0.Done k138)]), (A198, c199)) sl6 (pk [0, 3, 4, 5, 6, 7, 1]) ⟨(by omega), hn202, (show (d141 ++ [(gt x0.Done k138)]).length ≤ 0 + (k138 + 1) from by first | omega | (simp only [List.length_append, List.length_cons, List.length_nil] at *; omega))⟩ (rl (by omega))
   ·have g149 := dlF hl148
    refine CM_condF rfl g149 ?_
    refine CM_exit (QM_then_exit (QM_then_exit ?_))
    have hE203 : R5 (x0.Done.length - 0) 0 [] = Sum.inr d141 := rng_end hl148 hF145
    refine QM_block_hit (QM_then (CM_seq (sr ?_)))
    refine wv (vf underlying47 rfl type45) ?_
    refine wv (vl 4 6 underlying45) ?_
    refine wv (vlen underlying45) ?_
    refine wm (nt' (CM_block ?_))
    refine CM_items (fun W hm => (hm.addNil (E := tyCharge) (e := 133)).last) ?_
    let F3 := fun k (s : (List DCharge)) => impl_copyEngine_b3 x0 k s
    let R6 := rng (R := DEngine) F3
    refine CM_loop (σ := Nat × ((List DCharge)) × (Option Addr × Nat)) (fun s => [(2, .pointer (some (⟨p42, 0, none⟩ : Addr))), (3, .pointer (some (⟨p54, 0, none⟩ : Addr))), (52, .slice A32 x0.Ledger.length c33), (53, .int .i64 ((x0.Ledger.length : Nat) : Int)), (54, .int .i64 ((s.1 : Nat) : Int))]) (fun s => [iBox p54 47 [.slice A45 x0.Store.Segments.length c46, .int .i64 x0.Store.Now, .int .i64 x0.Cursor, .slice A50 x0.Order.length c51, .slice A63 d62.length c64, .slice A142 d141.length c143, .slice s.2.2.1 s.2.1.length s.2.2.2, .int .i64 x0.Steps], I21, I22, iBox p42 47 K7, iBox p41 47 K8, I23, I24, iOwn (tSl tyCharge 133) [.slice s.2.2.1 s.2.1.length s.2.2.2] s.2.1]) (fun s => s.1 ≤ x0.Ledger.length ∧ R6 (x0.Ledger.length - s.1) s.1 s.2.1 = R6 (x0.Ledger.length - 0) 0 [] ∧ s.2.1.length ≤ 0 + s.1) (fun s => x0.Ledger.length - s.1) (0, [], (none, 0)) sl5 (fun W hm => hm) ⟨(by omega), rfl, Nat.le_refl _⟩ ?_
    rintro ⟨k204, d207, ⟨A208, c209⟩⟩ H212
    obtain ⟨hk210, hF211, hi213⟩ : k204 ≤ x0.Ledger.length ∧ R6 (x0.Ledger.length - k204) k204 d207 = R6 (x0.Ledger.length - 0) 0 [] ∧ d207.length ≤ 0 + k204 := H212
    let K17 : List Value := [.slice A45 x0.Store.Segments.length c46, .int .i64 x0.Store.Now, .int .i64 x0.Cursor, .slice A50 x0.Order.length c51, .slice A63 d62.length c64, .slice A142 d141.length c143, .slice A208 d207.length c209, .int .i64 x0.Steps]
    let I25 : It := iOwn (tSl tyCharge 133) [.slice A208 d207.length c209] d207
    show CM Tryz.prog 67 _ _ _ _ [(2, .pointer (some (⟨p42, 0, none⟩ : Addr))), (3, .pointer (some (⟨p54, 0, none⟩ : Addr))), (52, .slice A32 x0.Ledger.length c33), (53, .int .i64 ((x0.Ledger.length : Nat) : Int)), (54, .int .i64 ((k204 : Nat) : Int))] [iBox p54 47 K17, I21, I22, iBox p42 47 K7, iBox p41 47 K8, I23, I24, I25]
    refine sr ?_
    refine wv vlss ?_
    refine nt' (CM_seq ?_)
    by_cases hl214 : k204 < x0.Ledger.length
    ·have g215 := dlT hl214
     refine CM_condT rfl g215 ?_
     refine CM_skip (QM_then (CM_seq (CM_block (sr ?_))))
     obtain ⟨a216, rfl, hb217, he218⟩ := q34 (by omega)
     refine wv (vix 5 k204 underlying45 type133) ?_
     obtain ⟨_, e226, hc219⟩ := he218 k204 _ (gt_some (show k204 < x0.Ledger.length from by omega))
     obtain ⟨v220, v222, v224, rfl, r221, r223, r225⟩ := tyCharge_rd e226
     have l227 : ((gt x0.Ledger k204).Ids).length ≤ 68719476736 := (s_0.2.2.2.2.2 _ (gt_mem (show k204 < x0.Ledger.length from by omega))).1
     have l228 : ((gt x0.Ledger k204).Tenants).length ≤ 68719476736 := (s_0.2.2.2.2.2 _ (gt_mem (show k204 < x0.Ledger.length from by omega))).2.1
     have l229 : ((gt x0.Ledger k204).Rows).length ≤ 68719476736 := (s_0.2.2.2.2.2 _ (gt_mem (show k204 < x0.Ledger.length from by omega))).2.2
     obtain ⟨m230, A231, c232, rfl, q233, r234⟩ := rdS_op r221
     obtain ⟨m235, A236, c237, rfl, q238, r239⟩ := rdS_op r223
     obtain ⟨m240, A241, c242, rfl, q243, r244⟩ := rdS_op r225
     let K18 : List Value := [.int .i64 ((gt x0.Ledger k204).Segment), .int .i64 ((gt x0.Ledger k204).Base), .slice A231 ((gt x0.Ledger k204).Ids).length c232, .slice A236 ((gt x0.Ledger k204).Tenants).length c237, .slice A241 ((gt x0.Ledger k204).Rows).length c242]
     refine wv (fun W hm => rv_loadN (cs := K18) underlying133 type133 rfl rfl (hm.elCells (show (a216.add (k204 * 5)).block < w.heap.size from by rw [add_block]; exact hb217.1) hc219)) ?_
     refine WM_alloc type133 rfl (Wd_none rfl) (by decide) (fun p245 => ?_)
     let K19 : List Value := [.slice A12 x0.Store.Segments.length c13, .int .i64 x0.Store.Now, .int .i64 x0.Cursor, .slice A17 x0.Order.length c18, .slice A22 x0.Active.length c23, .slice A27 x0.Done.length c28, .slice (some a216) x0.Ledger.length c33, .int .i64 x0.Steps]
     refine sb 0 K18 [iBox p54 47 K17, I21, I22, iBox p42 47 K7, iBox p41 47 K19, I23, I24, I25] (fun W hm => hm) type133 ?_
     refine nt' ?_
     refine rd2 8 [7] (s := [iBox p245 133 K18, I21, I22, iBox p42 47 K7, iBox p41 47 K19, I23, I24]) (s2 := [iBox p245 133 K18, iBox p54 47 K17, I21, I22, iBox p42 47 K7, iBox p41 47 K19, I23, I24]) (pk [0, 2, 3, 4, 5, 6, 7]) (pk [0, 1, 2, 3, 4, 5, 6, 7]) ?_
     refine qtD 8 0 1 rfl (vf underlying47 rfl type45) ?_
     refine qtD 8 1 3 rfl (vl 1 6 underlying45) ?_
     refine qtD 8 2 7 rfl (fun W hm => rv_loadN (cs := K18) underlying133 type133 rfl rfl (hm.boxCells (n := 0) rfl)) ?_
     refine qoD 8 3 15 rfl ?_
     refine wcs tyCharge (gt x0.Ledger k204) (cl_fn cb175 rfl) (fun W hm => impl_copyCharge_c2 W _ (gt x0.Ledger k204) (tyCharge_mk (x := (gt x0.Ledger k204)) (hm.rdS0 r234) (hm.rdS0 r239) (hm.rdS0 r244)) (s_0.2.2.2.2.2 _ (gt_mem (show k204 < x0.Ledger.length from by omega)))) (fun z246 => ?_)
     refine tyCharge_sp ?_
     rintro ⟨v247, v248, v249⟩ rfl
     refine WM_form (n := 0) rfl ?_
     rintro A250 c251 rfl m252
     refine WM_form (n := 1) rfl ?_
     rintro A254 c255 rfl m256
     refine WM_form (n := 2) rfl ?_
     rintro A258 c259 rfl m260
     refine qnD (pk [3, 5, 6, 7, 8, 9, 10]) (pk [3, 4, 5, 6, 7, 8, 9, 10]) ?_
     refine qoD 8 4 31 rfl ?_
     let K20 : List Value := [.int .i64 ((gt x0.Ledger k204).Segment), .int .i64 ((gt x0.Ledger k204).Base), .slice A250 ((gt x0.Ledger k204).Ids).length c251, .slice A254 ((gt x0.Ledger k204).Tenants).length c255, .slice A258 ((gt x0.Ledger k204).Rows).length c259]
     refine WM_build (cs := K20) underlying45 type133 rfl (by decide) (by decide) rfl (by kernel_rfl) (Wd_none rfl) (by decide) (fun p262 => ?_)
     refine qnD (pk [4, 6, 7, 8, 9, 10, 11]) (pk [4, 5, 6, 7, 8, 9, 10, 11]) ?_
     refine qoD 8 5 63 rfl ?_
     refine ap1 tyCharge 133 (.slice A208 d207.length c209) d207 (gt x0.Ledger k204) [iOwn (tSl tInt 3) [.slice A250 ((gt x0.Ledger k204).Ids).length c251] ((gt x0.Ledger k204).Ids), iOwn (tSl tInt 3) [.slice A254 ((gt x0.Ledger k204).Tenants).length c255] ((gt x0.Ledger k204).Tenants), iOwn (tSl tInt 3) [.slice A258 ((gt x0.Ledger k204).Rows).length c259] ((gt x0.Ledger k204).Rows)] [iBox p245 133 K18, iBox p54 47 K17, I21, I22, iBox p42 47 K7, iBox p41 47 K19, I23, I24] K20 (pk [0, 12, 1, 2, 3, 4, 5, 6, 7, 8, 9, 10, 11]) (fun _ _ hs => Els.single (tyCharge_join (x := (gt x0.Ledger k204)) hs)) underlying45 type133 (show (d207.length + 1) * 88 ≤ 140737488355328 from by omega) (fun v263 => ?_)
     refine WM_form (n := 0) rfl ?_
     rintro A264 c265 rfl m266
     refine qnD (pk [1, 3, 4, 5, 6, 7, 8]) (pk [1, 2, 3, 4, 5, 6, 7, 8]) ?_
     refine qtD 8 6 127 rfl (vf underlying47 rfl type45) ?_
     refine qoD 8 7 255 rfl ?_
     refine sb 6 [.slice A45 x0.Store.Segments.length c46, .int .i64 x0.Store.Now, .int .i64 x0.Cursor, .slice A50 x0.Order.length c51, .slice A63 d62.length c64, .slice A142 d141.length c143, .slice A264 (d207 ++ [(gt x0.Ledger k204)]).length c265, .int .i64 x0.Steps] [iOwn (tSl tyCharge 133) [.slice A264 (d207 ++ [(gt x0.Ledger k204)]).length c265] (d207 ++ [(gt x0.Ledger k204)]), iBox p245 133 K18, I21, I22, iBox p42 47 K7, iBox p41 47 K19, I23, I24] (pk [2, 0, 1, 3, 4, 5, 6, 7, 8]) type45 ?_
     refine qxD (pk [2, 3, 4, 5, 6, 7, 8]) ?_
     refine QB_done (by kernel_rfl) ?_
     refine QM_block_normal (QM_then (CM_region ?_))
     refine wv (vadN k204 1 (by omega)) ?_
     refine wm (WM_nil ?_)
     have hn268 := rng_next (R := DEngine) (body := F3) (k := k204) (s := d207) (s' := (d207 ++ [(gt x0.Ledger k204)])) (show k204 < x0.Ledger.length from by omega) (rfl) hF211
     exact QM_round (k204 + 1, (d207 ++ [(gt x0.Ledger k204)]), (A264, c265)) sl5 (pk [0, 3, 4, 5, 6, 7, 8, 1]) ⟨(by omega), hn268, (show (d207 ++ [(gt x0.Ledger k204)]).length ≤ 0 + (k204 + 1) from by first | omega | (simp only [List.length_append, List.length_cons, List.length_nil] at *; omega))⟩ (rl (by omega))
    ·have g215 := dlF hl214
     refine CM_condF rfl g215 ?_
     refine CM_exit (QM_then_exit (QM_then_exit ?_))
     have hE269 : R6 (x0.Ledger.length - 0) 0 [] = Sum.inr d207 := rng_end hl214 hF211
     refine QM_block_hit (QM_then (sr ?_))
     refine wv (fun W hm => rv_loadN (cs := K17) underlying47 type47 rfl rfl (hm.boxCells (n := 0) rfl)) ?_
     refine sb 0 K17 [iBox p54 47 K17, I21, I22, iBox p41 47 K8, I23, I24, I25] (pk [3, 0, 1, 2, 4, 5, 6, 7]) type47 ?_
     refine nt' (CM_ret ?_)
     have he270 := (show impl_copyEngine_m x0 = (⟨x0.Store, x0.Cursor, x0.Order, d62, d141, d207, x0.Steps⟩ : DEngine) from fin_inr hE137 (fin_inr hE203 (fin_inr hE269 (rfl))))
     refine QM_r1 rfl (RR_cell (n := 0) rfl rfl underlying47 type47 rfl) (fun W hm => ⟨K17, ?_, ?_⟩)
     ·first | rw [he270] | rfl
     ·rw [he270]; exact Mem.join (is := [I22, I21, I23, I24, I25]) (js := []) (fun _ _ hs => tyEngine_join (x := (⟨x0.Store, x0.Cursor, x0.Order, d62, d141, d207, x0.Steps⟩ : DEngine)) hs) (hm.pick [3, 2, 5, 6, 7] (by decide))
 ·
  refine qtD 13 0 1 rfl (vf underlying47 rfl type42) ?_
  refine qtD 13 1 3 rfl (fun W hm => rv_loadN (cs := [.slice A12 x0.Store.Segments.length c13, .int .i64 x0.Store.Now]) underlying42 type42 rfl rfl (hm.boxPart (n := 1) rfl rfl)) ?_
  refine qtD 13 3 11 rfl (vf underlying47 rfl type3) ?_
  refine qtD 13 4 27 rfl (vl 1 2 underlying3) ?_
  refine qtD 13 5 59 rfl (vf underlying47 rfl type25) ?_
  refine qtD 13 6 123 rfl (vl 1 3 underlying25) ?_
  refine qtD 13 8 379 rfl (vf underlying47 rfl type3) ?_
  refine qtD 13 9 891 rfl (vl 1 7 underlying3) ?_
  refine qaD [2, 11] ?_
  refine qcD 13 895 rfl ?_ ?_
  ·
   refine wcs tyStore x0.Store (cl_fn cb173 rfl) (fun W hm => impl_copyStore_c2 W _ x0.Store (tyStore_mk (x := x0.Store) (hm.rdS0 r15)) s_0.1) (fun z271 => ?_)
   refine tyStore_sp ?_
   rintro v272 rfl
   refine WM_form (n := 0) rfl ?_
   rintro A273 c274 rfl m275
   refine qnD (pk [1, 2]) (pk [1, 2]) ?_
   refine qaD [7, 11] ?_
   refine qcD 13 1023 rfl ?_ ?_
   ·
    refine wcl (tSl tInt 3) x0.Order (cl_fn cb136 rfl) (fun W hm => impl_copyInts_c2 W _ x0.Order (hm.rdS0 r20) s_0.2.1) (fun z277 => ?_)
    refine WM_form (n := 0) rfl ?_
    rintro A278 c279 rfl m280
    refine qnD (pk [2, 3]) (pk [2, 3]) ?_
    refine qtD 13 10 2047 rfl (fun W hm => rv_build (cs := [.slice A273 x0.Store.Segments.length c274, .int .i64 x0.Store.Now, .int .i64 x0.Cursor, .slice A278 x0.Order.length c279, .slice none 0 0, .slice none 0 0, .slice none 0 0, .int .i64 x0.Steps]) rfl (by kernel_rfl)) ?_
    refine qoD 13 11 4095 rfl ?_
    refine WM_alloc type47 rfl (Wd_none rfl) (by decide) (fun p282 => ?_)
    refine qnD (pk [3, 4]) (pk [3, 4]) ?_
    exact QD_sub sl4 (fun W hm => hm) (H (A273, c274, A278, c279, p282))
   refine qcD 13 2943 rfl ?_ ?_
   ·
    refine WM_alloc type47 rfl (Wd_none rfl) (by decide) (fun p283 => ?_)
    refine qnD (pk [2, 3]) (pk [2, 3]) ?_
    refine qoD 13 7 3071 rfl ?_
    refine wcl (tSl tInt 3) x0.Order (cl_fn cb136 rfl) (fun W hm => impl_copyInts_c2 W _ x0.Order (hm.rdS0 r20) s_0.2.1) (fun z284 => ?_)
    refine WM_form (n := 0) rfl ?_
    rintro A285 c286 rfl m287
    refine qnD (pk [3, 4]) (pk [3, 4]) ?_
    refine qtD 13 10 4095 rfl (fun W hm => rv_build (cs := [.slice A273 x0.Store.Segments.length c274, .int .i64 x0.Store.Now, .int .i64 x0.Cursor, .slice A285 x0.Order.length c286, .slice none 0 0, .slice none 0 0, .slice none 0 0, .int .i64 x0.Steps]) rfl (by kernel_rfl)) ?_
    exact QD_sub sl4 (pk [1, 0, 2, 3, 4]) (H (A273, c274, A285, c286, p283))
   exact QDs_nil
  refine qcD 13 2939 rfl ?_ ?_
  ·
   refine WM_alloc type47 rfl (Wd_none rfl) (by decide) (fun p289 => ?_)
   refine qnD (pk [1, 2]) (pk [1, 2]) ?_
   refine qoD 13 2 2943 rfl ?_
   refine wcs tyStore x0.Store (cl_fn cb173 rfl) (fun W hm => impl_copyStore_c2 W _ x0.Store (tyStore_mk (x := x0.Store) (hm.rdS0 r15)) s_0.1) (fun z290 => ?_)
   refine tyStore_sp ?_
   rintro v291 rfl
   refine WM_form (n := 0) rfl ?_
   rintro A292 c293 rfl m294
   refine qnD (pk [2, 3]) (pk [2, 3]) ?_
   refine qoD 13 7 3071 rfl ?_
   refine wcl (tSl tInt 3) x0.Order (cl_fn cb136 rfl) (fun W hm => impl_copyInts_c2 W _ x0.Order (hm.rdS0 r20) s_0.2.1) (fun z296 => ?_)
   refine WM_form (n := 0) rfl ?_
   rintro A297 c298 rfl m299
   refine qnD (pk [3, 4]) (pk [3, 4]) ?_
   refine qtD 13 10 4095 rfl (fun W hm => rv_build (cs := [.slice A292 x0.Store.Segments.length c293, .int .i64 x0.Store.Now, .int .i64 x0.Cursor, .slice A297 x0.Order.length c298, .slice none 0 0, .slice none 0 0, .slice none 0 0, .int .i64 x0.Steps]) rfl (by kernel_rfl)) ?_
   exact QD_sub sl4 (pk [2, 0, 1, 3, 4]) (H (A292, c293, A297, c298, p289))
  exact QDs_nil
theorem impl_copyEngine_eq (x0 : DEngine) : impl_copyEngine_m x0 = x0 := by
 unfold impl_copyEngine_m; rw [rng_app (xs := x0.Active) (b := fun k s => impl_copyEngine_b1 x0 k s) (fun _ _ => rfl), rng_app (xs := x0.Done) (b := fun k s => impl_copyEngine_b2 x0 k s) (fun _ _ => rfl), rng_app (xs := x0.Ledger) (b := fun k s => impl_copyEngine_b3 x0 k s) (fun _ _ => rfl)]; rfl
theorem impl_copyEngine_c2 (w : World) (z0 : List Value) (x0 : DEngine) (r_0 : tyEngine.rd w w.heap.size z0 x0) (s_0 : smEngine 68719476736 x0) :
  Calls Tryz.prog 101 #[.agg z0.toArray] w fun e w' => ∃ v : List Value, e = .returned (.agg v.toArray) ∧ Mem w.heap.size w [iOwn tyEngine v x0] w' := by
 have h := impl_copyEngine_c w z0 x0 r_0 s_0
 rw [impl_copyEngine_eq] at h
 exact h

def impl_within_m (x0 : Int) (x1 : Int) (x2 : Int) : Bool :=
 cond (decide (x1 ≤ x0)) (decide (x0 ≤ x2)) false
theorem cb118 : Cb Tryz.prog 118 := ⟨f118, _, func118, rfl, by decide⟩
theorem impl_within_c (w : World) (x0 : Int) (x1 : Int) (x2 : Int) :
  Calls Tryz.prog 118 #[.int .i64 x0, .int .i64 x1, .int .i64 x2] w fun e w' => e = .returned (.bool (impl_within_m x0 x1 x2)) ∧ Below w.heap.size w w' := by
 refine ce3 (L := [(0, .int .i64 x0), (1, .int .i64 x1), (2, .int .i64 x2)]) (N := 15) func118 ?_
 refine sr (wa (nt' (sr (wm (wm ?_)))))
 refine wv (fun W hm => rv_geq rfl rfl) ?_
 refine wm ?_
 by_cases h1 : x1 ≤ x0
 ·have g2 := decide_eq_true h1
  refine wg vmv g2 ?_
  refine wg vmv g2 ?_
  refine wg (fun W hm => rv_leq rfl rfl) g2 ?_
  refine wv (vpT g2) ?_
  refine wa (nt' (CM_ret ?_))
  exact rtb (h := cond_t g2 (rfl))
 ·have g2 := decide_eq_false h1
  refine ws g2 ?_
  refine ws g2 ?_
  refine ws g2 ?_
  refine wv (vpF g2) ?_
  refine wa (nt' (CM_ret ?_))
  exact rtb (h := cond_f g2 (rfl))

theorem impl_within_fact {x a b : Int} (h : impl_within_m x a b = true) : a ≤ x ∧ x ≤ b := by
  unfold impl_within_m at h
  by_cases h1 : a ≤ x
  · rw [decide_eq_true h1] at h
    exact ⟨h1, of_decide_eq_true h⟩
  · rw [decide_eq_false h1] at h
    cases h
theorem impl_within_iff (x a b : Int) : impl_within_m x a b = decide (a ≤ x ∧ x ≤ b) := by
  unfold impl_within_m
  by_cases h1 : a ≤ x
  · by_cases h2 : x ≤ b
    · simp [h1, h2]
    · simp [h1, h2]
  · simp [h1]

def impl_rowOf_m (x0 : DVersion) : DRow :=
 (⟨x0.Id, x0.Values⟩ : DRow)
theorem cb177 : Cb Tryz.prog 177 := ⟨f177, _, func177, rfl, by decide⟩
theorem impl_rowOf_c (w : World) (z0 : List Value) (x0 : DVersion) (r_0 : tyVersion.rd w w.heap.size z0 x0) (s_0 : smVersion 68719476736 x0) :
  Calls Tryz.prog 177 #[.agg z0.toArray] w fun e w' => ∃ v : List Value, e = .returned (.agg v.toArray) ∧ Mem w.heap.size w [iOwn tyRow v (impl_rowOf_m x0)] w' := by
 obtain ⟨v1, rfl, r2⟩ := tyVersion_rd r_0
 obtain ⟨m3, A4, c5, rfl, q6, r7⟩ := rdS_op r2
 have l8 : x0.Values.length ≤ 68719476736 := s_0
 refine ce1 (L := [(0, .agg #[.int .i64 x0.Id, .slice A4 x0.Values.length c5, .int .i64 x0.Born, .int .i64 x0.Died])]) (N := 9) func177 ?_
 refine sr ?_
 refine WM_box rfl (Wd_none rfl) (by decide) (fun p9 => ?_)
 refine WM_alloc type73 rfl (Wd_none rfl) (by decide) (fun p10 => ?_)
 refine nt' (CM_seq ?_)
 let K1 : List Value := [.int .i64 x0.Id, .slice A4 x0.Values.length c5, .int .i64 x0.Born, .int .i64 x0.Died]
 refine rd2 7 [6] (s := [iBox p9 191 K1]) (s2 := [iBox p10 73 [.int .i64 0, .slice none 0 0], iBox p9 191 K1]) (pk [1]) (fun W hm => hm) ?_
 refine qtD 7 0 1 rfl (vf underlying191 rfl type3) ?_
 refine qtD 7 1 3 rfl (vl 1 0 underlying3) ?_
 refine qtD 7 2 7 rfl (vf underlying191 rfl type25) ?_
 refine qtD 7 3 15 rfl (vl 1 1 underlying25) ?_
 refine qoD 7 4 31 rfl ?_
 refine wcl (tSl tInt 3) x0.Values (cl_fn cb136 rfl) (fun W hm => impl_copyInts_c2 W _ x0.Values (hm.rdS0 r7) s_0) (fun z11 => ?_)
 refine WM_form (n := 0) rfl ?_
 rintro A12 c13 rfl m14
 refine qnD (pk [2]) (pk [1, 2]) ?_
 refine qtD 7 5 63 rfl (fun W hm => rv_build (cs := [.int .i64 x0.Id, .slice A12 x0.Values.length c13]) rfl (by kernel_rfl)) ?_
 refine qoD 7 6 127 rfl ?_
 let I2 : It := iOwn (tSl tInt 3) [.slice A12 x0.Values.length c13] x0.Values
 refine sb 0 [.int .i64 x0.Id, .slice A12 x0.Values.length c13] [I2, iBox p9 191 K1] (pk [1, 0, 2]) type73 ?_
 refine qxD (pk [2]) ?_
 refine QB_done (by kernel_rfl) ?_
 refine QM_then (CM_ret ?_)
 have he16 := (show impl_rowOf_m x0 = (⟨x0.Id, x0.Values⟩ : DRow) from rfl)
 refine QM_r1 rfl (RR_cell (n := 0) rfl rfl underlying73 type73 rfl) (fun W hm => ⟨[.int .i64 x0.Id, .slice A12 x0.Values.length c13], ?_, ?_⟩)
 ·first | rw [he16] | rfl
 ·rw [he16]; exact Mem.join (is := [I2]) (js := []) (fun _ _ hs => tyRow_join (x := (⟨x0.Id, x0.Values⟩ : DRow)) hs) (hm.pick [1] (by decide))

def impl_IsRow_b1 (x0 : DRow) (k9 : Nat) : Bool ⊕ (Unit) :=
 cond (impl_within_m (gt x0.Values k9) 0 99) (Sum.inr ()) (Sum.inl false)
def impl_IsRow_m (x0 : DRow) : Bool :=
 Sum.elim id (fun (s : Unit) => cond (impl_within_m x0.Id 0 999) (((x0.Values.length : Nat) : Int) == 3) false) (rng (R := Bool) (fun k (_ : Unit) => impl_IsRow_b1 x0 k) (x0.Values.length - 0) 0 ())
theorem cb178 : Cb Tryz.prog 178 := ⟨f178, _, func178, rfl, by decide⟩
theorem impl_IsRow_c (w : World) (z0 : List Value) (x0 : DRow) (r_0 : tyRow.rd w w.heap.size z0 x0) :
  Calls Tryz.prog 178 #[.agg z0.toArray] w fun e w' => e = .returned (.bool (impl_IsRow_m x0)) ∧ Below w.heap.size w w' := by
 obtain ⟨v1, rfl, r2⟩ := tyRow_rd r_0
 obtain ⟨m3, A4, c5, rfl, q6, r7⟩ := rdS_op r2
 refine ce1 (L := [(0, .agg #[.int .i64 x0.Id, .slice A4 x0.Values.length c5])]) (N := 25) func178 ?_
 refine sr ?_
 refine WM_box rfl (Wd_none rfl) (by decide) (fun p8 => ?_)
 refine wa (nt' (CM_seq (sr ?_)))
 refine wv (vf underlying73 rfl type25) ?_
 refine wv (vl 0 1 underlying25) ?_
 refine wv (vlen underlying25) ?_
 refine wm (nt' (CM_block ?_))
 let F1 := fun k (_ : Unit) => impl_IsRow_b1 x0 k
 let R2 := rng (R := Bool) F1
 let I3 : It := iBox p8 73 [.int .i64 x0.Id, .slice A4 x0.Values.length c5]
 refine CM_loop (σ := Nat × (Unit) × (Unit)) (fun s => [(1, .pointer (some (⟨p8, 0, none⟩ : Addr))), (6, .slice A4 x0.Values.length c5), (7, .int .i64 ((x0.Values.length : Nat) : Int)), (8, .int .i64 ((s.1 : Nat) : Int))]) (fun s => [I3]) (fun s => s.1 ≤ x0.Values.length ∧ R2 (x0.Values.length - s.1) s.1 s.2.1 = R2 (x0.Values.length - 0) 0 ()) (fun s => x0.Values.length - s.1) (0, (), ()) sl4 (fun W hm => hm) ⟨(by omega), rfl⟩ ?_
 rintro ⟨k9, ⟨⟩, ⟨⟩⟩ H12
 obtain ⟨hk10, hF11⟩ : k9 ≤ x0.Values.length ∧ R2 (x0.Values.length - k9) k9 () = R2 (x0.Values.length - 0) 0 () := H12
 show CM Tryz.prog 25 _ _ _ _ [(1, .pointer (some (⟨p8, 0, none⟩ : Addr))), (6, .slice A4 x0.Values.length c5), (7, .int .i64 ((x0.Values.length : Nat) : Int)), (8, .int .i64 ((k9 : Nat) : Int))] [I3]
 refine sr ?_
 refine wv vlss ?_
 refine nt' (CM_seq ?_)
 by_cases hl13 : k9 < x0.Values.length
 ·have g14 := dlT hl13
  refine CM_condT rfl g14 ?_
  refine CM_skip (QM_then (CM_seq (CM_block (sr ?_))))
  obtain ⟨a15, rfl, hb16, he17⟩ := q6 (by omega)
  refine wv (vix 1 k9 underlying25 type3) ?_
  refine wv (fun W hm => rv_load underlying3 rfl rfl ((hm.cell0 (show (a15.add (k9 * 1)).block < w.heap.size from by rw [add_block]; exact hb16.1)).trans (rdS_int he17 k9 (by omega)))) ?_
  refine wa (nt' (sr (wm ?_)))
  refine wcv (cl_fn cb118 rfl) (fun W hm => impl_within_c W (gt x0.Values k9) 0 99) ?_
  refine wv vnot ?_
  refine nt' ?_
  rcases Bool.eq_false_or_eq_true (impl_within_m (gt x0.Values k9) 0 99) with g19 | g19
  ·
   have hw := impl_within_fact g19
   refine CM_condF rfl (nt g19) ?_
   refine CM_skip (QM_block_normal (QM_then (CM_region ?_)))
   refine wv (vadN k9 1 (by omega)) ?_
   refine wm (WM_nil ?_)
   have hn20 := rng_next (R := Bool) (body := F1) (k := k9) (s := ()) (s' := ()) (show k9 < x0.Values.length from by omega) (cond_t g19 (rfl)) hF11
   exact QM_round (k9 + 1, (), ()) sl4 (fun W hm => hm) ⟨(by omega), hn20⟩ (rl (by omega))
  ·
   refine CM_condT rfl (nf g19) ?_
   refine sr (wa (nt' (CM_ret (QM_block_ret (QM_then_ret (QM_then_ret (QM_block_ret (QM_then_ret ?_))))))))
   exact rtb (h := fin_inl (rng_ret (body := F1) (k := k9) (s := ()) (show k9 < x0.Values.length from by omega) (cond_f g19 (rfl)) hF11) rfl)
 ·have g14 := dlF hl13
  refine CM_condF rfl g14 ?_
  refine CM_exit (QM_then_exit (QM_then_exit ?_))
  have hE21 : R2 (x0.Values.length - 0) 0 () = Sum.inr () := rng_end hl13 hF11
  refine QM_block_hit (QM_then (sr ?_))
  refine wv (vf underlying73 rfl type3) ?_
  refine wv (vl 0 0 underlying3) ?_
  refine wcv (cl_fn cb118 rfl) (fun W hm => impl_within_c W x0.Id 0 999) ?_
  refine wm ?_
  rcases Bool.eq_false_or_eq_true (impl_within_m x0.Id 0 999) with g23 | g23
  ·
   have hw := impl_within_fact g23
   refine wg (vf underlying73 rfl type25) g23 ?_
   refine wg (vl 0 1 underlying25) g23 ?_
   refine wg (vlen underlying25) g23 ?_
   refine wg (fun W hm => rv_eql rfl rfl) g23 ?_
   refine wv (vpT g23) ?_
   refine wa (nt' (CM_ret ?_))
   exact rtb (h := fin_inr hE21 (cond_t g23 (rfl)))
  ·
   refine ws g23 ?_
   refine ws g23 ?_
   refine ws g23 ?_
   refine ws g23 ?_
   refine wv (vpF g23) ?_
   refine wa (nt' (CM_ret ?_))
   exact rtb (h := fin_inr hE21 (cond_f g23 (rfl)))

def impl_IsVisible_m (x0 : DVersion) (x1 : Int) : Bool :=
 cond (decide (x0.Born ≤ x1)) (cond (x0.Died == (-1)) true (decide (x1 < x0.Died))) false
theorem cb176 : Cb Tryz.prog 176 := ⟨f176, _, func176, rfl, by decide⟩
theorem impl_IsVisible_c (w : World) (z0 : List Value) (x0 : DVersion) (x1 : Int) (r_0 : tyVersion.rd w w.heap.size z0 x0) :
  Calls Tryz.prog 176 #[.agg z0.toArray, .int .i64 x1] w fun e w' => e = .returned (.bool (impl_IsVisible_m x0 x1)) ∧ Below w.heap.size w w' := by
 obtain ⟨v1, rfl, r2⟩ := tyVersion_rd r_0
 obtain ⟨m3, A4, c5, rfl, q6, r7⟩ := rdS_op r2
 refine ce2 (L := [(0, .agg #[.int .i64 x0.Id, .slice A4 x0.Values.length c5, .int .i64 x0.Born, .int .i64 x0.Died]), (1, .int .i64 x1)]) (N := 20) func176 ?_
 refine sr ?_
 refine WM_box rfl (Wd_none rfl) (by decide) (fun p8 => ?_)
 refine wa (nt' (sr ?_))
 refine wv (vf underlying191 rfl type3) ?_
 refine wv (vl 0 2 underlying3) ?_
 refine wm ?_
 refine wv (fun W hm => rv_leq rfl rfl) ?_
 refine wm ?_
 by_cases h9 : x0.Born ≤ x1
 ·have g10 := decide_eq_true h9
  refine wg (vf underlying191 rfl type3) g10 ?_
  refine wg (vl 0 3 underlying3) g10 ?_
  refine wg (fun W hm => rv_eql rfl rfl) g10 ?_
  refine wg vmv g10 ?_
  by_cases h11 : x0.Died = (-1)
  ·have g12 := beq_iff_eq.2 h11
   refine ws g12 ?_
   refine ws g12 ?_
   refine ws g12 ?_
   refine ws g12 ?_
   refine wg (vpT g12) g10 ?_
   refine wv (vpT g10) ?_
   refine wa (nt' (CM_ret ?_))
   exact rtb (h := cond_t g10 (cond_t g12 (rfl)))
  ·have g12 := beq_eq_false_iff_ne.2 h11
   refine wg (vf underlying191 rfl type3) g12 ?_
   refine wg (vl 0 3 underlying3) g12 ?_
   refine wg vmv g12 ?_
   refine wg (fun W hm => rv_gtr rfl rfl) g12 ?_
   refine wg (vpF g12) g10 ?_
   refine wv (vpT g10) ?_
   refine wa (nt' (CM_ret ?_))
   exact rtb (h := cond_t g10 (cond_f g12 (rfl)))
 ·have g10 := decide_eq_false h9
  refine ws g10 ?_
  refine ws g10 ?_
  refine ws g10 ?_
  refine ws g10 ?_
  refine wu ?_
  refine wu ?_
  refine wu ?_
  refine wu ?_
  refine ws g10 ?_
  refine wv (vpF g10) ?_
  refine wa (nt' (CM_ret ?_))
  exact rtb (h := cond_f g10 (rfl))

def impl_meetInTime_m (x0 : DVersion) (x1 : DVersion) : Bool :=
 cond (impl_IsVisible_m x0 x1.Born) true (impl_IsVisible_m x1 x0.Born)
theorem cb184 : Cb Tryz.prog 184 := ⟨f184, _, func184, rfl, by decide⟩
theorem impl_meetInTime_c (w : World) (z0 : List Value) (x0 : DVersion) (z1 : List Value) (x1 : DVersion) (r_0 : tyVersion.rd w w.heap.size z0 x0) (r_1 : tyVersion.rd w w.heap.size z1 x1) :
  Calls Tryz.prog 184 #[.agg z0.toArray, .agg z1.toArray] w fun e w' => e = .returned (.bool (impl_meetInTime_m x0 x1)) ∧ Below w.heap.size w w' := by
 obtain ⟨v1, rfl, r2⟩ := tyVersion_rd r_0
 obtain ⟨m3, A4, c5, rfl, q6, r7⟩ := rdS_op r2
 obtain ⟨v8, rfl, r9⟩ := tyVersion_rd r_1
 obtain ⟨m10, A11, c12, rfl, q13, r14⟩ := rdS_op r9
 refine ce2 (L := [(0, .agg #[.int .i64 x0.Id, .slice A4 x0.Values.length c5, .int .i64 x0.Born, .int .i64 x0.Died]), (1, .agg #[.int .i64 x1.Id, .slice A11 x1.Values.length c12, .int .i64 x1.Born, .int .i64 x1.Died])]) (N := 15) func184 ?_
 refine sr ?_
 refine WM_box rfl (Wd_none rfl) (by decide) (fun p15 => ?_)
 refine WM_box rfl (Wd_none rfl) (by decide) (fun p16 => ?_)
 refine wa (nt' (sr ?_))
 refine wv (fun W hm => rv_loadN (cs := [.int .i64 x0.Id, .slice A4 x0.Values.length c5, .int .i64 x0.Born, .int .i64 x0.Died]) underlying191 type191 rfl rfl (hm.boxCells (n := 1) rfl)) ?_
 refine wv (vf underlying191 rfl type3) ?_
 refine wv (vl 0 2 underlying3) ?_
 refine wcv (cl_fn cb176 rfl) (fun W hm => impl_IsVisible_c W _ x0 x1.Born (tyVersion_mk (x := x0) (hm.rdS0 r7))) ?_
 refine wm ?_
 rcases Bool.eq_false_or_eq_true (impl_IsVisible_m x0 x1.Born) with g18 | g18
 ·
  refine ws g18 ?_
  refine ws g18 ?_
  refine ws g18 ?_
  refine ws g18 ?_
  refine wv (vpT g18) ?_
  refine wa (nt' (CM_ret ?_))
  exact rtb (h := cond_t g18 (rfl))
 ·
  refine wg (fun W hm => rv_loadN (cs := [.int .i64 x1.Id, .slice A11 x1.Values.length c12, .int .i64 x1.Born, .int .i64 x1.Died]) underlying191 type191 rfl rfl (hm.boxCells (n := 0) rfl)) g18 ?_
  refine wg (vf underlying191 rfl type3) g18 ?_
  refine wg (vl 1 2 underlying3) g18 ?_
  refine WM_callV (cl_fn cb176 rfl) (fun W hm => impl_IsVisible_c W _ x1 x0.Born (tyVersion_mk (x := x1) (hm.rdS0 r14))) (Wd_some rfl rfl rfl (bw g18 rfl)) (by decide) ?_
  refine wv (vpF g18) ?_
  refine wa (nt' (CM_ret ?_))
  exact rtb (h := cond_f g18 (rfl))

def impl_IsStore_b3 (x0 : DStore) (k16 : Nat) (k41 : Nat) (d42 : (List DVersion)) (k77 : Nat) : Bool ⊕ (Unit) :=
 cond (((gt (gt x0.Segments k16) k41).Id) == ((gt d42 k77).Id)) (cond (impl_meetInTime_m (gt (gt x0.Segments k16) k41) (gt d42 k77)) (Sum.inl false) (Sum.inr ())) (Sum.inr ())
def impl_IsStore_b4 (x0 : DStore) (k16 : Nat) (k41 : Nat) (d42 : (List DVersion)) (k112 : Nat) : Bool ⊕ (Unit) :=
 cond (((gt (gt x0.Segments k16) k41).Id) == ((gt d42 k112).Id)) (cond (impl_meetInTime_m (gt (gt x0.Segments k16) k41) (gt d42 k112)) (Sum.inl false) (Sum.inr ())) (Sum.inr ())
def impl_IsStore_b2 (x0 : DStore) (k16 : Nat) (k41 : Nat) (d42 : (List DVersion)) : Bool ⊕ ((List DVersion)) :=
 cond (impl_IsRow_m (impl_rowOf_m (gt (gt x0.Segments k16) k41))) (cond (impl_within_m ((gt (gt x0.Segments k16) k41).Born) 0 x0.Now) (cond (((gt (gt x0.Segments k16) k41).Died) != (-1)) (cond (impl_within_m ((gt (gt x0.Segments k16) k41).Died) (IntKind.i64.wrap (((gt (gt x0.Segments k16) k41).Born) + 1)) x0.Now) (Sum.elim Sum.inl (fun (s : Unit) => Sum.inr (d42 ++ [(gt (gt x0.Segments k16) k41)])) (rng (R := Bool) (fun k (_ : Unit) => impl_IsStore_b4 x0 k16 k41 d42 k) (d42.length - 0) 0 ())) (Sum.inl false)) (Sum.elim Sum.inl (fun (s : Unit) => Sum.inr (d42 ++ [(gt (gt x0.Segments k16) k41)])) (rng (R := Bool) (fun k (_ : Unit) => impl_IsStore_b3 x0 k16 k41 d42 k) (d42.length - 0) 0 ()))) (Sum.inl false)) (Sum.inl false)
def impl_IsStore_b1 (x0 : DStore) (k16 : Nat) (d17 : (List DVersion)) : Bool ⊕ ((List DVersion)) :=
 cond (decide (4 < ((((gt x0.Segments k16)).length : Nat) : Int))) (Sum.inl false) (Sum.elim Sum.inl (fun (s : (List DVersion)) => Sum.inr s) (rng (R := Bool) (fun k (s : (List DVersion)) => impl_IsStore_b2 x0 k16 k s) (((gt x0.Segments k16)).length - 0) 0 d17))
def impl_IsStore_m (x0 : DStore) : Bool :=
 cond (impl_within_m ((x0.Segments.length : Nat) : Int) 1 8) (cond (impl_within_m x0.Now 0 100000) (Sum.elim id (fun (s : (List DVersion)) => true) (rng (R := Bool) (fun k (s : (List DVersion)) => impl_IsStore_b1 x0 k s) (x0.Segments.length - 0) 0 [])) false) false
theorem cb117 : Cb Tryz.prog 117 := ⟨f117, _, func117, rfl, by decide⟩
theorem impl_IsStore_c (w : World) (z0 : List Value) (x0 : DStore) (r_0 : tyStore.rd w w.heap.size z0 x0) (s_0 : smStore 68719476736 x0) :
  Calls Tryz.prog 117 #[.agg z0.toArray] w fun e w' => e = .returned (.bool (impl_IsStore_m x0)) ∧ Below w.heap.size w w' := by
 obtain ⟨v1, rfl, r2⟩ := tyStore_rd r_0
 obtain ⟨m3, A4, c5, rfl, q6, r7⟩ := rdS_op r2
 have l8 : x0.Segments.length ≤ 68719476736 := s_0.1
 refine ce1 (L := [(0, .agg #[.slice A4 x0.Segments.length c5, .int .i64 x0.Now])]) (N := 89) func117 ?_
 refine sr ?_
 refine WM_box rfl (Wd_none rfl) (by decide) (fun p9 => ?_)
 refine wa (nt' (CM_seq (sr ?_)))
 refine wv (vf underlying42 rfl type40) ?_
 refine wv (vl 0 0 underlying40) ?_
 refine wv (vlen underlying40) ?_
 refine wcv (cl_fn cb118 rfl) (fun W hm => impl_within_c W ((x0.Segments.length : Nat) : Int) 1 8) ?_
 refine wv vnot ?_
 refine wm ?_
 rcases Bool.eq_false_or_eq_true (impl_within_m ((x0.Segments.length : Nat) : Int) 1 8) with g11 | g11
 ·
  have hw := impl_within_fact g11
  refine wg (vf underlying42 rfl type3) (nt g11) ?_
  refine wg (vl 0 1 underlying3) (nt g11) ?_
  refine WM_callV (cl_fn cb118 rfl) (fun W hm => impl_within_c W x0.Now 0 100000) (Wd_some rfl rfl rfl (bw (nt g11) rfl)) (by decide) ?_
  refine wg vnot (nt g11) ?_
  refine wv (vpF (nt g11)) ?_
  refine nt' ?_
  rcases Bool.eq_false_or_eq_true (impl_within_m x0.Now 0 100000) with g13 | g13
  ·
   have hw := impl_within_fact g13
   refine CM_condF rfl (nt g13) ?_
   refine CM_skip (QM_then (sr ?_))
   refine WM_build0 (E := (tBor tyVersion w w.heap.size)) underlying131 type191 (Wd_none rfl) (by decide) (fun p14 => ?_)
   refine wa (nt' (CM_seq (sr ?_)))
   refine wv (vf underlying42 rfl type40) ?_
   refine wv (vl 1 0 underlying40) ?_
   refine wv (vlen underlying40) ?_
   refine wm (nt' (CM_block ?_))
   let F1 := fun k (s : (List DVersion)) => impl_IsStore_b1 x0 k s
   let R5 := rng (R := Bool) F1
   let I14 : It := iBox p9 42 [.slice A4 x0.Segments.length c5, .int .i64 x0.Now]
   refine CM_loop (σ := Nat × ((List DVersion)) × (Option Addr × Nat)) (fun s => [(1, .pointer (some (⟨p9, 0, none⟩ : Addr))), (3, .slice s.2.2.1 s.2.1.length s.2.2.2), (23, .slice A4 x0.Segments.length c5), (24, .int .i64 ((x0.Segments.length : Nat) : Int)), (25, .int .i64 ((s.1 : Nat) : Int))]) (fun s => [iOwn (tSl (tBor tyVersion w w.heap.size) 191) [.slice s.2.2.1 s.2.1.length s.2.2.2] s.2.1, I14]) (fun s => s.1 ≤ x0.Segments.length ∧ R5 (x0.Segments.length - s.1) s.1 s.2.1 = R5 (x0.Segments.length - 0) 0 [] ∧ s.2.1.length ≤ 0 + 4 * s.1) (fun s => x0.Segments.length - s.1) (0, [], ((some ⟨p14, 0, none⟩), 0)) sl5 (fun W hm => hm) ⟨(by omega), rfl, Nat.le_refl _⟩ ?_
   rintro ⟨k16, d17, ⟨A18, c19⟩⟩ H22
   obtain ⟨hk20, hF21, hi23⟩ : k16 ≤ x0.Segments.length ∧ R5 (x0.Segments.length - k16) k16 d17 = R5 (x0.Segments.length - 0) 0 [] ∧ d17.length ≤ 0 + 4 * k16 := H22
   show CM Tryz.prog 89 _ _ _ _ [(1, .pointer (some (⟨p9, 0, none⟩ : Addr))), (3, .slice A18 d17.length c19), (23, .slice A4 x0.Segments.length c5), (24, .int .i64 ((x0.Segments.length : Nat) : Int)), (25, .int .i64 ((k16 : Nat) : Int))] [iOwn (tSl (tBor tyVersion w w.heap.size) 191) [.slice A18 d17.length c19] d17, I14]
   refine sr ?_
   refine wv vlss ?_
   refine nt' (CM_seq ?_)
   by_cases hl24 : k16 < x0.Segments.length
   ·have g25 := dlT hl24
    refine CM_condT rfl g25 ?_
    refine CM_skip (QM_then (CM_seq (CM_block (sr ?_))))
    obtain ⟨a26, rfl, hb27, he28⟩ := q6 (by omega)
    refine wv (vix 1 k16 underlying40 type131) ?_
    obtain ⟨_, e30, hc29⟩ := he28 k16 _ (gt_some (show k16 < x0.Segments.length from by omega))
    have l31 : (gt x0.Segments k16).length ≤ 68719476736 := (s_0.2 _ (gt_mem (show k16 < x0.Segments.length from by omega))).1
    obtain ⟨v32, rfl, r33⟩ := e30
    obtain ⟨m34, A35, c36, rfl, q37, r38⟩ := rdS_op r33
    refine wv (fun W hm => rv_load underlying131 rfl rfl ((hm.cell0 (show (a26.add (k16 * 1)).block < w.heap.size from by rw [add_block]; exact hb27.1)).trans (hc29 0 _ rfl))) ?_
    refine wa (nt' (CM_seq (sr (wm ?_))))
    refine wv (vlen underlying131) ?_
    refine wv (fun W hm => rv_gtr rfl rfl) ?_
    refine nt' ?_
    by_cases h39 : 4 < ((((gt x0.Segments k16)).length : Nat) : Int)
    ·have g40 := decide_eq_true h39
     refine CM_condT rfl g40 ?_
     refine sr (wa (nt' (CM_ret (QM_then_ret (QM_block_ret (QM_then_ret (QM_then_ret (QM_block_ret (QM_then_ret ?_)))))))))
     exact rtb (h := cond_t g11 (cond_t g13 (fin_inl (rng_ret (body := F1) (k := k16) (s := d17) (show k16 < x0.Segments.length from by omega) (cond_t g40 (rfl)) hF21) rfl)))
    ·have g40 := decide_eq_false h39
     refine CM_condF rfl g40 ?_
     refine CM_skip (QM_then (sr (wm ?_)))
     refine wv (vlen underlying131) ?_
     refine wm (nt' (CM_block ?_))
     let F2 := fun k (s : (List DVersion)) => impl_IsStore_b2 x0 k16 k s
     let R6 := rng (R := Bool) F2
     let I15 : It := iBox p9 42 [.slice (some a26) x0.Segments.length c5, .int .i64 x0.Now]
     refine CM_loop (σ := Nat × ((List DVersion)) × (Option Addr × Nat)) (fun s => [(1, .pointer (some (⟨p9, 0, none⟩ : Addr))), (3, .slice s.2.2.1 s.2.1.length s.2.2.2), (23, .slice (some a26) x0.Segments.length c5), (24, .int .i64 ((x0.Segments.length : Nat) : Int)), (25, .int .i64 ((k16 : Nat) : Int)), (32, .slice A35 ((gt x0.Segments k16)).length c36), (33, .int .i64 ((((gt x0.Segments k16)).length : Nat) : Int)), (34, .int .i64 ((s.1 : Nat) : Int))]) (fun s => [iOwn (tSl (tBor tyVersion w w.heap.size) 191) [.slice s.2.2.1 s.2.1.length s.2.2.2] s.2.1, I15]) (fun s => s.1 ≤ ((gt x0.Segments k16)).length ∧ R6 (((gt x0.Segments k16)).length - s.1) s.1 s.2.1 = R6 (((gt x0.Segments k16)).length - 0) 0 d17 ∧ s.2.1.length ≤ d17.length + s.1) (fun s => ((gt x0.Segments k16)).length - s.1) (0, d17, (A18, c19)) sl8 (fun W hm => hm) ⟨(by omega), rfl, Nat.le_refl _⟩ ?_
     rintro ⟨k41, d42, ⟨A43, c44⟩⟩ H47
     obtain ⟨hk45, hF46, hi48⟩ : k41 ≤ ((gt x0.Segments k16)).length ∧ R6 (((gt x0.Segments k16)).length - k41) k41 d42 = R6 (((gt x0.Segments k16)).length - 0) 0 d17 ∧ d42.length ≤ d17.length + k41 := H47
     let I16 : It := iOwn (tSl (tBor tyVersion w w.heap.size) 191) [.slice A43 d42.length c44] d42
     show CM Tryz.prog 89 _ _ _ _ [(1, .pointer (some (⟨p9, 0, none⟩ : Addr))), (3, .slice A43 d42.length c44), (23, .slice (some a26) x0.Segments.length c5), (24, .int .i64 ((x0.Segments.length : Nat) : Int)), (25, .int .i64 ((k16 : Nat) : Int)), (32, .slice A35 ((gt x0.Segments k16)).length c36), (33, .int .i64 ((((gt x0.Segments k16)).length : Nat) : Int)), (34, .int .i64 ((k41 : Nat) : Int))] [I16, I15]
     refine sr ?_
     refine wv vlss ?_
     refine nt' (CM_seq ?_)
     by_cases hl49 : k41 < ((gt x0.Segments k16)).length
     ·have g50 := dlT hl49
      refine CM_condT rfl g50 ?_
      refine CM_skip (QM_then (CM_seq (CM_block (sr ?_))))
      obtain ⟨a51, rfl, hb52, he53⟩ := q37 (by omega)
      refine wv (vix 4 k41 underlying131 type191) ?_
      obtain ⟨_, e57, hc54⟩ := he53 k41 _ (gt_some (show k41 < ((gt x0.Segments k16)).length from by omega))
      obtain ⟨v55, rfl, r56⟩ := tyVersion_rd e57
      have l58 : ((gt (gt x0.Segments k16) k41).Values).length ≤ 68719476736 := ((s_0.2 _ (gt_mem (show k16 < x0.Segments.length from by omega))).2 _ (gt_mem (show k41 < ((gt x0.Segments k16)).length from by omega)))
      obtain ⟨m59, A60, c61, rfl, q62, r63⟩ := rdS_op r56
      let K9 : List Value := [.int .i64 ((gt (gt x0.Segments k16) k41).Id), .slice A60 ((gt (gt x0.Segments k16) k41).Values).length c61, .int .i64 ((gt (gt x0.Segments k16) k41).Born), .int .i64 ((gt (gt x0.Segments k16) k41).Died)]
      refine wv (fun W hm => rv_loadN (cs := K9) underlying191 type191 rfl rfl (hm.elCells (show (a51.add (k41 * 4)).block < w.heap.size from by rw [add_block]; exact hb52.1) hc54)) ?_
      refine WM_alloc type191 rfl (Wd_none rfl) (by decide) (fun p64 => ?_)
      refine sb 0 K9 [I16, I15] (fun W hm => hm) type191 ?_
      refine nt' (CM_seq (sr ?_))
      refine wv (fun W hm => rv_loadN (cs := K9) underlying191 type191 rfl rfl (hm.boxCells (n := 0) rfl)) ?_
      refine wcs tyRow (impl_rowOf_m (gt (gt x0.Segments k16) k41)) (cl_fn cb177 rfl) (fun W hm => impl_rowOf_c W _ (gt (gt x0.Segments k16) k41) (tyVersion_mk (x := (gt (gt x0.Segments k16) k41)) (hm.rdS0 r63)) ((s_0.2 _ (gt_mem (show k16 < x0.Segments.length from by omega))).2 _ (gt_mem (show k41 < ((gt x0.Segments k16)).length from by omega)))) (fun z65 => ?_)
      refine tyRow_sp ?_
      rintro v66 rfl
      refine WM_form (n := 0) rfl ?_
      rintro A67 c68 rfl m69
      refine wcv (cl_fn cb178 rfl) (fun W hm => impl_IsRow_c W _ (impl_rowOf_m (gt (gt x0.Segments k16) k41)) (tyRow_mk (x := (impl_rowOf_m (gt (gt x0.Segments k16) k41))) (hm.rdSI (n := 0) rfl))) ?_
      refine wv vnot ?_
      refine wm ?_
      rcases Bool.eq_false_or_eq_true (impl_IsRow_m (impl_rowOf_m (gt (gt x0.Segments k16) k41))) with g72 | g72
      ·
       refine wg (vf underlying191 rfl type3) (nt g72) ?_
       refine wg (vl 1 2 underlying3) (nt g72) ?_
       refine wg (vf underlying42 rfl type3) (nt g72) ?_
       refine wg (vl 3 1 underlying3) (nt g72) ?_
       refine WM_callV (cl_fn cb118 rfl) (fun W hm => impl_within_c W ((gt (gt x0.Segments k16) k41).Born) 0 x0.Now) (Wd_some rfl rfl rfl (bw (nt g72) rfl)) (by decide) ?_
       refine wg vnot (nt g72) ?_
       refine wv (vpF (nt g72)) ?_
       refine wm ?_
       rcases Bool.eq_false_or_eq_true (impl_within_m ((gt (gt x0.Segments k16) k41).Born) 0 x0.Now) with g74 | g74
       ·
        have hw := impl_within_fact g74
        refine wg (vf underlying191 rfl type3) (nt g74) ?_
        refine wg (vl 1 3 underlying3) (nt g74) ?_
        refine wg vneq (nt g74) ?_
        refine wg vmv (nt g74) ?_
        by_cases h75 : ((gt (gt x0.Segments k16) k41).Died) = (-1)
        ·have g76 : (((gt (gt x0.Segments k16) k41).Died) != (-1)) = false := by rw [h75]; exact bne_self_eq_false _
         refine ws g76 ?_
         refine ws g76 ?_
         refine ws g76 ?_
         refine ws g76 ?_
         refine ws g76 ?_
         refine ws g76 ?_
         refine ws g76 ?_
         refine ws g76 ?_
         refine ws g76 ?_
         refine wg (vpF g76) (nt g74) ?_
         refine wv (vpF (nt g74)) ?_
         refine nt' ?_
         refine CM_condF rfl rfl ?_
         refine CM_skip (QM_then (CM_seq (sr (wm ?_))))
         refine wv (vlen underlying131) ?_
         refine wm (nt' (CM_block ?_))
         let F3 := fun k (_ : Unit) => impl_IsStore_b3 x0 k16 k41 d42 k
         let R7 := rng (R := Bool) F3
         let K10 : List Value := [.slice A67 ((impl_rowOf_m (gt (gt x0.Segments k16) k41)).Values).length c68]
         let I17 : It := iOwn (tSl tInt 3) K10 ((impl_rowOf_m (gt (gt x0.Segments k16) k41)).Values)
         refine CM_loop (σ := Nat × (Unit) × (Unit)) (fun s => [(1, .pointer (some (⟨p9, 0, none⟩ : Addr))), (3, .slice A43 d42.length c44), (7, .pointer (some (⟨p64, 0, none⟩ : Addr))), (23, .slice (some a26) x0.Segments.length c5), (24, .int .i64 ((x0.Segments.length : Nat) : Int)), (25, .int .i64 ((k16 : Nat) : Int)), (32, .slice (some a51) ((gt x0.Segments k16)).length c36), (33, .int .i64 ((((gt x0.Segments k16)).length : Nat) : Int)), (34, .int .i64 ((k41 : Nat) : Int)), (66, .slice A43 d42.length c44), (67, .int .i64 ((d42.length : Nat) : Int)), (68, .int .i64 ((s.1 : Nat) : Int))]) (fun s => [I17, iBox p64 191 K9, I16, I15]) (fun s => s.1 ≤ d42.length ∧ R7 (d42.length - s.1) s.1 s.2.1 = R7 (d42.length - 0) 0 ()) (fun s => d42.length - s.1) (0, (), ()) sl12 (fun W hm => hm) ⟨(by omega), rfl⟩ ?_
         rintro ⟨k77, ⟨⟩, ⟨⟩⟩ H80
         obtain ⟨hk78, hF79⟩ : k77 ≤ d42.length ∧ R7 (d42.length - k77) k77 () = R7 (d42.length - 0) 0 () := H80
         show CM Tryz.prog 89 _ _ _ _ [(1, .pointer (some (⟨p9, 0, none⟩ : Addr))), (3, .slice A43 d42.length c44), (7, .pointer (some (⟨p64, 0, none⟩ : Addr))), (23, .slice (some a26) x0.Segments.length c5), (24, .int .i64 ((x0.Segments.length : Nat) : Int)), (25, .int .i64 ((k16 : Nat) : Int)), (32, .slice (some a51) ((gt x0.Segments k16)).length c36), (33, .int .i64 ((((gt x0.Segments k16)).length : Nat) : Int)), (34, .int .i64 ((k41 : Nat) : Int)), (66, .slice A43 d42.length c44), (67, .int .i64 ((d42.length : Nat) : Int)), (68, .int .i64 ((k77 : Nat) : Int))] [I17, iBox p64 191 K9, I16, I15]
         refine sr ?_
         refine wv vlss ?_
         refine nt' (CM_seq ?_)
         by_cases hl81 : k77 < d42.length
         ·have g82 := dlT hl81
          refine CM_condT rfl g82 ?_
          refine CM_skip (QM_then (CM_seq (CM_block (sr ?_))))
          refine WM_formO (n := 2) rfl (by omega) ?_
          rintro g83 rfl
          refine wv (vix 4 k77 underlying131 type191) ?_
          refine WM_expose (T := tyVersion) (wb := w) (Bb := w.heap.size) (e := 191) (g := g83) (n := d42.length) (c := c44) (xs := d42) (js := [I17, iBox p64 191 K9, I15]) (pk [2, 0, 1, 3]) ?_
          rintro ck84 rk85
          obtain ⟨_, e86, hc87⟩ := rk85.get (j := k77) (by omega)
          obtain ⟨v88, rfl, r89⟩ := tyVersion_rd e86
          obtain ⟨m90, A91, c92, rfl, q93, r94⟩ := rdS_op r89
          let K11 : List Value := [.int .i64 ((gt d42 k77).Id), .slice A91 ((gt d42 k77).Values).length c92, .int .i64 ((gt d42 k77).Born), .int .i64 ((gt d42 k77).Died)]
          refine wv (fun W hm => rv_loadN (cs := K11) underlying191 type191 rfl rfl (hm.rowCells (i := 0) rfl hc87)) ?_
          refine WM_alloc type191 rfl (Wd_none rfl) (by decide) (fun p95 => ?_)
          refine sb 0 K11 [iBox g83 191 ck84, I17, iBox p64 191 K9, I15] (fun W hm => hm) type191 ?_
          refine nt' (sr ?_)
          refine wv (vf underlying191 rfl type3) ?_
          refine wv (vl 3 0 underlying3) ?_
          refine wv (vf underlying191 rfl type3) ?_
          refine wv (vl 0 0 underlying3) ?_
          refine wv (fun W hm => rv_eql rfl rfl) ?_
          refine wm ?_
          by_cases h96 : ((gt (gt x0.Segments k16) k41).Id) = ((gt d42 k77).Id)
          ·have g97 := beq_iff_eq.2 h96
           refine wg (fun W hm => rv_loadN (cs := K9) underlying191 type191 rfl rfl (hm.boxCells (n := 3) rfl)) g97 ?_
           refine wg (fun W hm => rv_loadN (cs := K11) underlying191 type191 rfl rfl (hm.boxCells (n := 0) rfl)) g97 ?_
           refine WM_callV (cl_fn cb184 rfl) (fun W hm => impl_meetInTime_c W _ (gt (gt x0.Segments k16) k41) _ (gt d42 k77) (tyVersion_mk (x := (gt (gt x0.Segments k16) k41)) (hm.rdS0 r63)) (tyVersion_mk (x := (gt d42 k77)) (hm.rdS0 r94))) (Wd_some rfl rfl rfl (bw g97 rfl)) (by decide) ?_
           refine wv (vpT g97) ?_
           refine nt' ?_
           rcases Bool.eq_false_or_eq_true (impl_meetInTime_m (gt (gt x0.Segments k16) k41) (gt d42 k77)) with g99 | g99
           ·
            refine CM_condT rfl g99 ?_
            refine sr (wa (nt' (CM_ret (QM_block_ret (QM_then_ret (QM_then_ret (QM_block_ret (QM_then_ret (QM_block_ret (QM_then_ret (QM_then_ret (QM_block_ret (QM_block_ret (QM_then_ret (QM_then_ret (QM_block_ret (QM_then_ret ?_)))))))))))))))))
            refine QM_items (fun W hm => Mem.hide rk85 (hm.pick [1, 0, 2, 3, 4] (by decide))) ?_
            exact rtb (h := cond_t g11 (cond_t g13 (fin_inl (rng_ret (body := F1) (k := k16) (s := d17) (show k16 < x0.Segments.length from by omega) (cond_f g40 (fin_inl (rng_ret (body := F2) (k := k41) (s := d42) (show k41 < ((gt x0.Segments k16)).length from by omega) (cond_t g72 (cond_t g74 (cond_f g76 (fin_inl (rng_ret (body := F3) (k := k77) (s := ()) (show k77 < d42.length from by omega) (cond_t g97 (cond_t g99 (rfl))) hF79) rfl)))) hF46) rfl)) hF21) rfl)))
           ·
            refine CM_condF rfl g99 ?_
            refine CM_skip (QM_block_normal (QM_then (CM_region ?_)))
            refine wv (vadN k77 1 (by omega)) ?_
            refine wm (WM_nil ?_)
            refine QM_items (fun W hm => Mem.hide rk85 (hm.pick [1, 0, 2, 3, 4] (by decide))) ?_
            have hn100 := rng_next (R := Bool) (body := F3) (k := k77) (s := ()) (s' := ()) (show k77 < d42.length from by omega) (cond_t g97 (cond_f g99 (rfl))) hF79
            exact QM_round (k77 + 1, (), ()) sl12 (pk [2, 3, 0, 4]) ⟨(by omega), hn100⟩ (rl (by omega))
          ·have g97 := beq_eq_false_iff_ne.2 h96
           refine ws g97 ?_
           refine ws g97 ?_
           refine ws g97 ?_
           refine wv (vpF g97) ?_
           refine nt' ?_
           refine CM_condF rfl rfl ?_
           refine CM_skip (QM_block_normal (QM_then (CM_region ?_)))
           refine wv (vadN k77 1 (by omega)) ?_
           refine wm (WM_nil ?_)
           refine QM_items (fun W hm => Mem.hide rk85 (hm.pick [1, 0, 2, 3, 4] (by decide))) ?_
           have hn101 := rng_next (R := Bool) (body := F3) (k := k77) (s := ()) (s' := ()) (show k77 < d42.length from by omega) (cond_f g97 (rfl)) hF79
           exact QM_round (k77 + 1, (), ()) sl12 (pk [2, 3, 0, 4]) ⟨(by omega), hn101⟩ (rl (by omega))
         ·have g82 := dlF hl81
          refine CM_condF rfl g82 ?_
          refine CM_exit (QM_then_exit (QM_then_exit ?_))
          have hE102 : R7 (d42.length - 0) 0 () = Sum.inr () := rng_end hl81 hF79
          refine QM_block_hit (QM_then (CM_region (wm ?_)))
          refine wv (fun W hm => rv_loadN (cs := K9) underlying191 type191 rfl rfl (hm.boxCells (n := 1) rfl)) ?_
          refine WM_build (cs := K9) underlying131 type191 rfl (by decide) (by decide) rfl (by kernel_rfl) (Wd_none rfl) (by decide) (fun p103 => ?_)
          refine ap1 (tBor tyVersion w w.heap.size) 191 (.slice A43 d42.length c44) d42 (gt (gt x0.Segments k16) k41) [] [I17, iBox p64 191 K9, I15] K9 (pk [0, 3, 1, 2, 4]) (fun _ _ hs => by cases (Sep.nil hs); exact (els_cons (E := (tBor tyVersion w w.heap.size)) (L1 := []) ⟨rfl, (tyVersion_mk r63)⟩ els_nil)) underlying131 type191 (show (d42.length + 1) * 48 ≤ 140737488355328 from by omega) (fun v104 => ?_)
          refine WM_form (n := 0) rfl ?_
          rintro A105 c106 rfl m107
          refine wa (WM_nil (QM_block_normal (QM_then (CM_region ?_))))
          refine wv (vadN k41 1 (by omega)) ?_
          refine wm (WM_nil ?_)
          have hn109 := rng_next (R := Bool) (body := F2) (k := k41) (s := d42) (s' := (d42 ++ [(gt (gt x0.Segments k16) k41)])) (show k41 < ((gt x0.Segments k16)).length from by omega) (cond_t g72 (cond_t g74 (cond_f g76 (fin_inr hE102 (rfl))))) hF46
          exact QM_round (k41 + 1, (d42 ++ [(gt (gt x0.Segments k16) k41)]), (A105, c106)) sl8 (pk [0, 3]) ⟨(by omega), hn109, (show (d42 ++ [(gt (gt x0.Segments k16) k41)]).length ≤ d17.length + (k41 + 1) from by first | omega | (simp only [List.length_append, List.length_cons, List.length_nil] at *; omega))⟩ (show ((gt x0.Segments k16)).length - (k41 + 1) < ((gt x0.Segments k16)).length - k41 from by omega)
        ·have g76 : (((gt (gt x0.Segments k16) k41).Died) != (-1)) = true := bne_iff_ne.2 h75
         refine wg (vf underlying191 rfl type3) g76 ?_
         refine wg (vl 1 3 underlying3) g76 ?_
         refine wg (vf underlying191 rfl type3) g76 ?_
         refine wg (vl 1 2 underlying3) g76 ?_
         refine wg vadd g76 ?_
         refine wg (vf underlying42 rfl type3) g76 ?_
         refine wg (vl 3 1 underlying3) g76 ?_
         refine WM_callV (cl_fn cb118 rfl) (fun W hm => impl_within_c W ((gt (gt x0.Segments k16) k41).Died) (IntKind.i64.wrap (((gt (gt x0.Segments k16) k41).Born) + 1)) x0.Now) (Wd_some rfl rfl rfl (bw g76 rfl)) (by decide) ?_
         refine wg vnot g76 ?_
         refine wg (vpT g76) (nt g74) ?_
         refine wv (vpF (nt g74)) ?_
         refine nt' ?_
         rcases Bool.eq_false_or_eq_true (impl_within_m ((gt (gt x0.Segments k16) k41).Died) (IntKind.i64.wrap (((gt (gt x0.Segments k16) k41).Born) + 1)) x0.Now) with g111 | g111
         ·
          have hw := impl_within_fact g111
          refine CM_condF rfl (nt g111) ?_
          refine CM_skip (QM_then (CM_seq (sr (wm ?_))))
          refine wv (vlen underlying131) ?_
          refine wm (nt' (CM_block ?_))
          let F4 := fun k (_ : Unit) => impl_IsStore_b4 x0 k16 k41 d42 k
          let R8 := rng (R := Bool) F4
          let K12 : List Value := [.slice A67 ((impl_rowOf_m (gt (gt x0.Segments k16) k41)).Values).length c68]
          let I18 : It := iOwn (tSl tInt 3) K12 ((impl_rowOf_m (gt (gt x0.Segments k16) k41)).Values)
          refine CM_loop (σ := Nat × (Unit) × (Unit)) (fun s => [(1, .pointer (some (⟨p9, 0, none⟩ : Addr))), (3, .slice A43 d42.length c44), (7, .pointer (some (⟨p64, 0, none⟩ : Addr))), (23, .slice (some a26) x0.Segments.length c5), (24, .int .i64 ((x0.Segments.length : Nat) : Int)), (25, .int .i64 ((k16 : Nat) : Int)), (32, .slice (some a51) ((gt x0.Segments k16)).length c36), (33, .int .i64 ((((gt x0.Segments k16)).length : Nat) : Int)), (34, .int .i64 ((k41 : Nat) : Int)), (66, .slice A43 d42.length c44), (67, .int .i64 ((d42.length : Nat) : Int)), (68, .int .i64 ((s.1 : Nat) : Int))]) (fun s => [I18, iBox p64 191 K9, I16, I15]) (fun s => s.1 ≤ d42.length ∧ R8 (d42.length - s.1) s.1 s.2.1 = R8 (d42.length - 0) 0 ()) (fun s => d42.length - s.1) (0, (), ()) sl12 (fun W hm => hm) ⟨(by omega), rfl⟩ ?_
          rintro ⟨k112, ⟨⟩, ⟨⟩⟩ H115
          obtain ⟨hk113, hF114⟩ : k112 ≤ d42.length ∧ R8 (d42.length - k112) k112 () = R8 (d42.length - 0) 0 () := H115
          show CM Tryz.prog 89 _ _ _ _ [(1, .pointer (some (⟨p9, 0, none⟩ : Addr))), (3, .slice A43 d42.length c44), (7, .pointer (some (⟨p64, 0, none⟩ : Addr))), (23, .slice (some a26) x0.Segments.length c5), (24, .int .i64 ((x0.Segments.length : Nat) : Int)), (25, .int .i64 ((k16 : Nat) : Int)), (32, .slice (some a51) ((gt x0.Segments k16)).length c36), (33, .int .i64 ((((gt x0.Segments k16)).length : Nat) : Int)), (34, .int .i64 ((k41 : Nat) : Int)), (66, .slice A43 d42.length c44), (67, .int .i64 ((d42.length : Nat) : Int)), (68, .int .i64 ((k112 : Nat) : Int))] [I18, iBox p64 191 K9, I16, I15]
          refine sr ?_
          refine wv vlss ?_
          refine nt' (CM_seq ?_)
          by_cases hl116 : k112 < d42.length
          ·have g117 := dlT hl116
           refine CM_condT rfl g117 ?_
           refine CM_skip (QM_then (CM_seq (CM_block (sr ?_))))
           refine WM_formO (n := 2) rfl (by omega) ?_
           rintro g118 rfl
           refine wv (vix 4 k112 underlying131 type191) ?_
           refine WM_expose (T := tyVersion) (wb := w) (Bb := w.heap.size) (e := 191) (g := g118) (n := d42.length) (c := c44) (xs := d42) (js := [I18, iBox p64 191 K9, I15]) (pk [2, 0, 1, 3]) ?_
           rintro ck119 rk120
           obtain ⟨_, e121, hc122⟩ := rk120.get (j := k112) (by omega)
           obtain ⟨v123, rfl, r124⟩ := tyVersion_rd e121
           obtain ⟨m125, A126, c127, rfl, q128, r129⟩ := rdS_op r124
           let K13 : List Value := [.int .i64 ((gt d42 k112).Id), .slice A126 ((gt d42 k112).Values).length c127, .int .i64 ((gt d42 k112).Born), .int .i64 ((gt d42 k112).Died)]
           refine wv (fun W hm => rv_loadN (cs := K13) underlying191 type191 rfl rfl (hm.rowCells (i := 0) rfl hc122)) ?_
           refine WM_alloc type191 rfl (Wd_none rfl) (by decide) (fun p130 => ?_)
           refine sb 0 K13 [iBox g118 191 ck119, I18, iBox p64 191 K9, I15] (fun W hm => hm) type191 ?_
           refine nt' (sr ?_)
           refine wv (vf underlying191 rfl type3) ?_
           refine wv (vl 3 0 underlying3) ?_
           refine wv (vf underlying191 rfl type3) ?_
           refine wv (vl 0 0 underlying3) ?_
           refine wv (fun W hm => rv_eql rfl rfl) ?_
           refine wm ?_
           by_cases h131 : ((gt (gt x0.Segments k16) k41).Id) = ((gt d42 k112).Id)
           ·have g132 := beq_iff_eq.2 h131
            refine wg (fun W hm => rv_loadN (cs := K9) underlying191 type191 rfl rfl (hm.boxCells (n := 3) rfl)) g132 ?_
            refine wg (fun W hm => rv_loadN (cs := K13) underlying191 type191 rfl rfl (hm.boxCells (n := 0) rfl)) g132 ?_
            refine WM_callV (cl_fn cb184 rfl) (fun W hm => impl_meetInTime_c W _ (gt (gt x0.Segments k16) k41) _ (gt d42 k112) (tyVersion_mk (x := (gt (gt x0.Segments k16) k41)) (hm.rdS0 r63)) (tyVersion_mk (x := (gt d42 k112)) (hm.rdS0 r129))) (Wd_some rfl rfl rfl (bw g132 rfl)) (by decide) ?_
            refine wv (vpT g132) ?_
            refine nt' ?_
            rcases Bool.eq_false_or_eq_true (impl_meetInTime_m (gt (gt x0.Segments k16) k41) (gt d42 k112)) with g134 | g134
            ·
             refine CM_condT rfl g134 ?_
             refine sr (wa (nt' (CM_ret (QM_block_ret (QM_then_ret (QM_then_ret (QM_block_ret (QM_then_ret (QM_block_ret (QM_then_ret (QM_then_ret (QM_block_ret (QM_block_ret (QM_then_ret (QM_then_ret (QM_block_ret (QM_then_ret ?_)))))))))))))))))
             refine QM_items (fun W hm => Mem.hide rk120 (hm.pick [1, 0, 2, 3, 4] (by decide))) ?_
             exact rtb (h := cond_t g11 (cond_t g13 (fin_inl (rng_ret (body := F1) (k := k16) (s := d17) (show k16 < x0.Segments.length from by omega) (cond_f g40 (fin_inl (rng_ret (body := F2) (k := k41) (s := d42) (show k41 < ((gt x0.Segments k16)).length from by omega) (cond_t g72 (cond_t g74 (cond_t g76 (cond_t g111 (fin_inl (rng_ret (body := F4) (k := k112) (s := ()) (show k112 < d42.length from by omega) (cond_t g132 (cond_t g134 (rfl))) hF114) rfl))))) hF46) rfl)) hF21) rfl)))
            ·
             refine CM_condF rfl g134 ?_
             refine CM_skip (QM_block_normal (QM_then (CM_region ?_)))
             refine wv (vadN k112 1 (by omega)) ?_
             refine wm (WM_nil ?_)
             refine QM_items (fun W hm => Mem.hide rk120 (hm.pick [1, 0, 2, 3, 4] (by decide))) ?_
             have hn135 := rng_next (R := Bool) (body := F4) (k := k112) (s := ()) (s' := ()) (show k112 < d42.length from by omega) (cond_t g132 (cond_f g134 (rfl))) hF114
             exact QM_round (k112 + 1, (), ()) sl12 (pk [2, 3, 0, 4]) ⟨(by omega), hn135⟩ (rl (by omega))
           ·have g132 := beq_eq_false_iff_ne.2 h131
            refine ws g132 ?_
            refine ws g132 ?_
            refine ws g132 ?_
            refine wv (vpF g132) ?_
            refine nt' ?_
            refine CM_condF rfl rfl ?_
            refine CM_skip (QM_block_normal (QM_then (CM_region ?_)))
            refine wv (vadN k112 1 (by omega)) ?_
            refine wm (WM_nil ?_)
            refine QM_items (fun W hm => Mem.hide rk120 (hm.pick [1, 0, 2, 3, 4] (by decide))) ?_
            have hn136 := rng_next (R := Bool) (body := F4) (k := k112) (s := ()) (s' := ()) (show k112 < d42.length from by omega) (cond_f g132 (rfl)) hF114
            exact QM_round (k112 + 1, (), ()) sl12 (pk [2, 3, 0, 4]) ⟨(by omega), hn136⟩ (rl (by omega))
          ·have g117 := dlF hl116
           refine CM_condF rfl g117 ?_
           refine CM_exit (QM_then_exit (QM_then_exit ?_))
           have hE137 : R8 (d42.length - 0) 0 () = Sum.inr () := rng_end hl116 hF114
           refine QM_block_hit (QM_then (CM_region (wm ?_)))
           refine wv (fun W hm => rv_loadN (cs := K9) underlying191 type191 rfl rfl (hm.boxCells (n := 1) rfl)) ?_
           refine WM_build (cs := K9) underlying131 type191 rfl (by decide) (by decide) rfl (by kernel_rfl) (Wd_none rfl) (by decide) (fun p138 => ?_)
           refine ap1 (tBor tyVersion w w.heap.size) 191 (.slice A43 d42.length c44) d42 (gt (gt x0.Segments k16) k41) [] [I18, iBox p64 191 K9, I15] K9 (pk [0, 3, 1, 2, 4]) (fun _ _ hs => by cases (Sep.nil hs); exact (els_cons (E := (tBor tyVersion w w.heap.size)) (L1 := []) ⟨rfl, (tyVersion_mk r63)⟩ els_nil)) underlying131 type191 (show (d42.length + 1) * 48 ≤ 140737488355328 from by omega) (fun v139 => ?_)
           refine WM_form (n := 0) rfl ?_
           rintro A140 c141 rfl m142
           refine wa (WM_nil (QM_block_normal (QM_then (CM_region ?_))))
           refine wv (vadN k41 1 (by omega)) ?_
           refine wm (WM_nil ?_)
           have hn144 := rng_next (R := Bool) (body := F2) (k := k41) (s := d42) (s' := (d42 ++ [(gt (gt x0.Segments k16) k41)])) (show k41 < ((gt x0.Segments k16)).length from by omega) (cond_t g72 (cond_t g74 (cond_t g76 (cond_t g111 (fin_inr hE137 (rfl)))))) hF46
           exact QM_round (k41 + 1, (d42 ++ [(gt (gt x0.Segments k16) k41)]), (A140, c141)) sl8 (pk [0, 3]) ⟨(by omega), hn144, (show (d42 ++ [(gt (gt x0.Segments k16) k41)]).length ≤ d17.length + (k41 + 1) from by first | omega | (simp only [List.length_append, List.length_cons, List.length_nil] at *; omega))⟩ (show ((gt x0.Segments k16)).length - (k41 + 1) < ((gt x0.Segments k16)).length - k41 from by omega)
         ·
          refine CM_condT rfl (nf g111) ?_
          refine sr (wa (nt' (CM_ret (QM_then_ret (QM_block_ret (QM_then_ret (QM_then_ret (QM_block_ret (QM_block_ret (QM_then_ret (QM_then_ret (QM_block_ret (QM_then_ret ?_)))))))))))))
          exact rtb (h := cond_t g11 (cond_t g13 (fin_inl (rng_ret (body := F1) (k := k16) (s := d17) (show k16 < x0.Segments.length from by omega) (cond_f g40 (fin_inl (rng_ret (body := F2) (k := k41) (s := d42) (show k41 < ((gt x0.Segments k16)).length from by omega) (cond_t g72 (cond_t g74 (cond_t g76 (cond_f g111 (rfl))))) hF46) rfl)) hF21) rfl)))
       ·
        refine ws (nf g74) ?_
        refine ws (nf g74) ?_
        refine ws (nf g74) ?_
        refine ws (nf g74) ?_
        refine wu ?_
        refine wu ?_
        refine wu ?_
        refine wu ?_
        refine wu ?_
        refine wu ?_
        refine wu ?_
        refine wu ?_
        refine wu ?_
        refine ws (nf g74) ?_
        refine wv (vpT (nf g74)) ?_
        refine nt' ?_
        refine CM_condT rfl rfl ?_
        refine sr (wa (nt' (CM_ret (QM_then_ret (QM_block_ret (QM_then_ret (QM_then_ret (QM_block_ret (QM_block_ret (QM_then_ret (QM_then_ret (QM_block_ret (QM_then_ret ?_)))))))))))))
        exact rtb (h := cond_t g11 (cond_t g13 (fin_inl (rng_ret (body := F1) (k := k16) (s := d17) (show k16 < x0.Segments.length from by omega) (cond_f g40 (fin_inl (rng_ret (body := F2) (k := k41) (s := d42) (show k41 < ((gt x0.Segments k16)).length from by omega) (cond_t g72 (cond_f g74 (rfl))) hF46) rfl)) hF21) rfl)))
      ·
       refine ws (nf g72) ?_
       refine ws (nf g72) ?_
       refine ws (nf g72) ?_
       refine ws (nf g72) ?_
       refine ws (nf g72) ?_
       refine ws (nf g72) ?_
       refine wv (vpT (nf g72)) ?_
       refine wm ?_
       refine wk ?_
       refine wk ?_
       refine wk ?_
       refine wk ?_
       refine wu ?_
       refine wu ?_
       refine wu ?_
       refine wu ?_
       refine wu ?_
       refine wu ?_
       refine wu ?_
       refine wu ?_
       refine wu ?_
       refine wk ?_
       refine wv (vpT rfl) ?_
       refine nt' ?_
       refine CM_condT rfl rfl ?_
       refine sr (wa (nt' (CM_ret (QM_then_ret (QM_block_ret (QM_then_ret (QM_then_ret (QM_block_ret (QM_block_ret (QM_then_ret (QM_then_ret (QM_block_ret (QM_then_ret ?_)))))))))))))
       exact rtb (h := cond_t g11 (cond_t g13 (fin_inl (rng_ret (body := F1) (k := k16) (s := d17) (show k16 < x0.Segments.length from by omega) (cond_f g40 (fin_inl (rng_ret (body := F2) (k := k41) (s := d42) (show k41 < ((gt x0.Segments k16)).length from by omega) (cond_f g72 (rfl)) hF46) rfl)) hF21) rfl)))
     ·have g50 := dlF hl49
      refine CM_condF rfl g50 ?_
      refine CM_exit (QM_then_exit (QM_then_exit ?_))
      have hE145 : R6 (((gt x0.Segments k16)).length - 0) 0 d17 = Sum.inr d42 := rng_end hl49 hF46
      refine QM_block_hit (QM_block_normal (QM_then (CM_region ?_)))
      refine wv (vadN k16 1 (by omega)) ?_
      refine wm (WM_nil ?_)
      have hn146 := rng_next (R := Bool) (body := F1) (k := k16) (s := d17) (s' := d42) (show k16 < x0.Segments.length from by omega) (cond_f g40 (fin_inr hE145 (rfl))) hF21
      exact QM_round (k16 + 1, d42, (A43, c44)) sl5 (fun W hm => hm) ⟨(by omega), hn146, (show d42.length ≤ 0 + 4 * (k16 + 1) from by first | omega | (simp only [List.length_append, List.length_cons, List.length_nil] at *; omega))⟩ (rl (by omega))
   ·have g25 := dlF hl24
    refine CM_condF rfl g25 ?_
    refine CM_exit (QM_then_exit (QM_then_exit ?_))
    have hE147 : R5 (x0.Segments.length - 0) 0 [] = Sum.inr d17 := rng_end hl24 hF21
    refine QM_block_hit (QM_then (sr (wa (nt' (CM_ret ?_)))))
    exact rtb (h := cond_t g11 (cond_t g13 (fin_inr hE147 (rfl))))
  ·
   refine CM_condT rfl (nf g13) ?_
   refine sr (wa (nt' (CM_ret (QM_then_ret ?_))))
   exact rtb (h := cond_t g11 (cond_f g13 (rfl)))
 ·
  refine ws (nf g11) ?_
  refine ws (nf g11) ?_
  refine ws (nf g11) ?_
  refine ws (nf g11) ?_
  refine wv (vpT (nf g11)) ?_
  refine nt' ?_
  refine CM_condT rfl rfl ?_
  refine sr (wa (nt' (CM_ret (QM_then_ret ?_))))
  exact rtb (h := cond_f g11 (rfl))

def impl_hasInt_b1 (x0 : (List Int)) (x1 : Int) (k6 : Nat) : Bool ⊕ (Unit) :=
 cond ((gt x0 k6) == x1) (Sum.inl true) (Sum.inr ())
def impl_hasInt_m (x0 : (List Int)) (x1 : Int) : Bool :=
 Sum.elim id (fun (s : Unit) => false) (rng (R := Bool) (fun k (_ : Unit) => impl_hasInt_b1 x0 x1 k) (x0.length - 0) 0 ())
theorem cb108 : Cb Tryz.prog 108 := ⟨f108, _, func108, rfl, by decide⟩
theorem impl_hasInt_c (w : World) (z0 : Value) (x0 : (List Int)) (x1 : Int) (r_0 : rdS tInt w w.heap.size z0 x0) :
  Calls Tryz.prog 108 #[z0, .int .i64 x1] w fun e w' => e = .returned (.bool (impl_hasInt_m x0 x1)) ∧ Below w.heap.size w w' := by
 obtain ⟨m1, A2, c3, rfl, q4, r5⟩ := rdS_op r_0
 refine ce2 (L := [(0, .slice A2 x0.length c3), (1, .int .i64 x1)]) (N := 17) func108 ?_
 refine sr (wa (nt' (CM_seq (sr (wm ?_)))))
 refine wv (vlen underlying25) ?_
 refine wm (nt' (CM_block ?_))
 let F1 := fun k (_ : Unit) => impl_hasInt_b1 x0 x1 k
 let R2 := rng (R := Bool) F1
 refine CM_loop (σ := Nat × (Unit) × (Unit)) (fun s => [(1, .int .i64 x1), (7, .slice A2 x0.length c3), (8, .int .i64 ((x0.length : Nat) : Int)), (9, .int .i64 ((s.1 : Nat) : Int))]) (fun s => []) (fun s => s.1 ≤ x0.length ∧ R2 (x0.length - s.1) s.1 s.2.1 = R2 (x0.length - 0) 0 ()) (fun s => x0.length - s.1) (0, (), ()) sl4 (fun W hm => hm) ⟨(by omega), rfl⟩ ?_
 rintro ⟨k6, ⟨⟩, ⟨⟩⟩ H9
 obtain ⟨hk7, hF8⟩ : k6 ≤ x0.length ∧ R2 (x0.length - k6) k6 () = R2 (x0.length - 0) 0 () := H9
 show CM Tryz.prog 17 _ _ _ _ [(1, .int .i64 x1), (7, .slice A2 x0.length c3), (8, .int .i64 ((x0.length : Nat) : Int)), (9, .int .i64 ((k6 : Nat) : Int))] []
 refine sr ?_
 refine wv vlss ?_
 refine nt' (CM_seq ?_)
 by_cases hl10 : k6 < x0.length
 ·have g11 := dlT hl10
  refine CM_condT rfl g11 ?_
  refine CM_skip (QM_then (CM_seq (CM_block (sr ?_))))
  obtain ⟨a12, rfl, hb13, he14⟩ := q4 (by omega)
  refine wv (vix 1 k6 underlying25 type3) ?_
  refine wv (fun W hm => rv_load underlying3 rfl rfl ((hm.cell0 (show (a12.add (k6 * 1)).block < w.heap.size from by rw [add_block]; exact hb13.1)).trans (rdS_int he14 k6 (by omega)))) ?_
  refine wa (nt' (sr (wm (wm ?_))))
  refine wv (fun W hm => rv_eql rfl rfl) ?_
  refine nt' ?_
  by_cases h15 : (gt x0 k6) = x1
  ·have g16 := beq_iff_eq.2 h15
   refine CM_condT rfl g16 ?_
   refine sr (wa (nt' (CM_ret (QM_block_ret (QM_then_ret (QM_then_ret (QM_block_ret (QM_then_ret ?_))))))))
   exact rtb (h := fin_inl (rng_ret (body := F1) (k := k6) (s := ()) (show k6 < x0.length from by omega) (cond_t g16 (rfl)) hF8) rfl)
  ·have g16 := beq_eq_false_iff_ne.2 h15
   refine CM_condF rfl g16 ?_
   refine CM_skip (QM_block_normal (QM_then (CM_region ?_)))
   refine wv (vadN k6 1 (by omega)) ?_
   refine wm (WM_nil ?_)
   have hn17 := rng_next (R := Bool) (body := F1) (k := k6) (s := ()) (s' := ()) (show k6 < x0.length from by omega) (cond_f g16 (rfl)) hF8
   exact QM_round (k6 + 1, (), ()) sl4 (fun W hm => hm) ⟨(by omega), hn17⟩ (rl (by omega))
 ·have g11 := dlF hl10
  refine CM_condF rfl g11 ?_
  refine CM_exit (QM_then_exit (QM_then_exit ?_))
  have hE18 : R2 (x0.length - 0) 0 () = Sum.inr () := rng_end hl10 hF8
  refine QM_block_hit (QM_then (sr (wa (nt' (CM_ret ?_)))))
  exact rtb (h := fin_inr hE18 (rfl))

def impl_isOrder_b1 (x0 : (List Int)) (k6 : Nat) : Bool ⊕ (Unit) :=
 cond (impl_hasInt_m x0 ((k6 : Nat) : Int)) (Sum.inr ()) (Sum.inl false)
def impl_isOrder_m (x0 : (List Int)) : Bool :=
 Sum.elim id (fun (s : Unit) => (((x0.length : Nat) : Int) == 3)) (rng (R := Bool) (fun k (_ : Unit) => impl_isOrder_b1 x0 k) (3 - 0) 0 ())
theorem cb119 : Cb Tryz.prog 119 := ⟨f119, _, func119, rfl, by decide⟩
theorem impl_isOrder_c (w : World) (z0 : Value) (x0 : (List Int)) (r_0 : rdS tInt w w.heap.size z0 x0) :
  Calls Tryz.prog 119 #[z0] w fun e w' => e = .returned (.bool (impl_isOrder_m x0)) ∧ Below w.heap.size w w' := by
 obtain ⟨m1, A2, c3, rfl, q4, r5⟩ := rdS_op r_0
 refine ce1 (L := [(0, .slice A2 x0.length c3)]) (N := 15) func119 ?_
 refine sr (wa (nt' (CM_seq (sr (wa (nt' (CM_block ?_)))))))
 let F1 := fun k (_ : Unit) => impl_isOrder_b1 x0 k
 let R2 := rng (R := Bool) F1
 refine CM_loop (σ := Nat × (Unit) × (Unit)) (fun s => [(0, .slice A2 x0.length c3), (3, .int .i64 ((s.1 : Nat) : Int))]) (fun s => []) (fun s => s.1 ≤ 3 ∧ R2 (3 - s.1) s.1 s.2.1 = R2 (3 - 0) 0 ()) (fun s => 3 - s.1) (0, (), ()) sl2 (fun W hm => hm) ⟨(by omega), rfl⟩ ?_
 rintro ⟨k6, ⟨⟩, ⟨⟩⟩ H9
 obtain ⟨hk7, hF8⟩ : k6 ≤ 3 ∧ R2 (3 - k6) k6 () = R2 (3 - 0) 0 () := H9
 show CM Tryz.prog 15 _ _ _ _ [(0, .slice A2 x0.length c3), (3, .int .i64 ((k6 : Nat) : Int))] []
 refine CM_seq (sr (wm ?_))
 refine wv vlss ?_
 refine nt' ?_
 by_cases hl10 : k6 < 3
 ·have g11 : (decide (((k6 : Nat) : Int) < 3)) = true := decide_eq_true (by omega)
  refine CM_condT rfl g11 ?_
  refine CM_skip (QM_then (CM_seq (CM_block (sr (wm (wm ?_))))))
  refine wcv (cl_fn cb108 rfl) (fun W hm => impl_hasInt_c W _ x0 ((k6 : Nat) : Int) (hm.rdS0 r5)) ?_
  refine wv vnot ?_
  refine nt' ?_
  rcases Bool.eq_false_or_eq_true (impl_hasInt_m x0 ((k6 : Nat) : Int)) with g13 | g13
  ·
   refine CM_condF rfl (nt g13) ?_
   refine CM_skip (QM_block_normal (QM_then (CM_region (wm ?_))))
   refine wv (vadN k6 1 (by omega)) ?_
   refine wa (WM_nil ?_)
   have hn14 := rng_next (R := Bool) (body := F1) (k := k6) (s := ()) (s' := ()) (show k6 < 3 from by omega) (cond_t g13 (rfl)) hF8
   exact QM_round (k6 + 1, (), ()) sl2 (fun W hm => hm) ⟨(by omega), hn14⟩ (rl (by omega))
  ·
   refine CM_condT rfl (nf g13) ?_
   refine sr (wa (nt' (CM_ret (QM_block_ret (QM_then_ret (QM_then_ret (QM_block_ret (QM_then_ret ?_))))))))
   exact rtb (h := fin_inl (rng_ret (body := F1) (k := k6) (s := ()) (show k6 < 3 from by omega) (cond_f g13 (rfl)) hF8) rfl)
 ·have g11 : (decide (((k6 : Nat) : Int) < 3)) = false := decide_eq_false (by omega)
  refine CM_condF rfl g11 ?_
  refine CM_exit (QM_then_exit (QM_then_exit ?_))
  have hE15 : R2 (3 - 0) 0 () = Sum.inr () := rng_end hl10 hF8
  refine QM_block_hit (QM_then (sr (wm ?_)))
  refine wv (vlen underlying25) ?_
  refine wv (fun W hm => rv_eql rfl rfl) ?_
  refine wa (nt' (CM_ret ?_))
  exact rtb (h := fin_inr hE15 (rfl))

def impl_isField_m (x0 : Int) : Bool :=
 (impl_within_m x0 0 2)
theorem cb186 : Cb Tryz.prog 186 := ⟨f186, _, func186, rfl, by decide⟩
theorem impl_isField_c (w : World) (x0 : Int) :
  Calls Tryz.prog 186 #[.int .i64 x0] w fun e w' => e = .returned (.bool (impl_isField_m x0)) ∧ Below w.heap.size w w' := by
 refine ce1 (L := [(0, .int .i64 x0)]) (N := 5) func186 ?_
 refine sr (wa (nt' (sr (wm ?_))))
 refine wcv (cl_fn cb118 rfl) (fun W hm => impl_within_c W x0 0 2) ?_
 refine wa (nt' (CM_ret ?_))
 exact rtb (h := rfl)

def impl_IsCond_m (x0 : DCond) : Bool :=
 cond (impl_isField_m x0.Field) (cond (decide (0 ≤ x0.Low)) (cond (decide (x0.Low ≤ x0.High)) (decide (x0.High ≤ 99)) false) false) false
theorem cb185 : Cb Tryz.prog 185 := ⟨f185, _, func185, rfl, by decide⟩
theorem impl_IsCond_c (w : World) (z0 : List Value) (x0 : DCond) (r_0 : tyCond.rd w w.heap.size z0 x0) :
  Calls Tryz.prog 185 #[.agg z0.toArray] w fun e w' => e = .returned (.bool (impl_IsCond_m x0)) ∧ Below w.heap.size w w' := by
 obtain rfl := tyCond_rd r_0
 refine ce1 (L := [(0, .agg #[.int .i64 x0.Field, .int .i64 x0.Low, .int .i64 x0.High])]) (N := 23) func185 ?_
 refine sr ?_
 refine WM_box rfl (Wd_none rfl) (by decide) (fun p1 => ?_)
 refine wa (nt' (sr ?_))
 refine wv (vf underlying201 rfl type3) ?_
 refine wv (vl 0 0 underlying3) ?_
 refine wcv (cl_fn cb186 rfl) (fun W hm => impl_isField_c W x0.Field) ?_
 refine wm ?_
 rcases Bool.eq_false_or_eq_true (impl_isField_m x0.Field) with g3 | g3
 ·
  refine wg (vf underlying201 rfl type3) g3 ?_
  refine wg (vl 0 1 underlying3) g3 ?_
  refine wg (fun W hm => rv_geq rfl rfl) g3 ?_
  refine wv (vpT g3) ?_
  refine wm ?_
  by_cases h4 : 0 ≤ x0.Low
  ·have g5 := decide_eq_true h4
   refine wg (vf underlying201 rfl type3) g5 ?_
   refine wg (vl 0 1 underlying3) g5 ?_
   refine wg (vf underlying201 rfl type3) g5 ?_
   refine wg (vl 0 2 underlying3) g5 ?_
   refine wg (fun W hm => rv_leq rfl rfl) g5 ?_
   refine wv (vpT g5) ?_
   refine wm ?_
   by_cases h6 : x0.Low ≤ x0.High
   ·have g7 := decide_eq_true h6
    refine wg (vf underlying201 rfl type3) g7 ?_
    refine wg (vl 0 2 underlying3) g7 ?_
    refine wg (fun W hm => rv_leq rfl rfl) g7 ?_
    refine wv (vpT g7) ?_
    refine wa (nt' (CM_ret ?_))
    exact rtb (h := cond_t g3 (cond_t g5 (cond_t g7 (rfl))))
   ·have g7 := decide_eq_false h6
    refine ws g7 ?_
    refine ws g7 ?_
    refine ws g7 ?_
    refine wv (vpF g7) ?_
    refine wa (nt' (CM_ret ?_))
    exact rtb (h := cond_t g3 (cond_t g5 (cond_f g7 (rfl))))
  ·have g5 := decide_eq_false h4
   refine ws g5 ?_
   refine ws g5 ?_
   refine ws g5 ?_
   refine ws g5 ?_
   refine ws g5 ?_
   refine wv (vpF g5) ?_
   refine wm ?_
   refine wk ?_
   refine wk ?_
   refine wk ?_
   refine wv (vpF rfl) ?_
   refine wa (nt' (CM_ret ?_))
   exact rtb (h := cond_t g3 (cond_f g5 (rfl)))
 ·
  refine ws g3 ?_
  refine ws g3 ?_
  refine ws g3 ?_
  refine wv (vpF g3) ?_
  refine wm ?_
  refine wk ?_
  refine wk ?_
  refine wk ?_
  refine wk ?_
  refine wk ?_
  refine wv (vpF rfl) ?_
  refine wm ?_
  refine wk ?_
  refine wk ?_
  refine wk ?_
  refine wv (vpF rfl) ?_
  refine wa (nt' (CM_ret ?_))
  exact rtb (h := cond_f g3 (rfl))

def impl_IsQuery_b2 (x0 : DQuery) (k45 : Nat) : Bool ⊕ (Unit) :=
 cond (impl_isField_m (gt x0.Out k45)) (Sum.inr ()) (Sum.inl false)
def impl_IsQuery_b1 (x0 : DQuery) (k22 : Nat) : Bool ⊕ (Unit) :=
 cond (impl_IsCond_m (gt x0.Conds k22)) (cond (decide (0 < ((k22 : Nat) : Int))) (cond (decide (((gt x0.Conds k22).Field) ≤ ((gt x0.Conds (k22 - 1)).Field))) (Sum.inl false) (Sum.inr ())) (Sum.inr ())) (Sum.inl false)
def impl_IsQuery_m (x0 : DQuery) : Bool :=
 cond (impl_within_m x0.Id 0 23) (cond (impl_within_m x0.Tenant 0 3) (cond (decide (3 < ((x0.Conds.length : Nat) : Int))) false (Sum.elim id (fun (s1_ : Unit) => Sum.elim id (fun (s : Unit) => (impl_within_m ((x0.Out.length : Nat) : Int) 1 3)) (rng (R := Bool) (fun k (_ : Unit) => impl_IsQuery_b2 x0 k) (x0.Out.length - 0) 0 ())) (rng (R := Bool) (fun k (_ : Unit) => impl_IsQuery_b1 x0 k) (x0.Conds.length - 0) 0 ()))) false) false
theorem cb121 : Cb Tryz.prog 121 := ⟨f121, _, func121, rfl, by decide⟩
theorem impl_IsQuery_c (w : World) (z0 : List Value) (x0 : DQuery) (r_0 : tyQuery.rd w w.heap.size z0 x0) :
  Calls Tryz.prog 121 #[.agg z0.toArray] w fun e w' => e = .returned (.bool (impl_IsQuery_m x0)) ∧ Below w.heap.size w w' := by
 obtain ⟨v1, v3, rfl, r2, r4⟩ := tyQuery_rd r_0
 obtain ⟨m5, A6, c7, rfl, q8, r9⟩ := rdS_op r2
 obtain ⟨m10, A11, c12, rfl, q13, r14⟩ := rdS_op r4
 refine ce1 (L := [(0, .agg #[.int .i64 x0.Id, .int .i64 x0.Tenant, .slice A6 x0.Conds.length c7, .slice A11 x0.Out.length c12])]) (N := 66) func121 ?_
 refine sr ?_
 refine WM_box rfl (Wd_none rfl) (by decide) (fun p15 => ?_)
 refine wa (nt' (CM_seq (sr ?_)))
 refine wv (vf underlying34 rfl type3) ?_
 refine wv (vl 0 0 underlying3) ?_
 refine wcv (cl_fn cb118 rfl) (fun W hm => impl_within_c W x0.Id 0 23) ?_
 refine wv vnot ?_
 refine wm ?_
 rcases Bool.eq_false_or_eq_true (impl_within_m x0.Id 0 23) with g17 | g17
 ·
  have hw := impl_within_fact g17
  refine wg (vf underlying34 rfl type3) (nt g17) ?_
  refine wg (vl 0 1 underlying3) (nt g17) ?_
  refine WM_callV (cl_fn cb118 rfl) (fun W hm => impl_within_c W x0.Tenant 0 3) (Wd_some rfl rfl rfl (bw (nt g17) rfl)) (by decide) ?_
  refine wg vnot (nt g17) ?_
  refine wv (vpF (nt g17)) ?_
  refine wm ?_
  rcases Bool.eq_false_or_eq_true (impl_within_m x0.Tenant 0 3) with g19 | g19
  ·
   have hw := impl_within_fact g19
   refine wg (vf underlying34 rfl type32) (nt g19) ?_
   refine wg (vl 0 2 underlying32) (nt g19) ?_
   refine wg (vlen underlying32) (nt g19) ?_
   refine wg (fun W hm => rv_gtr rfl rfl) (nt g19) ?_
   refine wv (vpF (nt g19)) ?_
   refine nt' ?_
   by_cases h20 : 3 < ((x0.Conds.length : Nat) : Int)
   ·have g21 := decide_eq_true h20
    refine CM_condT rfl g21 ?_
    refine sr (wa (nt' (CM_ret (QM_then_ret ?_))))
    exact rtb (h := cond_t g17 (cond_t g19 (cond_t g21 (rfl))))
   ·have g21 := decide_eq_false h20
    refine CM_condF rfl g21 ?_
    refine CM_skip (QM_then (CM_seq (sr ?_)))
    refine wv (vf underlying34 rfl type32) ?_
    refine wv (vl 0 2 underlying32) ?_
    refine wv (vlen underlying32) ?_
    refine wm (nt' (CM_block ?_))
    let F1 := fun k (_ : Unit) => impl_IsQuery_b1 x0 k
    let R3 := rng (R := Bool) F1
    let K5 : List Value := [.int .i64 x0.Id, .int .i64 x0.Tenant, .slice A6 x0.Conds.length c7, .slice A11 x0.Out.length c12]
    refine CM_loop (σ := Nat × (Unit) × (Unit)) (fun s => [(1, .pointer (some (⟨p15, 0, none⟩ : Addr))), (24, .slice A6 x0.Conds.length c7), (25, .int .i64 ((x0.Conds.length : Nat) : Int)), (26, .int .i64 ((s.1 : Nat) : Int))]) (fun s => [iBox p15 34 K5]) (fun s => s.1 ≤ x0.Conds.length ∧ R3 (x0.Conds.length - s.1) s.1 s.2.1 = R3 (x0.Conds.length - 0) 0 ()) (fun s => x0.Conds.length - s.1) (0, (), ()) sl4 (fun W hm => hm) ⟨(by omega), rfl⟩ ?_
    rintro ⟨k22, ⟨⟩, ⟨⟩⟩ H25
    obtain ⟨hk23, hF24⟩ : k22 ≤ x0.Conds.length ∧ R3 (x0.Conds.length - k22) k22 () = R3 (x0.Conds.length - 0) 0 () := H25
    show CM Tryz.prog 66 _ _ _ _ [(1, .pointer (some (⟨p15, 0, none⟩ : Addr))), (24, .slice A6 x0.Conds.length c7), (25, .int .i64 ((x0.Conds.length : Nat) : Int)), (26, .int .i64 ((k22 : Nat) : Int))] [iBox p15 34 K5]
    refine sr ?_
    refine wv vlss ?_
    refine nt' (CM_seq ?_)
    by_cases hl26 : k22 < x0.Conds.length
    ·have g27 := dlT hl26
     refine CM_condT rfl g27 ?_
     refine CM_skip (QM_then (CM_seq (CM_block (sr (wm ?_)))))
     obtain ⟨a28, rfl, hb29, he30⟩ := q8 (by omega)
     refine wv (vix 3 k22 underlying32 type201) ?_
     obtain ⟨_, e32, hc31⟩ := he30 k22 _ (gt_some (show k22 < x0.Conds.length from by omega))
     obtain rfl := tyCond_rd e32
     let K6 : List Value := [.int .i64 ((gt x0.Conds k22).Field), .int .i64 ((gt x0.Conds k22).Low), .int .i64 ((gt x0.Conds k22).High)]
     refine wv (fun W hm => rv_loadN (cs := K6) underlying201 type201 rfl rfl (hm.elCells (show (a28.add (k22 * 3)).block < w.heap.size from by rw [add_block]; exact hb29.1) hc31)) ?_
     refine WM_alloc type201 rfl (Wd_none rfl) (by decide) (fun p33 => ?_)
     refine wa ?_
     refine sb 0 K6 [iBox p15 34 [.int .i64 x0.Id, .int .i64 x0.Tenant, .slice (some a28) x0.Conds.length c7, .slice A11 x0.Out.length c12]] (fun W hm => hm) type201 ?_
     refine nt' (CM_seq ?_)
     refine CM_regionD (by kernel_rfl) (by kernel_rfl) ?_
     refine qv (fun W hm => rv_loadN (cs := K6) underlying201 type201 rfl rfl (hm.boxCells (n := 0) rfl)) ?_
     refine QR_callV (cl_fn cb185 rfl) (fun W hm => impl_IsCond_c W _ (gt x0.Conds k22) (tyCond_mk (x := (gt x0.Conds k22)))) (Wd_none rfl) (by decide) ?_
     refine qv vnot ?_
     refine qm ?_
     rcases Bool.eq_false_or_eq_true (impl_IsCond_m (gt x0.Conds k22)) with g35 | g35
     ·
      refine qg vmv (nt g35) ?_
      refine qg (fun W hm => rv_gtr rfl rfl) (nt g35) ?_
      refine qg vmv (nt g35) ?_
      by_cases h36 : 0 < ((k22 : Nat) : Int)
      ·have g37 := decide_eq_true h36
       refine qg (vf underlying34 rfl type32) g37 ?_
       refine qg (vl 1 2 underlying32) g37 ?_
       refine qg vmv g37 ?_
       refine qg (fun W hm => rv_subN (p := k22) (q := 1) rfl rfl (by omega) (by omega)) g37 ?_
       refine qg (fun W hm => rv_index (sz := 3) (k := k22 - 1) underlying32 type201 rfl rfl rfl (by omega)) g37 ?_
       refine qg (vf underlying201 rfl type3) g37 ?_
       obtain ⟨_, e39, hc38⟩ := he30 (k22 - 1) _ (gt_some (show (k22 - 1) < x0.Conds.length from by omega))
       obtain rfl := tyCond_rd e39
       refine qg (fun W hm => rv_load underlying3 rfl rfl ((hm.cell0 (show ((a28.add ((k22 - 1) * 3)).add 0).block < w.heap.size from by rw [add_block, add_block]; exact hb29.1)).trans (hc38 0 _ rfl))) g37 ?_
       refine qg (vf underlying201 rfl type3) g37 ?_
       refine qg (vl 0 0 underlying3) g37 ?_
       refine qg (fun W hm => rv_geq rfl rfl) g37 ?_
       refine qg (vpT g37) (nt g35) ?_
       refine qv (vpF (nt g35)) ?_
       refine nq' ?_
       by_cases h40 : ((gt x0.Conds k22).Field) ≤ ((gt x0.Conds (k22 - 1)).Field)
       ·have g41 := decide_eq_true h40
        refine CM_condT rfl g41 ?_
        refine sr (wa (nt' (CM_ret (QM_block_ret (QM_then_ret (QM_then_ret (QM_block_ret (QM_then_ret ?_))))))))
        exact rtb (h := cond_t g17 (cond_t g19 (cond_f g21 (fin_inl (rng_ret (body := F1) (k := k22) (s := ()) (show k22 < x0.Conds.length from by omega) (cond_t g35 (cond_t g37 (cond_t g41 (rfl)))) hF24) rfl))))
       ·have g41 := decide_eq_false h40
        refine CM_condF rfl g41 ?_
        refine CM_skip (QM_block_normal (QM_then (CM_region ?_)))
        refine wv (vadN k22 1 (by omega)) ?_
        refine wm (WM_nil ?_)
        have hn42 := rng_next (R := Bool) (body := F1) (k := k22) (s := ()) (s' := ()) (show k22 < x0.Conds.length from by omega) (cond_t g35 (cond_t g37 (cond_f g41 (rfl)))) hF24
        exact QM_round (k22 + 1, (), ()) sl4 (pk [1]) ⟨(by omega), hn42⟩ (rl (by omega))
      ·have g37 := decide_eq_false h36
       refine qs g37 ?_
       refine qs g37 ?_
       refine qs g37 ?_
       refine qs g37 ?_
       refine qs g37 ?_
       refine qs g37 ?_
       refine qs g37 ?_
       refine qs g37 ?_
       refine qs g37 ?_
       refine qs g37 ?_
       refine qg (vpF g37) (nt g35) ?_
       refine qv (vpF (nt g35)) ?_
       refine nq' ?_
       refine CM_condF rfl rfl ?_
       refine CM_skip (QM_block_normal (QM_then (CM_region ?_)))
       refine wv (vadN k22 1 (by omega)) ?_
       refine wm (WM_nil ?_)
       have hn43 := rng_next (R := Bool) (body := F1) (k := k22) (s := ()) (s' := ()) (show k22 < x0.Conds.length from by omega) (cond_t g35 (cond_f g37 (rfl))) hF24
       exact QM_round (k22 + 1, (), ()) sl4 (pk [1]) ⟨(by omega), hn43⟩ (rl (by omega))
     ·
      refine qs (nf g35) ?_
      refine qs (nf g35) ?_
      refine qs (nf g35) ?_
      refine qu ?_
      refine qu ?_
      refine qu ?_
      refine qu ?_
      refine qu ?_
      refine qu ?_
      refine qu ?_
      refine qu ?_
      refine qu ?_
      refine qu ?_
      refine qs (nf g35) ?_
      refine qv (vpT (nf g35)) ?_
      refine nq' ?_
      refine CM_condT rfl rfl ?_
      refine sr (wa (nt' (CM_ret (QM_block_ret (QM_then_ret (QM_then_ret (QM_block_ret (QM_then_ret ?_))))))))
      exact rtb (h := cond_t g17 (cond_t g19 (cond_f g21 (fin_inl (rng_ret (body := F1) (k := k22) (s := ()) (show k22 < x0.Conds.length from by omega) (cond_f g35 (rfl)) hF24) rfl))))
    ·have g27 := dlF hl26
     refine CM_condF rfl g27 ?_
     refine CM_exit (QM_then_exit (QM_then_exit ?_))
     have hE44 : R3 (x0.Conds.length - 0) 0 () = Sum.inr () := rng_end hl26 hF24
     refine QM_block_hit (QM_then (CM_seq (sr ?_)))
     refine wv (vf underlying34 rfl type25) ?_
     refine wv (vl 0 3 underlying25) ?_
     refine wv (vlen underlying25) ?_
     refine wm (nt' (CM_block ?_))
     let F2 := fun k (_ : Unit) => impl_IsQuery_b2 x0 k
     let R4 := rng (R := Bool) F2
     refine CM_loop (σ := Nat × (Unit) × (Unit)) (fun s => [(1, .pointer (some (⟨p15, 0, none⟩ : Addr))), (52, .slice A11 x0.Out.length c12), (53, .int .i64 ((x0.Out.length : Nat) : Int)), (54, .int .i64 ((s.1 : Nat) : Int))]) (fun s => [iBox p15 34 K5]) (fun s => s.1 ≤ x0.Out.length ∧ R4 (x0.Out.length - s.1) s.1 s.2.1 = R4 (x0.Out.length - 0) 0 ()) (fun s => x0.Out.length - s.1) (0, (), ()) sl4 (fun W hm => hm) ⟨(by omega), rfl⟩ ?_
     rintro ⟨k45, ⟨⟩, ⟨⟩⟩ H48
     obtain ⟨hk46, hF47⟩ : k45 ≤ x0.Out.length ∧ R4 (x0.Out.length - k45) k45 () = R4 (x0.Out.length - 0) 0 () := H48
     show CM Tryz.prog 66 _ _ _ _ [(1, .pointer (some (⟨p15, 0, none⟩ : Addr))), (52, .slice A11 x0.Out.length c12), (53, .int .i64 ((x0.Out.length : Nat) : Int)), (54, .int .i64 ((k45 : Nat) : Int))] [iBox p15 34 K5]
     refine sr ?_
     refine wv vlss ?_
     refine nt' (CM_seq ?_)
     by_cases hl49 : k45 < x0.Out.length
     ·have g50 := dlT hl49
      refine CM_condT rfl g50 ?_
      refine CM_skip (QM_then (CM_seq (CM_block (sr ?_))))
      obtain ⟨a51, rfl, hb52, he53⟩ := q13 (by omega)
      refine wv (vix 1 k45 underlying25 type3) ?_
      refine wv (fun W hm => rv_load underlying3 rfl rfl ((hm.cell0 (show (a51.add (k45 * 1)).block < w.heap.size from by rw [add_block]; exact hb52.1)).trans (rdS_int he53 k45 (by omega)))) ?_
      refine wa (nt' (sr (wm ?_)))
      refine wcv (cl_fn cb186 rfl) (fun W hm => impl_isField_c W (gt x0.Out k45)) ?_
      refine wv vnot ?_
      refine nt' ?_
      rcases Bool.eq_false_or_eq_true (impl_isField_m (gt x0.Out k45)) with g55 | g55
      ·
       refine CM_condF rfl (nt g55) ?_
       refine CM_skip (QM_block_normal (QM_then (CM_region ?_)))
       refine wv (vadN k45 1 (by omega)) ?_
       refine wm (WM_nil ?_)
       have hn56 := rng_next (R := Bool) (body := F2) (k := k45) (s := ()) (s' := ()) (show k45 < x0.Out.length from by omega) (cond_t g55 (rfl)) hF47
       exact QM_round (k45 + 1, (), ()) sl4 (fun W hm => hm) ⟨(by omega), hn56⟩ (rl (by omega))
      ·
       refine CM_condT rfl (nf g55) ?_
       refine sr (wa (nt' (CM_ret (QM_block_ret (QM_then_ret (QM_then_ret (QM_block_ret (QM_then_ret ?_))))))))
       exact rtb (h := cond_t g17 (cond_t g19 (cond_f g21 (fin_inr hE44 (fin_inl (rng_ret (body := F2) (k := k45) (s := ()) (show k45 < x0.Out.length from by omega) (cond_f g55 (rfl)) hF47) rfl)))))
     ·have g50 := dlF hl49
      refine CM_condF rfl g50 ?_
      refine CM_exit (QM_then_exit (QM_then_exit ?_))
      have hE57 : R4 (x0.Out.length - 0) 0 () = Sum.inr () := rng_end hl49 hF47
      refine QM_block_hit (QM_then (sr ?_))
      refine wv (vf underlying34 rfl type25) ?_
      refine wv (vl 0 3 underlying25) ?_
      refine wv (vlen underlying25) ?_
      refine wcv (cl_fn cb118 rfl) (fun W hm => impl_within_c W ((x0.Out.length : Nat) : Int) 1 3) ?_
      refine wa (nt' (CM_ret ?_))
      exact rtb (h := cond_t g17 (cond_t g19 (cond_f g21 (fin_inr hE44 (fin_inr hE57 (rfl))))))
  ·
   refine ws (nf g19) ?_
   refine ws (nf g19) ?_
   refine ws (nf g19) ?_
   refine ws (nf g19) ?_
   refine wv (vpT (nf g19)) ?_
   refine nt' ?_
   refine CM_condT rfl rfl ?_
   refine sr (wa (nt' (CM_ret (QM_then_ret ?_))))
   exact rtb (h := cond_t g17 (cond_f g19 (rfl)))
 ·
  refine ws (nf g17) ?_
  refine ws (nf g17) ?_
  refine ws (nf g17) ?_
  refine ws (nf g17) ?_
  refine wv (vpT (nf g17)) ?_
  refine wm ?_
  refine wk ?_
  refine wk ?_
  refine wk ?_
  refine wk ?_
  refine wv (vpT rfl) ?_
  refine nt' ?_
  refine CM_condT rfl rfl ?_
  refine sr (wa (nt' (CM_ret (QM_then_ret ?_))))
  exact rtb (h := cond_f g17 (rfl))

def impl_allRows_b1 (x0 : (List DRow)) (k6 : Nat) : Bool ⊕ (Unit) :=
 cond (impl_IsRow_m (gt x0 k6)) (Sum.inr ()) (Sum.inl false)
def impl_allRows_m (x0 : (List DRow)) : Bool :=
 Sum.elim id (fun (s : Unit) => true) (rng (R := Bool) (fun k (_ : Unit) => impl_allRows_b1 x0 k) (x0.length - 0) 0 ())
theorem cb187 : Cb Tryz.prog 187 := ⟨f187, _, func187, rfl, by decide⟩
theorem impl_allRows_c (w : World) (z0 : Value) (x0 : (List DRow)) (r_0 : rdS tyRow w w.heap.size z0 x0) :
  Calls Tryz.prog 187 #[z0] w fun e w' => e = .returned (.bool (impl_allRows_m x0)) ∧ Below w.heap.size w w' := by
 obtain ⟨m1, A2, c3, rfl, q4, r5⟩ := rdS_op r_0
 refine ce1 (L := [(0, .slice A2 x0.length c3)]) (N := 15) func187 ?_
 refine sr (wa (nt' (CM_seq (sr (wm ?_)))))
 refine wv (vlen underlying35) ?_
 refine wm (nt' (CM_block ?_))
 let F1 := fun k (_ : Unit) => impl_allRows_b1 x0 k
 let R2 := rng (R := Bool) F1
 refine CM_loop (σ := Nat × (Unit) × (Unit)) (fun s => [(5, .slice A2 x0.length c3), (6, .int .i64 ((x0.length : Nat) : Int)), (7, .int .i64 ((s.1 : Nat) : Int))]) (fun s => []) (fun s => s.1 ≤ x0.length ∧ R2 (x0.length - s.1) s.1 s.2.1 = R2 (x0.length - 0) 0 ()) (fun s => x0.length - s.1) (0, (), ()) sl3 (fun W hm => hm) ⟨(by omega), rfl⟩ ?_
 rintro ⟨k6, ⟨⟩, ⟨⟩⟩ H9
 obtain ⟨hk7, hF8⟩ : k6 ≤ x0.length ∧ R2 (x0.length - k6) k6 () = R2 (x0.length - 0) 0 () := H9
 show CM Tryz.prog 15 _ _ _ _ [(5, .slice A2 x0.length c3), (6, .int .i64 ((x0.length : Nat) : Int)), (7, .int .i64 ((k6 : Nat) : Int))] []
 refine sr ?_
 refine wv vlss ?_
 refine nt' (CM_seq ?_)
 by_cases hl10 : k6 < x0.length
 ·have g11 := dlT hl10
  refine CM_condT rfl g11 ?_
  refine CM_skip (QM_then (CM_seq (CM_block (sr ?_))))
  obtain ⟨a12, rfl, hb13, he14⟩ := q4 (by omega)
  refine wv (vix 2 k6 underlying35 type73) ?_
  obtain ⟨_, e18, hc15⟩ := he14 k6 _ (gt_some (show k6 < x0.length from by omega))
  obtain ⟨v16, rfl, r17⟩ := tyRow_rd e18
  obtain ⟨m19, A20, c21, rfl, q22, r23⟩ := rdS_op r17
  let K3 : List Value := [.int .i64 ((gt x0 k6).Id), .slice A20 ((gt x0 k6).Values).length c21]
  refine wv (fun W hm => rv_loadN (cs := K3) underlying73 type73 rfl rfl (hm.elCells (show (a12.add (k6 * 2)).block < w.heap.size from by rw [add_block]; exact hb13.1) hc15)) ?_
  refine WM_alloc type73 rfl (Wd_none rfl) (by decide) (fun p24 => ?_)
  refine sb 0 K3 [] (fun W hm => hm) type73 ?_
  refine nt' (sr ?_)
  refine wv (fun W hm => rv_loadN (cs := K3) underlying73 type73 rfl rfl (hm.boxCells (n := 0) rfl)) ?_
  refine wcv (cl_fn cb178 rfl) (fun W hm => impl_IsRow_c W _ (gt x0 k6) (tyRow_mk (x := (gt x0 k6)) (hm.rdS0 r23))) ?_
  refine wv vnot ?_
  refine nt' ?_
  rcases Bool.eq_false_or_eq_true (impl_IsRow_m (gt x0 k6)) with g26 | g26
  ·
   refine CM_condF rfl (nt g26) ?_
   refine CM_skip (QM_block_normal (QM_then (CM_region ?_)))
   refine wv (vadN k6 1 (by omega)) ?_
   refine wm (WM_nil ?_)
   have hn27 := rng_next (R := Bool) (body := F1) (k := k6) (s := ()) (s' := ()) (show k6 < x0.length from by omega) (cond_t g26 (rfl)) hF8
   exact QM_round (k6 + 1, (), ()) sl3 (pk []) ⟨(by omega), hn27⟩ (rl (by omega))
  ·
   refine CM_condT rfl (nf g26) ?_
   refine sr (wa (nt' (CM_ret (QM_block_ret (QM_then_ret (QM_then_ret (QM_block_ret (QM_then_ret ?_))))))))
   exact rtb (h := fin_inl (rng_ret (body := F1) (k := k6) (s := ()) (show k6 < x0.length from by omega) (cond_f g26 (rfl)) hF8) rfl)
 ·have g11 := dlF hl10
  refine CM_condF rfl g11 ?_
  refine CM_exit (QM_then_exit (QM_then_exit ?_))
  have hE28 : R2 (x0.length - 0) 0 () = Sum.inr () := rng_end hl10 hF8
  refine QM_block_hit (QM_then (sr (wa (nt' (CM_ret ?_)))))
  exact rtb (h := fin_inr hE28 (rfl))

def impl_resultOk_m (x0 : (List DRow)) : Bool :=
 cond (decide (((x0.length : Nat) : Int) ≤ 1000)) (impl_allRows_m x0) false
theorem cb122 : Cb Tryz.prog 122 := ⟨f122, _, func122, rfl, by decide⟩
theorem impl_resultOk_c (w : World) (z0 : Value) (x0 : (List DRow)) (r_0 : rdS tyRow w w.heap.size z0 x0) :
  Calls Tryz.prog 122 #[z0] w fun e w' => e = .returned (.bool (impl_resultOk_m x0)) ∧ Below w.heap.size w w' := by
 obtain ⟨m1, A2, c3, rfl, q4, r5⟩ := rdS_op r_0
 refine ce1 (L := [(0, .slice A2 x0.length c3)]) (N := 10) func122 ?_
 refine sr (wa (nt' (sr (wm ?_))))
 refine wv (vlen underlying35) ?_
 refine wv (fun W hm => rv_leq rfl rfl) ?_
 refine wm ?_
 by_cases h6 : ((x0.length : Nat) : Int) ≤ 1000
 ·have g7 := decide_eq_true h6
  refine wg vmv g7 ?_
  refine WM_callV (cl_fn cb187 rfl) (fun W hm => impl_allRows_c W _ x0 (hm.rdS0 r5)) (Wd_some rfl rfl rfl (bw g7 rfl)) (by decide) ?_
  refine wv (vpT g7) ?_
  refine wa (nt' (CM_ret ?_))
  exact rtb (h := cond_t g7 (rfl))
 ·have g7 := decide_eq_false h6
  refine ws g7 ?_
  refine ws g7 ?_
  refine wv (vpF g7) ?_
  refine wa (nt' (CM_ret ?_))
  exact rtb (h := cond_f g7 (rfl))

end Go.Proofs.YtmikmbmdibabmaaGreat
