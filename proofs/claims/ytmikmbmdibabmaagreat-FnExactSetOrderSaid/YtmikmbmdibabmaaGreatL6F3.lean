/-
  Contracts of functions, printed by a program of ours.
-/
import Derived.Test.YtmikmbmdibabmaaGreatL6F2
namespace Go.Proofs.YtmikmbmdibabmaaGreat
open Go.RowKit
set_option maxRecDepth 100000
set_option maxHeartbeats 4000000
open _root_.Go.Proofs.Tryz
def spec_IsEngine_b3 (x0 : DEngine) (k188 : Nat) : Bool ⊕ (Unit) :=
 cond (spec_IsCharge_m (gt x0.Ledger k188)) (Sum.inr ()) (Sum.inl false)
def spec_IsEngine_b2 (x0 : DEngine) (k142 : Nat) : Bool ⊕ (Unit) :=
 cond (spec_IsQuery_m ((gt x0.Done k142).Query)) (cond (spec_l1In_m ((gt x0.Done k142).Time) 0 x0.Store.Now) (cond (spec_l1In_m ((gt x0.Done k142).Steps) 0 100000) (cond (spec_l9List_m ((gt x0.Done k142).Rows)) (Sum.inr ()) (Sum.inl false)) (Sum.inl false)) (Sum.inl false)) (Sum.inl false)
def spec_IsEngine_b1 (x0 : DEngine) (k56 : Nat) : Bool ⊕ (Unit) :=
 cond (spec_l9Active_m x0 (gt x0.Active k56)) (cond (decide (0 < ((k56 : Nat) : Int))) (cond (decide (((gt x0.Active k56).Query.Id) ≤ ((gt x0.Active (k56 - 1)).Query.Id))) (Sum.inl false) (Sum.inr ())) (Sum.inr ())) (Sum.inl false)
def spec_IsEngine_m (x0 : DEngine) : Bool :=
 cond (spec_IsStore_m x0.Store) (cond (spec_l1In_m x0.Cursor 0 (IntKind.i64.wrap (((x0.Store.Segments.length : Nat) : Int) - 1))) (cond (spec_l6Order_m x0.Order) (cond (decide (8 < ((x0.Active.length : Nat) : Int))) false (cond (spec_l1In_m x0.Steps 0 100000) (cond (decide (1000 < ((x0.Done.length : Nat) : Int))) false (cond (decide (1000 < ((x0.Ledger.length : Nat) : Int))) false (Sum.elim id (fun (s1_ : Unit) => Sum.elim id (fun (s2_ : Unit) => Sum.elim id (fun (s : Unit) => true) (rng (R := Bool) (fun k (_ : Unit) => spec_IsEngine_b3 x0 k) (x0.Ledger.length - 0) 0 ())) (rng (R := Bool) (fun k (_ : Unit) => spec_IsEngine_b2 x0 k) (x0.Done.length - 0) 0 ())) (rng (R := Bool) (fun k (_ : Unit) => spec_IsEngine_b1 x0 k) (x0.Active.length - 0) 0 ())))) false)) false) false) false
theorem cb65 : Cb Tryz.prog 65 := ⟨f65, _, func65, rfl, by decide⟩
theorem spec_IsEngine_c (w : World) (z0 : List Value) (x0 : DEngine) (r_0 : tyEngine.rd w w.heap.size z0 x0) (s_0 : smEngine 68719476736 x0) :
  Calls Tryz.prog 65 #[.agg z0.toArray] w fun e w' => e = .returned (.bool (spec_IsEngine_m x0)) ∧ Below w.heap.size w w' := by
 obtain ⟨v1, v3, v5, v7, v9, rfl, r2, r4, r6, r8, r10⟩ := tyEngine_rd r_0
 have r15 := r2
 obtain ⟨m11, A12, c13, rfl, q14⟩ := r2
 have r20 := r4
 obtain ⟨m16, A17, c18, rfl, q19⟩ := r4
 have r25 := r6
 obtain ⟨m21, A22, c23, rfl, q24⟩ := r6
 have r30 := r8
 obtain ⟨m26, A27, c28, rfl, q29⟩ := r8
 have r35 := r10
 obtain ⟨m31, A32, c33, rfl, q34⟩ := r10
 have l36 : x0.Store.Segments.length ≤ 68719476736 := s_0.1.1
 have l37 : x0.Order.length ≤ 68719476736 := s_0.2.1
 have l38 : x0.Active.length ≤ 68719476736 := s_0.2.2.1.1
 have l39 : x0.Done.length ≤ 68719476736 := s_0.2.2.2.1.1
 have l40 : x0.Ledger.length ≤ 68719476736 := s_0.2.2.2.2.1
 refine ce1 (L := [(0, .agg #[.slice A12 x0.Store.Segments.length c13, .int .i64 x0.Store.Now, .int .i64 x0.Cursor, .slice A17 x0.Order.length c18, .slice A22 x0.Active.length c23, .slice A27 x0.Done.length c28, .slice A32 x0.Ledger.length c33, .int .i64 x0.Steps])]) (N := 140) func65 ?_
 refine sr ?_
 refine WM_box rfl (Wd_none rfl) (by decide) (fun p41 => ?_)
 refine wa (nt' (CM_seq (sr ?_)))
 refine wv (vf underlying47 rfl type42) ?_
 refine wv (fun W hm => rv_loadN (cs := [.slice A12 x0.Store.Segments.length c13, .int .i64 x0.Store.Now]) underlying42 type42 rfl rfl (hm.boxPart (n := 0) rfl rfl)) ?_
 refine wcv (cl_fn cb151 rfl) (fun W hm => spec_IsStore_c W _ x0.Store (tyStore_mk (x := x0.Store) (hm.rdS0 r15)) s_0.1) ?_
 refine wv vnot ?_
 refine wm ?_
 rcases Bool.eq_false_or_eq_true (spec_IsStore_m x0.Store) with g43 | g43
 ·
  refine wg (vf underlying47 rfl type3) (nt g43) ?_
  refine wg (vl 0 2 underlying3) (nt g43) ?_
  refine wg (vf underlying47 rfl type42) (nt g43) ?_
  refine wg (fun W hm => rv_fieldA (o := 0) underlying42 rfl type40 (by decide) rfl rfl) (nt g43) ?_
  refine wg (vl 0 0 underlying40) (nt g43) ?_
  refine wg (vlen underlying40) (nt g43) ?_
  refine wg (fun W hm => rv_sub rfl rfl) (nt g43) ?_
  refine WM_callV (cl_fn cb128 rfl) (fun W hm => spec_l1In_c W x0.Cursor 0 (IntKind.i64.wrap (((x0.Store.Segments.length : Nat) : Int) - 1))) (Wd_some rfl rfl rfl (bw (nt g43) rfl)) (by decide) ?_
  refine wg vnot (nt g43) ?_
  refine wv (vpF (nt g43)) ?_
  refine wm ?_
  rcases Bool.eq_false_or_eq_true (spec_l1In_m x0.Cursor 0 (IntKind.i64.wrap (((x0.Store.Segments.length : Nat) : Int) - 1))) with g45 | g45
  ·
   have hw := spec_l1In_fact g45
   rw [wrap_pred (by omega)] at hw
   refine wg (vf underlying47 rfl type25) (nt g45) ?_
   refine wg (vl 0 3 underlying25) (nt g45) ?_
   refine WM_callV (cl_fn cb137 rfl) (fun W hm => spec_l6Order_c W _ x0.Order (hm.rdS0 r20)) (Wd_some rfl rfl rfl (bw (nt g45) rfl)) (by decide) ?_
   refine wg vnot (nt g45) ?_
   refine wv (vpF (nt g45)) ?_
   refine wm ?_
   rcases Bool.eq_false_or_eq_true (spec_l6Order_m x0.Order) with g47 | g47
   ·
    refine wg (vf underlying47 rfl type43) (nt g47) ?_
    refine wg (vl 0 4 underlying43) (nt g47) ?_
    refine wg (vlen underlying43) (nt g47) ?_
    refine wg (fun W hm => rv_gtr rfl rfl) (nt g47) ?_
    refine wv (vpF (nt g47)) ?_
    refine wm ?_
    by_cases h48 : 8 < ((x0.Active.length : Nat) : Int)
    ·have g49 : (decide (8 < ((x0.Active.length : Nat) : Int))) = true := decide_eq_true h48
     refine ws g49 ?_
     refine ws g49 ?_
     refine ws g49 ?_
     refine ws g49 ?_
     refine wv (vpT g49) ?_
     refine wm ?_
     refine wk ?_
     refine wk ?_
     refine wk ?_
     refine wk ?_
     refine wv (vpT rfl) ?_
     refine wm ?_
     refine wk ?_
     refine wk ?_
     refine wk ?_
     refine wk ?_
     refine wv (vpT rfl) ?_
     refine nt' ?_
     refine CM_condT rfl rfl ?_
     refine sr (wa (nt' (CM_ret (QM_then_ret ?_))))
     exact rtb (h := by unfold spec_IsEngine_m; exact cond_t g43 (cond_t g45 (cond_t g47 (cond_t g49 (rfl)))))
    ·have g49 : (decide (8 < ((x0.Active.length : Nat) : Int))) = false := decide_eq_false h48
     refine wg (vf underlying47 rfl type3) g49 ?_
     refine wg (vl 0 7 underlying3) g49 ?_
     refine WM_callV (cl_fn cb128 rfl) (fun W hm => spec_l1In_c W x0.Steps 0 100000) (Wd_some rfl rfl rfl (bw g49 rfl)) (by decide) ?_
     refine wg vnot g49 ?_
     refine wv (vpF g49) ?_
     refine wm ?_
     rcases Bool.eq_false_or_eq_true (spec_l1In_m x0.Steps 0 100000) with g51 | g51
     ·
      have hw := spec_l1In_fact g51
      refine wg (vf underlying47 rfl type44) (nt g51) ?_
      refine wg (vl 0 5 underlying44) (nt g51) ?_
      refine wg (vlen underlying44) (nt g51) ?_
      refine wg (fun W hm => rv_gtr rfl rfl) (nt g51) ?_
      refine wv (vpF (nt g51)) ?_
      refine wm ?_
      by_cases h52 : 1000 < ((x0.Done.length : Nat) : Int)
      ·have g53 : (decide (1000 < ((x0.Done.length : Nat) : Int))) = true := decide_eq_true h52
       refine ws g53 ?_
       refine ws g53 ?_
       refine ws g53 ?_
       refine ws g53 ?_
       refine wv (vpT g53) ?_
       refine nt' ?_
       refine CM_condT rfl rfl ?_
       refine sr (wa (nt' (CM_ret (QM_then_ret ?_))))
       exact rtb (h := by unfold spec_IsEngine_m; exact cond_t g43 (cond_t g45 (cond_t g47 (cond_f g49 (cond_t g51 (cond_t g53 (rfl)))))))
      ·have g53 : (decide (1000 < ((x0.Done.length : Nat) : Int))) = false := decide_eq_false h52
       refine wg (vf underlying47 rfl type45) g53 ?_
       refine wg (vl 0 6 underlying45) g53 ?_
       refine wg (vlen underlying45) g53 ?_
       refine wg (fun W hm => rv_gtr rfl rfl) g53 ?_
       refine wv (vpF g53) ?_
       refine nt' ?_
       by_cases h54 : 1000 < ((x0.Ledger.length : Nat) : Int)
       ·have g55 : (decide (1000 < ((x0.Ledger.length : Nat) : Int))) = true := decide_eq_true h54
        refine CM_condT rfl g55 ?_
        refine sr (wa (nt' (CM_ret (QM_then_ret ?_))))
        exact rtb (h := by unfold spec_IsEngine_m; exact cond_t g43 (cond_t g45 (cond_t g47 (cond_f g49 (cond_t g51 (cond_f g53 (cond_t g55 (rfl))))))))
       ·have g55 : (decide (1000 < ((x0.Ledger.length : Nat) : Int))) = false := decide_eq_false h54
        refine CM_condF rfl g55 ?_
        refine CM_skip (QM_then (CM_seq (sr (wa (nt' (CM_block ?_))))))
        let F1 := fun k (_ : Unit) => spec_IsEngine_b1 x0 k
        let R4 := rng (R := Bool) F1
        let K7 : List Value := [.slice A12 x0.Store.Segments.length c13, .int .i64 x0.Store.Now, .int .i64 x0.Cursor, .slice A17 x0.Order.length c18, .slice A22 x0.Active.length c23, .slice A27 x0.Done.length c28, .slice A32 x0.Ledger.length c33, .int .i64 x0.Steps]
        refine CM_loop (σ := Nat × (Unit) × (Unit)) (fun s => [(1, .pointer (some (⟨p41, 0, none⟩ : Addr))), (3, .int .i64 ((s.1 : Nat) : Int))]) (fun s => [iBox p41 47 K7]) (fun s => s.1 ≤ x0.Active.length ∧ R4 (x0.Active.length - s.1) s.1 s.2.1 = R4 (x0.Active.length - 0) 0 ()) (fun s => x0.Active.length - s.1) (0, (), ()) sl2 (fun W hm => hm) ⟨(by omega), rfl⟩ ?_
        rintro ⟨k56, ⟨⟩, ⟨⟩⟩ H59
        obtain ⟨hk57, hF58⟩ : k56 ≤ x0.Active.length ∧ R4 (x0.Active.length - k56) k56 () = R4 (x0.Active.length - 0) 0 () := H59
        show CM Tryz.prog 140 _ _ _ _ [(1, .pointer (some (⟨p41, 0, none⟩ : Addr))), (3, .int .i64 ((k56 : Nat) : Int))] [iBox p41 47 K7]
        refine CM_seq (sr (wm ?_))
        refine wv (vf underlying47 rfl type43) ?_
        refine wv (vl 0 4 underlying43) ?_
        refine wv (vlen underlying43) ?_
        refine wv vlss ?_
        refine nt' ?_
        by_cases hl60 : k56 < x0.Active.length
        ·have g61 : (decide (((k56 : Nat) : Int) < ((x0.Active.length : Nat) : Int))) = true := decide_eq_true (by omega)
         refine CM_condT rfl g61 ?_
         refine CM_skip (QM_then (CM_seq (CM_block (CM_seq ?_))))
         refine CM_regionD (by kernel_rfl) (by kernel_rfl) ?_
         refine qv (fun W hm => rv_loadN (cs := K7) underlying47 type47 rfl rfl (hm.boxCells (n := 0) rfl)) ?_
         refine qv (vf underlying47 rfl type43) ?_
         refine qv (vl 0 4 underlying43) ?_
         refine qm ?_
         obtain ⟨a62, rfl, hb63, he64⟩ := q24 (by omega)
         refine qv (vix 10 k56 underlying43 type64) ?_
         obtain ⟨_, e74, hc65⟩ := he64 k56 _ (gt_some (show k56 < x0.Active.length from by omega))
         obtain ⟨v66, v68, v70, v72, rfl, r67, r69, r71, r73⟩ := tyActive_rd e74
         have l75 : ((gt x0.Active k56).Query.Conds).length ≤ 68719476736 := (s_0.2.2.1.2 _ (gt_mem (show k56 < x0.Active.length from by omega))).1.1
         have l76 : ((gt x0.Active k56).Query.Out).length ≤ 68719476736 := (s_0.2.2.1.2 _ (gt_mem (show k56 < x0.Active.length from by omega))).1.2
         have l77 : ((gt x0.Active k56).Todo).length ≤ 68719476736 := (s_0.2.2.1.2 _ (gt_mem (show k56 < x0.Active.length from by omega))).2.1
         have l78 : ((gt x0.Active k56).Rows).length ≤ 68719476736 := (s_0.2.2.1.2 _ (gt_mem (show k56 < x0.Active.length from by omega))).2.2.1
         have r83 := r67
         obtain ⟨m79, A80, c81, rfl, q82⟩ := r67
         have r88 := r69
         obtain ⟨m84, A85, c86, rfl, q87⟩ := r69
         have r93 := r71
         obtain ⟨m89, A90, c91, rfl, q92⟩ := r71
         have r98 := r73
         obtain ⟨m94, A95, c96, rfl, q97⟩ := r73
         refine qv (fun W hm => rv_loadN (cs := [.int .i64 ((gt x0.Active k56).Query.Id), .int .i64 ((gt x0.Active k56).Query.Tenant), .slice A80 ((gt x0.Active k56).Query.Conds).length c81, .slice A85 ((gt x0.Active k56).Query.Out).length c86, .int .i64 ((gt x0.Active k56).Time), .slice A90 ((gt x0.Active k56).Todo).length c91, .int .i64 ((gt x0.Active k56).Age), .int .i64 ((gt x0.Active k56).Sent), .int .i64 ((gt x0.Active k56).Cap), .slice A95 ((gt x0.Active k56).Rows).length c96]) underlying64 type64 rfl rfl (hm.elCells (show (a62.add (k56 * 10)).block < w.heap.size from by rw [add_block]; exact hb63.1) hc65)) ?_
         refine QR_callV (cl_fn cb152 rfl) (fun W hm => spec_l9Active_c W _ x0 _ (gt x0.Active k56) (tyEngine_mk (x := x0) (hm.rdS0 r15) (hm.rdS0 r20) (hm.rdS0 r25) (hm.rdS0 r30) (hm.rdS0 r35)) (tyActive_mk (x := (gt x0.Active k56)) (hm.rdS0 r83) (hm.rdS0 r88) (hm.rdS0 r93) (hm.rdS0 r98))) (Wd_none rfl) (by decide) ?_
         refine qv vnot ?_
         refine qm ?_
         rcases Bool.eq_false_or_eq_true (spec_l9Active_m x0 (gt x0.Active k56)) with g100 | g100
         ·
          refine qg vmv (nt g100) ?_
          refine qg (fun W hm => rv_gtr rfl rfl) (nt g100) ?_
          refine qg vmv (nt g100) ?_
          by_cases h101 : 0 < ((k56 : Nat) : Int)
          ·have g102 : (decide (0 < ((k56 : Nat) : Int))) = true := decide_eq_true h101
           refine qg (vf underlying47 rfl type43) g102 ?_
           refine qg (vl 0 4 underlying43) g102 ?_
           refine qg vmv g102 ?_
           refine qg (vix 10 k56 underlying43 type64) g102 ?_
           refine qg (vf underlying64 rfl type34) g102 ?_
           refine qg (fun W hm => rv_fieldA (o := 0) underlying34 rfl type3 (by decide) rfl rfl) g102 ?_
           refine qg (fun W hm => rv_load underlying3 rfl rfl ((hm.cell0 (show ((a62.add (k56 * 10)).add 0).block < w.heap.size from by rw [add_block, add_block]; exact hb63.1)).trans (hc65 0 _ rfl))) g102 ?_
           refine qg (vf underlying47 rfl type43) g102 ?_
           refine qg (vl 0 4 underlying43) g102 ?_
           refine qg vmv g102 ?_
           refine qg (fun W hm => rv_subN (p := k56) (q := 1) rfl rfl (by omega) (by omega)) g102 ?_
           refine qg (fun W hm => rv_index (sz := 10) (k := k56 - 1) underlying43 type64 rfl rfl rfl (by omega)) g102 ?_
           refine qg (vf underlying64 rfl type34) g102 ?_
           refine qg (fun W hm => rv_fieldA (o := 0) underlying34 rfl type3 (by decide) rfl rfl) g102 ?_
           obtain ⟨_, e112, hc103⟩ := he64 (k56 - 1) _ (gt_some (show (k56 - 1) < x0.Active.length from by omega))
           obtain ⟨v104, v106, v108, v110, rfl, r105, r107, r109, r111⟩ := tyActive_rd e112
           have l113 : ((gt x0.Active (k56 - 1)).Query.Conds).length ≤ 68719476736 := (s_0.2.2.1.2 _ (gt_mem (show (k56 - 1) < x0.Active.length from by omega))).1.1
           have l114 : ((gt x0.Active (k56 - 1)).Query.Out).length ≤ 68719476736 := (s_0.2.2.1.2 _ (gt_mem (show (k56 - 1) < x0.Active.length from by omega))).1.2
           have l115 : ((gt x0.Active (k56 - 1)).Todo).length ≤ 68719476736 := (s_0.2.2.1.2 _ (gt_mem (show (k56 - 1) < x0.Active.length from by omega))).2.1
           have l116 : ((gt x0.Active (k56 - 1)).Rows).length ≤ 68719476736 := (s_0.2.2.1.2 _ (gt_mem (show (k56 - 1) < x0.Active.length from by omega))).2.2.1
           have r121 := r105
           obtain ⟨m117, A118, c119, rfl, q120⟩ := r105
           have r126 := r107
           obtain ⟨m122, A123, c124, rfl, q125⟩ := r107
           have r131 := r109
           obtain ⟨m127, A128, c129, rfl, q130⟩ := r109
           have r136 := r111
           obtain ⟨m132, A133, c134, rfl, q135⟩ := r111
           refine qg (fun W hm => rv_load underlying3 rfl rfl ((hm.cell0 (show ((a62.add ((k56 - 1) * 10)).add 0).block < w.heap.size from by rw [add_block, add_block]; exact hb63.1)).trans (hc103 0 _ rfl))) g102 ?_
           refine qg (fun W hm => rv_leq rfl rfl) g102 ?_
           refine qg (vpT g102) (nt g100) ?_
           refine qv (vpF (nt g100)) ?_
           refine nq' ?_
           by_cases h137 : ((gt x0.Active k56).Query.Id) ≤ ((gt x0.Active (k56 - 1)).Query.Id)
           ·have g138 : (decide (((gt x0.Active k56).Query.Id) ≤ ((gt x0.Active (k56 - 1)).Query.Id))) = true := decide_eq_true h137
            refine CM_condT rfl g138 ?_
            refine sr (wa (nt' (CM_ret (QM_block_ret (QM_then_ret (QM_then_ret (QM_block_ret (QM_then_ret ?_))))))))
            exact rtb (h := by unfold spec_IsEngine_m; exact cond_t g43 (cond_t g45 (cond_t g47 (cond_f g49 (cond_t g51 (cond_f g53 (cond_f g55 (fin_inl (rng_ret (body := F1) (k := k56) (s := ()) (show k56 < x0.Active.length from by omega) (show spec_IsEngine_b1 x0 k56 = Sum.inl false from by unfold spec_IsEngine_b1; exact cond_t g100 (cond_t g102 (cond_t g138 (rfl)))) hF58) rfl))))))))
           ·have g138 : (decide (((gt x0.Active k56).Query.Id) ≤ ((gt x0.Active (k56 - 1)).Query.Id))) = false := decide_eq_false h137
            refine CM_condF rfl g138 ?_
            refine CM_skip (QM_block_normal (QM_then (CM_region (wm ?_))))
            refine wv (vadN k56 1 (by omega)) ?_
            refine wa (WM_nil ?_)
            have hn139 := rng_next (R := Bool) (body := F1) (k := k56) (s := ()) (s' := ()) (show k56 < x0.Active.length from by omega) (show spec_IsEngine_b1 x0 k56 = Sum.inr () from by unfold spec_IsEngine_b1; exact cond_t g100 (cond_t g102 (cond_f g138 (rfl)))) hF58
            exact QM_round (k56 + 1, (), ()) sl2 (fun W hm => hm) ⟨(by omega), hn139⟩ (rl (by omega))
          ·have g102 : (decide (0 < ((k56 : Nat) : Int))) = false := decide_eq_false h101
           refine qs g102 ?_
           refine qs g102 ?_
           refine qs g102 ?_
           refine qs g102 ?_
           refine qs g102 ?_
           refine qs g102 ?_
           refine qs g102 ?_
           refine qs g102 ?_
           refine qs g102 ?_
           refine qs g102 ?_
           refine qs g102 ?_
           refine qs g102 ?_
           refine qs g102 ?_
           refine qs g102 ?_
           refine qs g102 ?_
           refine qs g102 ?_
           refine qg (vpF g102) (nt g100) ?_
           refine qv (vpF (nt g100)) ?_
           refine nq' ?_
           refine CM_condF rfl rfl ?_
           refine CM_skip (QM_block_normal (QM_then (CM_region (wm ?_))))
           refine wv (vadN k56 1 (by omega)) ?_
           refine wa (WM_nil ?_)
           have hn140 := rng_next (R := Bool) (body := F1) (k := k56) (s := ()) (s' := ()) (show k56 < x0.Active.length from by omega) (show spec_IsEngine_b1 x0 k56 = Sum.inr () from by unfold spec_IsEngine_b1; exact cond_t g100 (cond_f g102 (rfl))) hF58
           exact QM_round (k56 + 1, (), ()) sl2 (fun W hm => hm) ⟨(by omega), hn140⟩ (rl (by omega))
         ·
          refine qs (nf g100) ?_
          refine qs (nf g100) ?_
          refine qs (nf g100) ?_
          refine qu ?_
          refine qu ?_
          refine qu ?_
          refine qu ?_
          refine qu ?_
          refine qu ?_
          refine qu ?_
          refine qu ?_
          refine qu ?_
          refine qu ?_
          refine qu ?_
          refine qu ?_
          refine qu ?_
          refine qu ?_
          refine qu ?_
          refine qu ?_
          refine qs (nf g100) ?_
          refine qv (vpT (nf g100)) ?_
          refine nq' ?_
          refine CM_condT rfl rfl ?_
          refine sr (wa (nt' (CM_ret (QM_block_ret (QM_then_ret (QM_then_ret (QM_block_ret (QM_then_ret ?_))))))))
          exact rtb (h := by unfold spec_IsEngine_m; exact cond_t g43 (cond_t g45 (cond_t g47 (cond_f g49 (cond_t g51 (cond_f g53 (cond_f g55 (fin_inl (rng_ret (body := F1) (k := k56) (s := ()) (show k56 < x0.Active.length from by omega) (show spec_IsEngine_b1 x0 k56 = Sum.inl false from by unfold spec_IsEngine_b1; exact cond_f g100 (rfl)) hF58) rfl))))))))
        ·have g61 : (decide (((k56 : Nat) : Int) < ((x0.Active.length : Nat) : Int))) = false := decide_eq_false (by omega)
         refine CM_condF rfl g61 ?_
         refine CM_exit (QM_then_exit (QM_then_exit ?_))
         have hE141 : R4 (x0.Active.length - 0) 0 () = Sum.inr () := rng_end hl60 hF58
         refine QM_block_hit (QM_then (CM_seq (sr (wa (nt' (CM_block ?_))))))
         let F2 := fun k (_ : Unit) => spec_IsEngine_b2 x0 k
         let R5 := rng (R := Bool) F2
         refine CM_loop (σ := Nat × (Unit) × (Unit)) (fun s => [(1, .pointer (some (⟨p41, 0, none⟩ : Addr))), (4, .int .i64 ((s.1 : Nat) : Int))]) (fun s => [iBox p41 47 K7]) (fun s => s.1 ≤ x0.Done.length ∧ R5 (x0.Done.length - s.1) s.1 s.2.1 = R5 (x0.Done.length - 0) 0 ()) (fun s => x0.Done.length - s.1) (0, (), ()) sl2 (fun W hm => hm) ⟨(by omega), rfl⟩ ?_
         rintro ⟨k142, ⟨⟩, ⟨⟩⟩ H145
         obtain ⟨hk143, hF144⟩ : k142 ≤ x0.Done.length ∧ R5 (x0.Done.length - k142) k142 () = R5 (x0.Done.length - 0) 0 () := H145
         show CM Tryz.prog 140 _ _ _ _ [(1, .pointer (some (⟨p41, 0, none⟩ : Addr))), (4, .int .i64 ((k142 : Nat) : Int))] [iBox p41 47 K7]
         refine CM_seq (sr (wm ?_))
         refine wv (vf underlying47 rfl type44) ?_
         refine wv (vl 0 5 underlying44) ?_
         refine wv (vlen underlying44) ?_
         refine wv vlss ?_
         refine nt' ?_
         by_cases hl146 : k142 < x0.Done.length
         ·have g147 : (decide (((k142 : Nat) : Int) < ((x0.Done.length : Nat) : Int))) = true := decide_eq_true (by omega)
          refine CM_condT rfl g147 ?_
          refine CM_skip (QM_then (CM_seq (CM_block (sr ?_))))
          refine wv (vf underlying47 rfl type44) ?_
          refine wv (vl 0 5 underlying44) ?_
          refine wm ?_
          obtain ⟨a148, rfl, hb149, he150⟩ := q29 (by omega)
          refine wv (vix 7 k142 underlying44 type37) ?_
          obtain ⟨_, e158, hc151⟩ := he150 k142 _ (gt_some (show k142 < x0.Done.length from by omega))
          obtain ⟨v152, v154, v156, rfl, r153, r155, r157⟩ := tyFinished_rd e158
          have l159 : ((gt x0.Done k142).Query.Conds).length ≤ 68719476736 := (s_0.2.2.2.1.2 _ (gt_mem (show k142 < x0.Done.length from by omega))).1.1
          have l160 : ((gt x0.Done k142).Query.Out).length ≤ 68719476736 := (s_0.2.2.2.1.2 _ (gt_mem (show k142 < x0.Done.length from by omega))).1.2
          have l161 : ((gt x0.Done k142).Rows).length ≤ 68719476736 := (s_0.2.2.2.1.2 _ (gt_mem (show k142 < x0.Done.length from by omega))).2.1
          have r166 := r153
          obtain ⟨m162, A163, c164, rfl, q165⟩ := r153
          have r171 := r155
          obtain ⟨m167, A168, c169, rfl, q170⟩ := r155
          have r176 := r157
          obtain ⟨m172, A173, c174, rfl, q175⟩ := r157
          let K8 : List Value := [.int .i64 ((gt x0.Done k142).Query.Id), .int .i64 ((gt x0.Done k142).Query.Tenant), .slice A163 ((gt x0.Done k142).Query.Conds).length c164, .slice A168 ((gt x0.Done k142).Query.Out).length c169, .int .i64 ((gt x0.Done k142).Time), .int .i64 ((gt x0.Done k142).Steps), .slice A173 ((gt x0.Done k142).Rows).length c174]
          refine wv (fun W hm => rv_loadN (cs := K8) underlying37 type37 rfl rfl (hm.elCells (show (a148.add (k142 * 7)).block < w.heap.size from by rw [add_block]; exact hb149.1) hc151)) ?_
          refine WM_alloc type37 rfl (Wd_none rfl) (by decide) (fun p177 => ?_)
          refine sb 0 K8 [iBox p41 47 [.slice A12 x0.Store.Segments.length c13, .int .i64 x0.Store.Now, .int .i64 x0.Cursor, .slice A17 x0.Order.length c18, .slice A22 x0.Active.length c23, .slice (some a148) x0.Done.length c28, .slice A32 x0.Ledger.length c33, .int .i64 x0.Steps]] (fun W hm => hm) type37 ?_
          refine nt' (sr ?_)
          refine wv (vf underlying37 rfl type34) ?_
          refine wv (fun W hm => rv_loadN (cs := [.int .i64 ((gt x0.Done k142).Query.Id), .int .i64 ((gt x0.Done k142).Query.Tenant), .slice A163 ((gt x0.Done k142).Query.Conds).length c164, .slice A168 ((gt x0.Done k142).Query.Out).length c169]) underlying34 type34 rfl rfl (hm.boxPart (n := 0) rfl rfl)) ?_
          refine wcv (cl_fn cb127 rfl) (fun W hm => spec_IsQuery_c W _ ((gt x0.Done k142).Query) (tyQuery_mk (x := ((gt x0.Done k142).Query)) (hm.rdS0 r166) (hm.rdS0 r171))) ?_
          refine wv vnot ?_
          refine wm ?_
          rcases Bool.eq_false_or_eq_true (spec_IsQuery_m ((gt x0.Done k142).Query)) with g179 | g179
          ·
           refine wg (vf underlying37 rfl type3) (nt g179) ?_
           refine wg (vl 0 4 underlying3) (nt g179) ?_
           refine wg (vf underlying47 rfl type42) (nt g179) ?_
           refine wg (fun W hm => rv_fieldA (o := 1) underlying42 rfl type3 (by decide) rfl rfl) (nt g179) ?_
           refine wg (vl 1 1 underlying3) (nt g179) ?_
           refine WM_callV (cl_fn cb128 rfl) (fun W hm => spec_l1In_c W ((gt x0.Done k142).Time) 0 x0.Store.Now) (Wd_some rfl rfl rfl (bw (nt g179) rfl)) (by decide) ?_
           refine wg vnot (nt g179) ?_
           refine wv (vpF (nt g179)) ?_
           refine wm ?_
           rcases Bool.eq_false_or_eq_true (spec_l1In_m ((gt x0.Done k142).Time) 0 x0.Store.Now) with g181 | g181
           ·
            have hw := spec_l1In_fact g181
            refine wg (vf underlying37 rfl type3) (nt g181) ?_
            refine wg (vl 0 5 underlying3) (nt g181) ?_
            refine WM_callV (cl_fn cb128 rfl) (fun W hm => spec_l1In_c W ((gt x0.Done k142).Steps) 0 100000) (Wd_some rfl rfl rfl (bw (nt g181) rfl)) (by decide) ?_
            refine wg vnot (nt g181) ?_
            refine wv (vpF (nt g181)) ?_
            refine wm ?_
            rcases Bool.eq_false_or_eq_true (spec_l1In_m ((gt x0.Done k142).Steps) 0 100000) with g183 | g183
            ·
             have hw := spec_l1In_fact g183
             refine wg (vf underlying37 rfl type35) (nt g183) ?_
             refine wg (vl 0 6 underlying35) (nt g183) ?_
             refine WM_callV (cl_fn cb153 rfl) (fun W hm => spec_l9List_c W _ ((gt x0.Done k142).Rows) (hm.rdS0 r176)) (Wd_some rfl rfl rfl (bw (nt g183) rfl)) (by decide) ?_
             refine wg vnot (nt g183) ?_
             refine wv (vpF (nt g183)) ?_
             refine nt' ?_
             rcases Bool.eq_false_or_eq_true (spec_l9List_m ((gt x0.Done k142).Rows)) with g185 | g185
             ·
              refine CM_condF rfl (nt g185) ?_
              refine CM_skip (QM_block_normal (QM_then (CM_region (wm ?_))))
              refine wv (vadN k142 1 (by omega)) ?_
              refine wa (WM_nil ?_)
              have hn186 := rng_next (R := Bool) (body := F2) (k := k142) (s := ()) (s' := ()) (show k142 < x0.Done.length from by omega) (show spec_IsEngine_b2 x0 k142 = Sum.inr () from by unfold spec_IsEngine_b2; exact cond_t g179 (cond_t g181 (cond_t g183 (cond_t g185 (rfl))))) hF144
              exact QM_round (k142 + 1, (), ()) sl2 (pk [1]) ⟨(by omega), hn186⟩ (rl (by omega))
             ·
              refine CM_condT rfl (nf g185) ?_
              refine sr (wa (nt' (CM_ret (QM_block_ret (QM_then_ret (QM_then_ret (QM_block_ret (QM_then_ret ?_))))))))
              exact rtb (h := by unfold spec_IsEngine_m; exact cond_t g43 (cond_t g45 (cond_t g47 (cond_f g49 (cond_t g51 (cond_f g53 (cond_f g55 (fin_inr hE141 (fin_inl (rng_ret (body := F2) (k := k142) (s := ()) (show k142 < x0.Done.length from by omega) (show spec_IsEngine_b2 x0 k142 = Sum.inl false from by unfold spec_IsEngine_b2; exact cond_t g179 (cond_t g181 (cond_t g183 (cond_f g185 (rfl))))) hF144) rfl)))))))))
            ·
             refine ws (nf g183) ?_
             refine ws (nf g183) ?_
             refine ws (nf g183) ?_
             refine ws (nf g183) ?_
             refine wv (vpT (nf g183)) ?_
             refine nt' ?_
             refine CM_condT rfl rfl ?_
             refine sr (wa (nt' (CM_ret (QM_block_ret (QM_then_ret (QM_then_ret (QM_block_ret (QM_then_ret ?_))))))))
             exact rtb (h := by unfold spec_IsEngine_m; exact cond_t g43 (cond_t g45 (cond_t g47 (cond_f g49 (cond_t g51 (cond_f g53 (cond_f g55 (fin_inr hE141 (fin_inl (rng_ret (body := F2) (k := k142) (s := ()) (show k142 < x0.Done.length from by omega) (show spec_IsEngine_b2 x0 k142 = Sum.inl false from by unfold spec_IsEngine_b2; exact cond_t g179 (cond_t g181 (cond_f g183 (rfl)))) hF144) rfl)))))))))
           ·
            refine ws (nf g181) ?_
            refine ws (nf g181) ?_
            refine ws (nf g181) ?_
            refine ws (nf g181) ?_
            refine wv (vpT (nf g181)) ?_
            refine wm ?_
            refine wk ?_
            refine wk ?_
            refine wk ?_
            refine wk ?_
            refine wv (vpT rfl) ?_
            refine nt' ?_
            refine CM_condT rfl rfl ?_
            refine sr (wa (nt' (CM_ret (QM_block_ret (QM_then_ret (QM_then_ret (QM_block_ret (QM_then_ret ?_))))))))
            exact rtb (h := by unfold spec_IsEngine_m; exact cond_t g43 (cond_t g45 (cond_t g47 (cond_f g49 (cond_t g51 (cond_f g53 (cond_f g55 (fin_inr hE141 (fin_inl (rng_ret (body := F2) (k := k142) (s := ()) (show k142 < x0.Done.length from by omega) (show spec_IsEngine_b2 x0 k142 = Sum.inl false from by unfold spec_IsEngine_b2; exact cond_t g179 (cond_f g181 (rfl))) hF144) rfl)))))))))
          ·
           refine ws (nf g179) ?_
           refine ws (nf g179) ?_
           refine ws (nf g179) ?_
           refine ws (nf g179) ?_
           refine ws (nf g179) ?_
           refine ws (nf g179) ?_
           refine ws (nf g179) ?_
           refine wv (vpT (nf g179)) ?_
           refine wm ?_
           refine wk ?_
           refine wk ?_
           refine wk ?_
           refine wk ?_
           refine wv (vpT rfl) ?_
           refine wm ?_
           refine wk ?_
           refine wk ?_
           refine wk ?_
           refine wk ?_
           refine wv (vpT rfl) ?_
           refine nt' ?_
           refine CM_condT rfl rfl ?_
           refine sr (wa (nt' (CM_ret (QM_block_ret (QM_then_ret (QM_then_ret (QM_block_ret (QM_then_ret ?_))))))))
           exact rtb (h := by unfold spec_IsEngine_m; exact cond_t g43 (cond_t g45 (cond_t g47 (cond_f g49 (cond_t g51 (cond_f g53 (cond_f g55 (fin_inr hE141 (fin_inl (rng_ret (body := F2) (k := k142) (s := ()) (show k142 < x0.Done.length from by omega) (show spec_IsEngine_b2 x0 k142 = Sum.inl false from by unfold spec_IsEngine_b2; exact cond_f g179 (rfl)) hF144) rfl)))))))))
         ·have g147 : (decide (((k142 : Nat) : Int) < ((x0.Done.length : Nat) : Int))) = false := decide_eq_false (by omega)
          refine CM_condF rfl g147 ?_
          refine CM_exit (QM_then_exit (QM_then_exit ?_))
          have hE187 : R5 (x0.Done.length - 0) 0 () = Sum.inr () := rng_end hl146 hF144
          refine QM_block_hit (QM_then (CM_seq (sr (wa (nt' (CM_block ?_))))))
          let F3 := fun k (_ : Unit) => spec_IsEngine_b3 x0 k
          let R6 := rng (R := Bool) F3
          refine CM_loop (σ := Nat × (Unit) × (Unit)) (fun s => [(1, .pointer (some (⟨p41, 0, none⟩ : Addr))), (6, .int .i64 ((s.1 : Nat) : Int))]) (fun s => [iBox p41 47 K7]) (fun s => s.1 ≤ x0.Ledger.length ∧ R6 (x0.Ledger.length - s.1) s.1 s.2.1 = R6 (x0.Ledger.length - 0) 0 ()) (fun s => x0.Ledger.length - s.1) (0, (), ()) sl2 (fun W hm => hm) ⟨(by omega), rfl⟩ ?_
          rintro ⟨k188, ⟨⟩, ⟨⟩⟩ H191
          obtain ⟨hk189, hF190⟩ : k188 ≤ x0.Ledger.length ∧ R6 (x0.Ledger.length - k188) k188 () = R6 (x0.Ledger.length - 0) 0 () := H191
          show CM Tryz.prog 140 _ _ _ _ [(1, .pointer (some (⟨p41, 0, none⟩ : Addr))), (6, .int .i64 ((k188 : Nat) : Int))] [iBox p41 47 K7]
          refine CM_seq (sr (wm ?_))
          refine wv (vf underlying47 rfl type45) ?_
          refine wv (vl 0 6 underlying45) ?_
          refine wv (vlen underlying45) ?_
          refine wv vlss ?_
          refine nt' ?_
          by_cases hl192 : k188 < x0.Ledger.length
          ·have g193 : (decide (((k188 : Nat) : Int) < ((x0.Ledger.length : Nat) : Int))) = true := decide_eq_true (by omega)
           refine CM_condT rfl g193 ?_
           refine CM_skip (QM_then (CM_seq (CM_block (sr ?_))))
           refine wv (vf underlying47 rfl type45) ?_
           refine wv (vl 0 6 underlying45) ?_
           refine wm ?_
           obtain ⟨a194, rfl, hb195, he196⟩ := q34 (by omega)
           refine wv (vix 5 k188 underlying45 type133) ?_
           obtain ⟨_, e204, hc197⟩ := he196 k188 _ (gt_some (show k188 < x0.Ledger.length from by omega))
           obtain ⟨v198, v200, v202, rfl, r199, r201, r203⟩ := tyCharge_rd e204
           have l205 : ((gt x0.Ledger k188).Ids).length ≤ 68719476736 := (s_0.2.2.2.2.2 _ (gt_mem (show k188 < x0.Ledger.length from by omega))).1
           have l206 : ((gt x0.Ledger k188).Tenants).length ≤ 68719476736 := (s_0.2.2.2.2.2 _ (gt_mem (show k188 < x0.Ledger.length from by omega))).2.1
           have l207 : ((gt x0.Ledger k188).Rows).length ≤ 68719476736 := (s_0.2.2.2.2.2 _ (gt_mem (show k188 < x0.Ledger.length from by omega))).2.2
           have r212 := r199
           obtain ⟨m208, A209, c210, rfl, q211⟩ := r199
           have r217 := r201
           obtain ⟨m213, A214, c215, rfl, q216⟩ := r201
           have r222 := r203
           obtain ⟨m218, A219, c220, rfl, q221⟩ := r203
           refine wv (fun W hm => rv_loadN (cs := [.int .i64 ((gt x0.Ledger k188).Segment), .int .i64 ((gt x0.Ledger k188).Base), .slice A209 ((gt x0.Ledger k188).Ids).length c210, .slice A214 ((gt x0.Ledger k188).Tenants).length c215, .slice A219 ((gt x0.Ledger k188).Rows).length c220]) underlying133 type133 rfl rfl (hm.elCells (show (a194.add (k188 * 5)).block < w.heap.size from by rw [add_block]; exact hb195.1) hc197)) ?_
           refine wcv (cl_fn cb154 rfl) (fun W hm => spec_IsCharge_c W _ (gt x0.Ledger k188) (tyCharge_mk (x := (gt x0.Ledger k188)) (hm.rdS0 r212) (hm.rdS0 r217) (hm.rdS0 r222))) ?_
           refine wv vnot ?_
           refine nt' ?_
           rcases Bool.eq_false_or_eq_true (spec_IsCharge_m (gt x0.Ledger k188)) with g224 | g224
           ·
            refine CM_condF rfl (nt g224) ?_
            refine CM_skip (QM_block_normal (QM_then (CM_region (wm ?_))))
            refine wv (vadN k188 1 (by omega)) ?_
            refine wa (WM_nil ?_)
            have hn225 := rng_next (R := Bool) (body := F3) (k := k188) (s := ()) (s' := ()) (show k188 < x0.Ledger.length from by omega) (show spec_IsEngine_b3 x0 k188 = Sum.inr () from by unfold spec_IsEngine_b3; exact cond_t g224 (rfl)) hF190
            exact QM_round (k188 + 1, (), ()) sl2 (fun W hm => hm) ⟨(by omega), hn225⟩ (rl (by omega))
           ·
            refine CM_condT rfl (nf g224) ?_
            refine sr (wa (nt' (CM_ret (QM_block_ret (QM_then_ret (QM_then_ret (QM_block_ret (QM_then_ret ?_))))))))
            exact rtb (h := by unfold spec_IsEngine_m; exact cond_t g43 (cond_t g45 (cond_t g47 (cond_f g49 (cond_t g51 (cond_f g53 (cond_f g55 (fin_inr hE141 (fin_inr hE187 (fin_inl (rng_ret (body := F3) (k := k188) (s := ()) (show k188 < x0.Ledger.length from by omega) (show spec_IsEngine_b3 x0 k188 = Sum.inl false from by unfold spec_IsEngine_b3; exact cond_f g224 (rfl)) hF190) rfl))))))))))
          ·have g193 : (decide (((k188 : Nat) : Int) < ((x0.Ledger.length : Nat) : Int))) = false := decide_eq_false (by omega)
           refine CM_condF rfl g193 ?_
           refine CM_exit (QM_then_exit (QM_then_exit ?_))
           have hE226 : R6 (x0.Ledger.length - 0) 0 () = Sum.inr () := rng_end hl192 hF190
           refine QM_block_hit (QM_then (sr (wa (nt' (CM_ret ?_)))))
           exact rtb (h := by unfold spec_IsEngine_m; exact cond_t g43 (cond_t g45 (cond_t g47 (cond_f g49 (cond_t g51 (cond_f g53 (cond_f g55 (fin_inr hE141 (fin_inr hE187 (fin_inr hE226 (rfl)))))))))))
     ·
      refine ws (nf g51) ?_
      refine ws (nf g51) ?_
      refine ws (nf g51) ?_
      refine ws (nf g51) ?_
      refine wv (vpT (nf g51)) ?_
      refine wm ?_
      refine wk ?_
      refine wk ?_
      refine wk ?_
      refine wk ?_
      refine wv (vpT rfl) ?_
      refine nt' ?_
      refine CM_condT rfl rfl ?_
      refine sr (wa (nt' (CM_ret (QM_then_ret ?_))))
      exact rtb (h := by unfold spec_IsEngine_m; exact cond_t g43 (cond_t g45 (cond_t g47 (cond_f g49 (cond_f g51 (rfl))))))
   ·
    refine ws (nf g47) ?_
    refine ws (nf g47) ?_
    refine ws (nf g47) ?_
    refine ws (nf g47) ?_
    refine wv (vpT (nf g47)) ?_
    refine wm ?_
    refine wk ?_
    refine wk ?_
    refine wk ?_
    refine wk ?_
    refine wv (vpT rfl) ?_
    refine wm ?_
    refine wk ?_
    refine wk ?_
    refine wk ?_
    refine wk ?_
    refine wv (vpT rfl) ?_
    refine wm ?_
    refine wk ?_
    refine wk ?_
    refine wk ?_
    refine wk ?_
    refine wv (vpT rfl) ?_
    refine nt' ?_
    refine CM_condT rfl rfl ?_
    refine sr (wa (nt' (CM_ret (QM_then_ret ?_))))
    exact rtb (h := by unfold spec_IsEngine_m; exact cond_t g43 (cond_t g45 (cond_f g47 (rfl))))
  ·
   refine ws (nf g45) ?_
   refine ws (nf g45) ?_
   refine ws (nf g45) ?_
   refine ws (nf g45) ?_
   refine wv (vpT (nf g45)) ?_
   refine wm ?_
   refine wk ?_
   refine wk ?_
   refine wk ?_
   refine wk ?_
   refine wv (vpT rfl) ?_
   refine wm ?_
   refine wk ?_
   refine wk ?_
   refine wk ?_
   refine wk ?_
   refine wv (vpT rfl) ?_
   refine wm ?_
   refine wk ?_
   refine wk ?_
   refine wk ?_
   refine wk ?_
   refine wv (vpT rfl) ?_
   refine wm ?_
   refine wk ?_
   refine wk ?_
   refine wk ?_
   refine wk ?_
   refine wv (vpT rfl) ?_
   refine nt' ?_
   refine CM_condT rfl rfl ?_
   refine sr (wa (nt' (CM_ret (QM_then_ret ?_))))
   exact rtb (h := by unfold spec_IsEngine_m; exact cond_t g43 (cond_f g45 (rfl)))
 ·
  refine ws (nf g43) ?_
  refine ws (nf g43) ?_
  refine ws (nf g43) ?_
  refine ws (nf g43) ?_
  refine ws (nf g43) ?_
  refine ws (nf g43) ?_
  refine ws (nf g43) ?_
  refine ws (nf g43) ?_
  refine ws (nf g43) ?_
  refine wv (vpT (nf g43)) ?_
  refine wm ?_
  refine wk ?_
  refine wk ?_
  refine wk ?_
  refine wk ?_
  refine wv (vpT rfl) ?_
  refine wm ?_
  refine wk ?_
  refine wk ?_
  refine wk ?_
  refine wk ?_
  refine wv (vpT rfl) ?_
  refine wm ?_
  refine wk ?_
  refine wk ?_
  refine wk ?_
  refine wk ?_
  refine wv (vpT rfl) ?_
  refine wm ?_
  refine wk ?_
  refine wk ?_
  refine wk ?_
  refine wk ?_
  refine wv (vpT rfl) ?_
  refine wm ?_
  refine wk ?_
  refine wk ?_
  refine wk ?_
  refine wk ?_
  refine wv (vpT rfl) ?_
  refine nt' ?_
  refine CM_condT rfl rfl ?_
  refine sr (wa (nt' (CM_ret (QM_then_ret ?_))))
  exact rtb (h := by unfold spec_IsEngine_m; exact cond_f g43 (rfl))

def spec_SetOrder_m (x0 : DEngine) (x1 : (List Int)) : (DEngine × Bool) :=
 cond (spec_IsEngine_m x0) (cond (spec_l6Order_m x1) ((⟨x0.Store, x0.Cursor, x1, x0.Active, x0.Done, x0.Ledger, x0.Steps⟩ : DEngine), true) (x0, false)) (x0, false)
theorem cb47 : Cb Tryz.prog 47 := ⟨f47, _, func47, rfl, by decide⟩
theorem spec_SetOrder_c (w : World) (z0 : List Value) (x0 : DEngine) (z1 : Value) (x1 : (List Int)) (r_0 : tyEngine.rd w w.heap.size z0 x0) (r_1 : rdS tInt w w.heap.size z1 x1) (s_0 : smEngine 68719476736 x0) (s_1 : x1.length ≤ 68719476736) :
  Calls Tryz.prog 47 #[.agg z0.toArray, z1] w fun e w' => ∃ v : List Value, e = .returned (.tuple #[.agg v.toArray, .bool ((spec_SetOrder_m x0 x1).2)]) ∧ Mem w.heap.size w [iOwn tyEngine v (spec_SetOrder_m x0 x1).1] w' := by
 obtain ⟨v1, v3, v5, v7, v9, rfl, r2, r4, r6, r8, r10⟩ := tyEngine_rd r_0
 have r15 := r2
 obtain ⟨m11, A12, c13, rfl, q14⟩ := r2
 have r20 := r4
 obtain ⟨m16, A17, c18, rfl, q19⟩ := r4
 have r25 := r6
 obtain ⟨m21, A22, c23, rfl, q24⟩ := r6
 have r30 := r8
 obtain ⟨m26, A27, c28, rfl, q29⟩ := r8
 have r35 := r10
 obtain ⟨m31, A32, c33, rfl, q34⟩ := r10
 have r40 := r_1
 obtain ⟨m36, A37, c38, rfl, q39⟩ := r_1
 have l41 : x0.Store.Segments.length ≤ 68719476736 := s_0.1.1
 have l42 : x0.Order.length ≤ 68719476736 := s_0.2.1
 have l43 : x0.Active.length ≤ 68719476736 := s_0.2.2.1.1
 have l44 : x0.Done.length ≤ 68719476736 := s_0.2.2.2.1.1
 have l45 : x0.Ledger.length ≤ 68719476736 := s_0.2.2.2.2.1
 have l46 : x1.length ≤ 68719476736 := s_1
 refine ce2 (L := [(0, .agg #[.slice A12 x0.Store.Segments.length c13, .int .i64 x0.Store.Now, .int .i64 x0.Cursor, .slice A17 x0.Order.length c18, .slice A22 x0.Active.length c23, .slice A27 x0.Done.length c28, .slice A32 x0.Ledger.length c33, .int .i64 x0.Steps]), (1, .slice A37 x1.length c38)]) (N := 23) func47 ?_
 refine sr ?_
 refine WM_box rfl (Wd_none rfl) (by decide) (fun p47 => ?_)
 refine WM_alloc type47 rfl (Wd_none rfl) (by decide) (fun p48 => ?_)
 refine wa (nt' (sr ?_))
 let K1 : List Value := [.slice A12 x0.Store.Segments.length c13, .int .i64 x0.Store.Now, .int .i64 x0.Cursor, .slice A17 x0.Order.length c18, .slice A22 x0.Active.length c23, .slice A27 x0.Done.length c28, .slice A32 x0.Ledger.length c33, .int .i64 x0.Steps]
 refine wv (fun W hm => rv_loadN (cs := K1) underlying47 type47 rfl rfl (hm.boxCells (n := 1) rfl)) ?_
 refine wcs tyEngine x0 (cl_fn cb81 rfl) (fun W hm => spec_l9Copy_c2 W _ x0 (tyEngine_mk (x := x0) (hm.rdS0 r15) (hm.rdS0 r20) (hm.rdS0 r25) (hm.rdS0 r30) (hm.rdS0 r35)) s_0) (fun z49 => ?_)
 refine tyEngine_sp ?_
 rintro ⟨v50, v51, v52, v53, v54⟩ rfl
 refine WM_form (n := 0) rfl ?_
 rintro A55 c56 rfl m57
 refine WM_form (n := 1) rfl ?_
 rintro A59 c60 rfl m61
 refine WM_form (n := 2) rfl ?_
 rintro A63 c64 rfl m65
 refine WM_form (n := 3) rfl ?_
 rintro A67 c68 rfl m69
 refine WM_form (n := 4) rfl ?_
 rintro A71 c72 rfl m73
 refine WM_alloc type47 rfl (Wd_none rfl) (by decide) (fun p75 => ?_)
 let K2 : List Value := [.slice A55 x0.Store.Segments.length c56, .int .i64 x0.Store.Now, .int .i64 x0.Cursor, .slice A59 x0.Order.length c60, .slice A63 x0.Active.length c64, .slice A67 x0.Done.length c68, .slice A71 x0.Ledger.length c72, .int .i64 x0.Steps]
 let K3 : List Value := [.slice none 0 0, .int .i64 0, .int .i64 0, .slice none 0 0, .slice none 0 0, .slice none 0 0, .slice none 0 0, .int .i64 0]
 let I5 : It := iOwn (tSl (tSl tyVersion 191) 131) [.slice A55 x0.Store.Segments.length c56] x0.Store.Segments
 let I6 : It := iOwn (tSl tInt 3) [.slice A59 x0.Order.length c60] x0.Order
 let I7 : It := iOwn (tSl tyActive 64) [.slice A63 x0.Active.length c64] x0.Active
 let I8 : It := iOwn (tSl tyFinished 37) [.slice A67 x0.Done.length c68] x0.Done
 let I9 : It := iOwn (tSl tyCharge 133) [.slice A71 x0.Ledger.length c72] x0.Ledger
 refine sb 0 K2 [I5, I6, I7, I8, I9, iBox p48 47 K3, iBox p47 47 K1] (fun W hm => hm) type47 ?_
 refine nt' (CM_seq (sr ?_))
 refine wv (fun W hm => rv_loadN (cs := K1) underlying47 type47 rfl rfl (hm.boxCells (n := 7) rfl)) ?_
 refine wcv (cl_fn cb65 rfl) (fun W hm => spec_IsEngine_c W _ x0 (tyEngine_mk (x := x0) (hm.rdS0 r15) (hm.rdS0 r20) (hm.rdS0 r25) (hm.rdS0 r30) (hm.rdS0 r35)) s_0) ?_
 refine wv vnot ?_
 refine wm ?_
 rcases Bool.eq_false_or_eq_true (spec_IsEngine_m x0) with g77 | g77
 ·
  refine wg vmv (nt g77) ?_
  refine WM_callV (cl_fn cb137 rfl) (fun W hm => spec_l6Order_c W _ x1 (hm.rdS0 r40)) (Wd_some rfl rfl rfl (bw (nt g77) rfl)) (by decide) ?_
  refine wg vnot (nt g77) ?_
  refine wv (vpF (nt g77)) ?_
  refine nt' ?_
  rcases Bool.eq_false_or_eq_true (spec_l6Order_m x1) with g79 | g79
  ·
   refine CM_condF rfl (nt g79) ?_
   refine CM_skip (QM_then (sr ?_))
   refine WM_build0 (E := tInt) underlying25 type3 (Wd_none rfl) (by decide) (fun p80 => ?_)
   refine wm ?_
   refine apR tInt tInt 3 (.slice (some ⟨p80, 0, none⟩) 0 0) [] x1 [iBox p75 47 K2, I5, I6, I7, I8, I9, iBox p48 47 K3, iBox p47 47 K1] (fun W hm => hm) (fun W hm => src_flat flat_int (hm.rdS0 r40)) underlying25 type3 (show (0 + x1.length) * 8 ≤ 140737488355328 from by omega) (fun v82 => ?_)
   refine WM_form (n := 0) rfl ?_
   rintro A83 c84 rfl m85
   refine wv (vf underlying47 rfl type25) ?_
   let K4 : List Value := [.slice A55 x0.Store.Segments.length c56, .int .i64 x0.Store.Now, .int .i64 x0.Cursor, .slice A83 x1.length c84, .slice A63 x0.Active.length c64, .slice A67 x0.Done.length c68, .slice A71 x0.Ledger.length c72, .int .i64 x0.Steps]
   let I10 : It := iOwn (tSl tInt 3) [.slice A83 x1.length c84] x1
   refine sb 3 K4 [I10, I5, I6, I7, I8, I9, iBox p48 47 K3, iBox p47 47 K1] (pk [1, 0, 2, 3, 4, 5, 6, 7, 8]) type25 ?_
   refine nt' (sr ?_)
   refine wv (fun W hm => rv_loadN (cs := K4) underlying47 type47 rfl rfl (hm.boxCells (n := 0) rfl)) ?_
   refine sb 0 K4 [iBox p75 47 K4, I10, I5, I6, I7, I8, I9, iBox p47 47 K1] (pk [7, 0, 1, 2, 3, 4, 5, 6, 8]) type47 ?_
   refine wa (nt' (CM_ret ?_))
   refine QM_r2 rfl (RR_cell (n := 0) rfl rfl underlying47 type47 rfl) (RR_tmp rfl) (fun W hm => ⟨K4, ?_, ?_⟩)
   ·first | rw [(show spec_SetOrder_m x0 x1 = ((⟨x0.Store, x0.Cursor, x1, x0.Active, x0.Done, x0.Ledger, x0.Steps⟩ : DEngine), true) from by unfold spec_SetOrder_m; exact cond_t g77 (cond_t g79 (rfl)))] | rfl
    try rfl
   ·rw [(show spec_SetOrder_m x0 x1 = ((⟨x0.Store, x0.Cursor, x1, x0.Active, x0.Done, x0.Ledger, x0.Steps⟩ : DEngine), true) from by unfold spec_SetOrder_m; exact cond_t g77 (cond_t g79 (rfl)))]; exact Mem.join (is := [I5, I10, I7, I8, I9]) (js := []) (fun _ _ hs => tyEngine_join (x := (⟨x0.Store, x0.Cursor, x1, x0.Active, x0.Done, x0.Ledger, x0.Steps⟩ : DEngine)) hs) (hm.pick [3, 2, 5, 6, 7] (by decide))
  ·
   refine CM_condT rfl (nf g79) ?_
   refine sr ?_
   refine wv (fun W hm => rv_loadN (cs := K2) underlying47 type47 rfl rfl (hm.boxCells (n := 0) rfl)) ?_
   refine sb 0 K2 [iBox p75 47 K2, I5, I6, I7, I8, I9, iBox p47 47 K1] (pk [6, 0, 1, 2, 3, 4, 5, 7]) type47 ?_
   refine wa (nt' (CM_ret (QM_then_ret ?_)))
   refine QM_r2 rfl (RR_cell (n := 0) rfl rfl underlying47 type47 rfl) (RR_tmp rfl) (fun W hm => ⟨K2, ?_, ?_⟩)
   ·first | rw [(show spec_SetOrder_m x0 x1 = (x0, false) from by unfold spec_SetOrder_m; exact cond_t g77 (cond_f g79 (rfl)))] | rfl
    try rfl
   ·rw [(show spec_SetOrder_m x0 x1 = (x0, false) from by unfold spec_SetOrder_m; exact cond_t g77 (cond_f g79 (rfl)))]; exact Mem.join (is := [I5, I6, I7, I8, I9]) (js := []) (fun _ _ hs => tyEngine_join (x := x0) hs) (hm.pick [2, 3, 4, 5, 6] (by decide))
 ·
  refine ws (nf g77) ?_
  refine ws (nf g77) ?_
  refine ws (nf g77) ?_
  refine wv (vpT (nf g77)) ?_
  refine nt' ?_
  refine CM_condT rfl rfl ?_
  refine sr ?_
  refine wv (fun W hm => rv_loadN (cs := K2) underlying47 type47 rfl rfl (hm.boxCells (n := 0) rfl)) ?_
  refine sb 0 K2 [iBox p75 47 K2, I5, I6, I7, I8, I9, iBox p47 47 K1] (pk [6, 0, 1, 2, 3, 4, 5, 7]) type47 ?_
  refine wa (nt' (CM_ret (QM_then_ret ?_)))
  refine QM_r2 rfl (RR_cell (n := 0) rfl rfl underlying47 type47 rfl) (RR_tmp rfl) (fun W hm => ⟨K2, ?_, ?_⟩)
  ·first | rw [(show spec_SetOrder_m x0 x1 = (x0, false) from by unfold spec_SetOrder_m; exact cond_f g77 (rfl))] | rfl
   try rfl
  ·rw [(show spec_SetOrder_m x0 x1 = (x0, false) from by unfold spec_SetOrder_m; exact cond_f g77 (rfl))]; exact Mem.join (is := [I5, I6, I7, I8, I9]) (js := []) (fun _ _ hs => tyEngine_join (x := x0) hs) (hm.pick [2, 3, 4, 5, 6] (by decide))

def impl_copyInts_m (x0 : (List Int)) : (List Int) :=
 x0
theorem cb136 : Cb Tryz.prog 136 := ⟨f136, _, func136, rfl, by decide⟩
theorem impl_copyInts_c (w : World) (z0 : Value) (x0 : (List Int)) (r_0 : rdS tInt w w.heap.size z0 x0) (s_0 : x0.length ≤ 68719476736) :
  Calls Tryz.prog 136 #[z0] w fun e w' => ∃ v : Value, e = .returned (v) ∧ Mem w.heap.size w [iOwn (tSl tInt 3) [v] (impl_copyInts_m x0)] w' := by
 have r5 := r_0
 obtain ⟨m1, A2, c3, rfl, q4⟩ := r_0
 have l6 : x0.length ≤ 68719476736 := s_0
 refine ce1 (L := [(0, .slice A2 x0.length c3)]) (N := 6) func136 ?_
 refine sr (wa (nt' (sr ?_)))
 refine WM_build0 (E := tInt) underlying25 type3 (Wd_none rfl) (by decide) (fun p7 => ?_)
 refine wm ?_
 refine apR tInt tInt 3 (.slice (some ⟨p7, 0, none⟩) 0 0) [] x0 [] (fun W hm => hm) (fun W hm => src_flat flat_int (hm.rdS0 r5)) underlying25 type3 (show (0 + x0.length) * 8 ≤ 140737488355328 from by omega) (fun v9 => ?_)
 refine WM_form (n := 0) rfl ?_
 rintro A10 c11 rfl m12
 refine wa (nt' (CM_ret ?_))
 refine QM_r1 rfl (RR_tmp rfl) (fun W hm => ⟨.slice A10 x0.length c11, ?_, ?_⟩)
 ·first | rw [(show impl_copyInts_m x0 = x0 from by unfold impl_copyInts_m; exact rfl)] | rfl
 ·rw [(show impl_copyInts_m x0 = x0 from by unfold impl_copyInts_m; exact rfl)]; exact hm
theorem impl_copyInts_eq (x0 : (List Int)) : impl_copyInts_m x0 = x0 := by
 rfl
theorem impl_copyInts_c2 (w : World) (z0 : Value) (x0 : (List Int)) (r_0 : rdS tInt w w.heap.size z0 x0) (s_0 : x0.length ≤ 68719476736) :
  Calls Tryz.prog 136 #[z0] w fun e w' => ∃ v : Value, e = .returned (v) ∧ Mem w.heap.size w [iOwn (tSl tInt 3) [v] x0] w' := by
 have h := impl_copyInts_c w z0 x0 r_0 s_0
 rw [impl_copyInts_eq] at h
 exact h

def impl_copyStore_b2 (x0 : DStore) (k12 : Nat) (k39 : Nat) (d40 : (List DVersion)) : DStore ⊕ ((List DVersion)) :=
 Sum.inr (d40 ++ [(⟨(gt (gt x0.Segments k12) k39).Id, ((gt (gt x0.Segments k12) k39).Values), (gt (gt x0.Segments k12) k39).Born, (gt (gt x0.Segments k12) k39).Died⟩ : DVersion)])
def impl_copyStore_b1 (x0 : DStore) (k12 : Nat) (d15 : (List (List DVersion))) : DStore ⊕ ((List (List DVersion))) :=
 Sum.elim Sum.inl (fun (s : (List DVersion)) => Sum.inr (d15 ++ [s])) (rng (R := DStore) (fun k (s : (List DVersion)) => impl_copyStore_b2 x0 k12 k s) (((gt x0.Segments k12)).length - 0) 0 [])
def impl_copyStore_m (x0 : DStore) : DStore :=
 Sum.elim id (fun (s : (List (List DVersion))) => (⟨s, x0.Now⟩ : DStore)) (rng (R := DStore) (fun k (s : (List (List DVersion))) => impl_copyStore_b1 x0 k s) (x0.Segments.length - 0) 0 [])
theorem cb173 : Cb Tryz.prog 173 := ⟨f173, _, func173, rfl, by decide⟩
theorem impl_copyStore_c (w : World) (z0 : List Value) (x0 : DStore) (r_0 : tyStore.rd w w.heap.size z0 x0) (s_0 : smStore 68719476736 x0) :
  Calls Tryz.prog 173 #[.agg z0.toArray] w fun e w' => ∃ v : List Value, e = .returned (.agg v.toArray) ∧ Mem w.heap.size w [iOwn tyStore v (impl_copyStore_m x0)] w' := by
 obtain ⟨v1, rfl, r2⟩ := tyStore_rd r_0
 have r7 := r2
 obtain ⟨m3, A4, c5, rfl, q6⟩ := r2
 have l8 : x0.Segments.length ≤ 68719476736 := s_0.1
 refine ce1 (L := [(0, .agg #[.slice A4 x0.Segments.length c5, .int .i64 x0.Now])]) (N := 48) func173 ?_
 refine sr ?_
 refine WM_box rfl (Wd_none rfl) (by decide) (fun p9 => ?_)
 refine WM_alloc type42 rfl (Wd_none rfl) (by decide) (fun p10 => ?_)
 refine nt' (sr ?_)
 refine wv (vf underlying42 rfl type3) ?_
 refine wv (vl 1 1 underlying3) ?_
 refine wv (fun W hm => rv_build (cs := [.slice none 0 0, .int .i64 x0.Now]) rfl (by kernel_rfl)) ?_
 refine WM_alloc type42 rfl (Wd_none rfl) (by decide) (fun p11 => ?_)
 let I7 : It := iBox p9 42 [.slice A4 x0.Segments.length c5, .int .i64 x0.Now]
 refine sb 0 [.slice none 0 0, .int .i64 x0.Now] [iBox p10 42 [.slice none 0 0, .int .i64 0], I7] (fun W hm => hm) type42 ?_
 refine nt' (CM_seq (sr ?_))
 refine wv (vf underlying42 rfl type40) ?_
 refine wv (vl 2 0 underlying40) ?_
 refine wv (vlen underlying40) ?_
 refine wm (nt' (CM_block ?_))
 refine CM_items (fun W hm => (hm.addNil (E := (tSl tyVersion 191)) (e := 131)).last) ?_
 let F1 := fun k (s : (List (List DVersion))) => impl_copyStore_b1 x0 k s
 let R3 := rng (R := DStore) F1
 refine CM_loop (σ := Nat × ((List (List DVersion))) × (Option Addr × Nat)) (fun s => [(2, .pointer (some (⟨p10, 0, none⟩ : Addr))), (3, .pointer (some (⟨p11, 0, none⟩ : Addr))), (13, .slice A4 x0.Segments.length c5), (14, .int .i64 ((x0.Segments.length : Nat) : Int)), (15, .int .i64 ((s.1 : Nat) : Int))]) (fun s => [iBox p11 42 [.slice s.2.2.1 s.2.1.length s.2.2.2, .int .i64 x0.Now], iBox p10 42 [.slice none 0 0, .int .i64 0], I7, iOwn (tSl (tSl tyVersion 191) 131) [.slice s.2.2.1 s.2.1.length s.2.2.2] s.2.1]) (fun s => s.1 ≤ x0.Segments.length ∧ R3 (x0.Segments.length - s.1) s.1 s.2.1 = R3 (x0.Segments.length - 0) 0 [] ∧ s.2.1.length ≤ 0 + s.1) (fun s => x0.Segments.length - s.1) (0, [], (none, 0)) sl5 (fun W hm => hm) ⟨(by omega), rfl, Nat.le_refl _⟩ ?_
 rintro ⟨k12, d15, ⟨A16, c17⟩⟩ H20
 obtain ⟨hk18, hF19, hi21⟩ : k12 ≤ x0.Segments.length ∧ R3 (x0.Segments.length - k12) k12 d15 = R3 (x0.Segments.length - 0) 0 [] ∧ d15.length ≤ 0 + k12 := H20
 let I8 : It := iBox p11 42 [.slice A16 d15.length c17, .int .i64 x0.Now]
 let I9 : It := iOwn (tSl (tSl tyVersion 191) 131) [.slice A16 d15.length c17] d15
 show CM Tryz.prog 48 _ _ _ _ [(2, .pointer (some (⟨p10, 0, none⟩ : Addr))), (3, .pointer (some (⟨p11, 0, none⟩ : Addr))), (13, .slice A4 x0.Segments.length c5), (14, .int .i64 ((x0.Segments.length : Nat) : Int)), (15, .int .i64 ((k12 : Nat) : Int))] [I8, iBox p10 42 [.slice none 0 0, .int .i64 0], I7, I9]
 refine sr ?_
 refine wv vlss ?_
 refine nt' (CM_seq ?_)
 by_cases hl22 : k12 < x0.Segments.length
 ·have g23 : (decide (((k12 : Nat) : Int) < ((x0.Segments.length : Nat) : Int))) = true := decide_eq_true (by omega)
  refine CM_condT rfl g23 ?_
  refine CM_skip (QM_then (CM_seq (CM_block (sr ?_))))
  obtain ⟨a24, rfl, hb25, he26⟩ := q6 (by omega)
  refine wv (vix 1 k12 underlying40 type131) ?_
  obtain ⟨_, e28, hc27⟩ := he26 k12 _ (gt_some (show k12 < x0.Segments.length from by omega))
  have l29 : (gt x0.Segments k12).length ≤ 68719476736 := (s_0.2 _ (gt_mem (show k12 < x0.Segments.length from by omega))).1
  obtain ⟨v30, rfl, r31⟩ := e28
  have r36 := r31
  obtain ⟨m32, A33, c34, rfl, q35⟩ := r31
  refine wv (fun W hm => rv_load underlying131 rfl rfl ((hm.cell0 (show (a24.add (k12 * 1)).block < w.heap.size from by rw [add_block]; exact hb25.1)).trans (hc27 0 _ rfl))) ?_
  refine wa (nt' (sr ?_))
  refine WM_build0 (E := tyVersion) underlying131 type191 (Wd_none rfl) (by decide) (fun p37 => ?_)
  refine wa (nt' (CM_seq (sr (wm ?_))))
  refine wv (vlen underlying131) ?_
  refine wm (nt' (CM_block ?_))
  let F2 := fun k (s : (List DVersion)) => impl_copyStore_b2 x0 k12 k s
  let R4 := rng (R := DStore) F2
  let I10 : It := iBox p9 42 [.slice (some a24) x0.Segments.length c5, .int .i64 x0.Now]
  refine CM_loop (σ := Nat × ((List DVersion)) × (Option Addr × Nat)) (fun s => [(2, .pointer (some (⟨p10, 0, none⟩ : Addr))), (3, .pointer (some (⟨p11, 0, none⟩ : Addr))), (6, .slice s.2.2.1 s.2.1.length s.2.2.2), (13, .slice (some a24) x0.Segments.length c5), (14, .int .i64 ((x0.Segments.length : Nat) : Int)), (15, .int .i64 ((k12 : Nat) : Int)), (20, .slice A33 ((gt x0.Segments k12)).length c34), (21, .int .i64 ((((gt x0.Segments k12)).length : Nat) : Int)), (22, .int .i64 ((s.1 : Nat) : Int))]) (fun s => [iOwn (tSl tyVersion 191) [.slice s.2.2.1 s.2.1.length s.2.2.2] s.2.1, I8, iBox p10 42 [.slice none 0 0, .int .i64 0], I10, I9]) (fun s => s.1 ≤ ((gt x0.Segments k12)).length ∧ R4 (((gt x0.Segments k12)).length - s.1) s.1 s.2.1 = R4 (((gt x0.Segments k12)).length - 0) 0 [] ∧ s.2.1.length ≤ 0 + s.1) (fun s => ((gt x0.Segments k12)).length - s.1) (0, [], ((some ⟨p37, 0, none⟩), 0)) sl9 (fun W hm => hm) ⟨(by omega), rfl, Nat.le_refl _⟩ ?_
  rintro ⟨k39, d40, ⟨A41, c42⟩⟩ H45
  obtain ⟨hk43, hF44, hi46⟩ : k39 ≤ ((gt x0.Segments k12)).length ∧ R4 (((gt x0.Segments k12)).length - k39) k39 d40 = R4 (((gt x0.Segments k12)).length - 0) 0 [] ∧ d40.length ≤ 0 + k39 := H45
  let I11 : It := iOwn (tSl tyVersion 191) [.slice A41 d40.length c42] d40
  show CM Tryz.prog 48 _ _ _ _ [(2, .pointer (some (⟨p10, 0, none⟩ : Addr))), (3, .pointer (some (⟨p11, 0, none⟩ : Addr))), (6, .slice A41 d40.length c42), (13, .slice (some a24) x0.Segments.length c5), (14, .int .i64 ((x0.Segments.length : Nat) : Int)), (15, .int .i64 ((k12 : Nat) : Int)), (20, .slice A33 ((gt x0.Segments k12)).length c34), (21, .int .i64 ((((gt x0.Segments k12)).length : Nat) : Int)), (22, .int .i64 ((k39 : Nat) : Int))] [I11, I8, iBox p10 42 [.slice none 0 0, .int .i64 0], I10, I9]
  refine sr ?_
  refine wv vlss ?_
  refine nt' (CM_seq ?_)
  by_cases hl47 : k39 < ((gt x0.Segments k12)).length
  ·have g48 : (decide (((k39 : Nat) : Int) < ((((gt x0.Segments k12)).length : Nat) : Int))) = true := decide_eq_true (by omega)
   refine CM_condT rfl g48 ?_
   refine CM_skip (QM_then (CM_seq (CM_block (sr ?_))))
   obtain ⟨a49, rfl, hb50, he51⟩ := q35 (by omega)
   refine wv (vix 4 k39 underlying131 type191) ?_
   obtain ⟨_, e55, hc52⟩ := he51 k39 _ (gt_some (show k39 < ((gt x0.Segments k12)).length from by omega))
   obtain ⟨v53, rfl, r54⟩ := tyVersion_rd e55
   have l56 : ((gt (gt x0.Segments k12) k39).Values).length ≤ 68719476736 := ((s_0.2 _ (gt_mem (show k12 < x0.Segments.length from by omega))).2 _ (gt_mem (show k39 < ((gt x0.Segments k12)).length from by omega)))
   have r61 := r54
   obtain ⟨m57, A58, c59, rfl, q60⟩ := r54
   let K5 : List Value := [.int .i64 ((gt (gt x0.Segments k12) k39).Id), .slice A58 ((gt (gt x0.Segments k12) k39).Values).length c59, .int .i64 ((gt (gt x0.Segments k12) k39).Born), .int .i64 ((gt (gt x0.Segments k12) k39).Died)]
   refine wv (fun W hm => rv_loadN (cs := K5) underlying191 type191 rfl rfl (hm.elCells (show (a49.add (k39 * 4)).block < w.heap.size from by rw [add_block]; exact hb50.1) hc52)) ?_
   refine WM_alloc type191 rfl (Wd_none rfl) (by decide) (fun p62 => ?_)
   refine sb 0 K5 [I11, I8, iBox p10 42 [.slice none 0 0, .int .i64 0], I10, I9] (fun W hm => hm) type191 ?_
   refine nt' ?_
   refine rb 14 (s := [iBox p62 191 K5, I8, iBox p10 42 [.slice none 0 0, .int .i64 0], I10, I9]) (pk [0, 2, 3, 4, 5]) ?_
   refine qt 14 0 1 rfl vmv ?_
   refine qt 14 1 3 rfl (vf underlying191 rfl type3) ?_
   refine qt 14 2 7 rfl (vl 0 0 underlying3) ?_
   refine qt 14 3 15 rfl (vf underlying191 rfl type25) ?_
   refine qt 14 4 31 rfl (vl 0 1 underlying25) ?_
   refine qt 14 6 95 rfl (vf underlying191 rfl type3) ?_
   refine qt 14 7 223 rfl (vl 0 2 underlying3) ?_
   refine qt 14 8 479 rfl (vf underlying191 rfl type3) ?_
   refine qt 14 9 991 rfl (vl 0 3 underlying3) ?_
   refine qo 14 5 1023 rfl ?_
   refine wcl (tSl tInt 3) ((gt (gt x0.Segments k12) k39).Values) (cl_fn cb136 rfl) (fun W hm => impl_copyInts_c2 W _ ((gt (gt x0.Segments k12) k39).Values) (hm.rdS0 r61) ((s_0.2 _ (gt_mem (show k12 < x0.Segments.length from by omega))).2 _ (gt_mem (show k39 < ((gt x0.Segments k12)).length from by omega)))) (fun z63 => ?_)
   refine WM_form (n := 0) rfl ?_
   rintro A64 c65 rfl m66
   refine qn (pk [1, 3, 4, 5, 6]) ?_
   let K6 : List Value := [.int .i64 ((gt (gt x0.Segments k12) k39).Id), .slice A64 ((gt (gt x0.Segments k12) k39).Values).length c65, .int .i64 ((gt (gt x0.Segments k12) k39).Born), .int .i64 ((gt (gt x0.Segments k12) k39).Died)]
   refine qt 14 10 2047 rfl (fun W hm => rv_build (cs := K6) rfl (by kernel_rfl)) ?_
   refine qo 14 11 4095 rfl ?_
   refine WM_build (cs := K6) underlying131 type191 rfl (by decide) (by decide) rfl (by kernel_rfl) (Wd_none rfl) (by decide) (fun p68 => ?_)
   refine qn (pk [2, 4, 5, 6, 7]) ?_
   refine qo 14 12 8191 rfl ?_
   refine ap1 tyVersion 191 (.slice A41 d40.length c42) d40 (⟨(gt (gt x0.Segments k12) k39).Id, ((gt (gt x0.Segments k12) k39).Values), (gt (gt x0.Segments k12) k39).Born, (gt (gt x0.Segments k12) k39).Died⟩ : DVersion) [iOwn (tSl tInt 3) [.slice A64 ((gt (gt x0.Segments k12) k39).Values).length c65] ((gt (gt x0.Segments k12) k39).Values)] [iBox p62 191 K5, I8, iBox p10 42 [.slice none 0 0, .int .i64 0], I10, I9] K6 (pk [0, 3, 1, 2, 4, 5, 6, 7]) (fun _ _ hs => Els.single (tyVersion_join (x := (⟨(gt (gt x0.Segments k12) k39).Id, ((gt (gt x0.Segments k12) k39).Values), (gt (gt x0.Segments k12) k39).Born, (gt (gt x0.Segments k12) k39).Died⟩ : DVersion)) hs)) underlying131 type191 (show (d40.length + 1) * 48 ≤ 140737488355328 from by omega) (fun v69 => ?_)
   refine WM_form (n := 0) rfl ?_
   rintro A70 c71 rfl m72
   refine qn (pk [1, 2, 3, 4, 5]) ?_
   refine qt 14 13 16383 rfl (fun W hm => rv_assign rfl) ?_
   refine QB_done (by kernel_rfl) ?_
   refine QM_block_normal (QM_then (CM_region ?_))
   refine wv (vadN k39 1 (by omega)) ?_
   refine wm (WM_nil ?_)
   have hn74 := rng_next (R := DStore) (body := F2) (k := k39) (s := d40) (s' := (d40 ++ [(⟨(gt (gt x0.Segments k12) k39).Id, ((gt (gt x0.Segments k12) k39).Values), (gt (gt x0.Segments k12) k39).Born, (gt (gt x0.Segments k12) k39).Died⟩ : DVersion)])) (show k39 < ((gt x0.Segments k12)).length from by omega) (show impl_copyStore_b2 x0 k12 k39 d40 = Sum.inr (d40 ++ [(⟨(gt (gt x0.Segments k12) k39).Id, ((gt (gt x0.Segments k12) k39).Values), (gt (gt x0.Segments k12) k39).Born, (gt (gt x0.Segments k12) k39).Died⟩ : DVersion)]) from by unfold impl_copyStore_b2; exact rfl) hF44
   exact QM_round (k39 + 1, (d40 ++ [(⟨(gt (gt x0.Segments k12) k39).Id, ((gt (gt x0.Segments k12) k39).Values), (gt (gt x0.Segments k12) k39).Born, (gt (gt x0.Segments k12) k39).Died⟩ : DVersion)]), (A70, c71)) sl9 (pk [0, 2, 3, 4, 5]) ⟨(by omega), hn74, (show (d40 ++ [(⟨(gt (gt x0.Segments k12) k39).Id, ((gt (gt x0.Segments k12) k39).Values), (gt (gt x0.Segments k12) k39).Born, (gt (gt x0.Segments k12) k39).Died⟩ : DVersion)]).length ≤ 0 + (k39 + 1) from by first | omega | (simp only [List.length_append, List.length_cons, List.length_nil] at *; omega))⟩ (show ((gt x0.Segments k12)).length - (k39 + 1) < ((gt x0.Segments k12)).length - k39 from by omega)
  ·have g48 : (decide (((k39 : Nat) : Int) < ((((gt x0.Segments k12)).length : Nat) : Int))) = false := decide_eq_false (by omega)
   refine CM_condF rfl g48 ?_
   refine CM_exit (QM_then_exit (QM_then_exit ?_))
   have hE75 : R4 (((gt x0.Segments k12)).length - 0) 0 [] = Sum.inr d40 := rng_end hl47 hF44
   refine QM_block_hit (QM_then (CM_region ?_))
   refine wv (vf underlying42 rfl type40) ?_
   refine wv (vl 1 0 underlying40) ?_
   refine wm ?_
   refine WM_build (cs := [.slice A41 d40.length c42]) underlying40 type131 rfl (by decide) (by decide) rfl (by kernel_rfl) (Wd_none rfl) (by decide) (fun p76 => ?_)
   refine ap1 (tSl tyVersion 191) 131 (.slice A16 d15.length c17) d15 d40 [I11] [I8, iBox p10 42 [.slice none 0 0, .int .i64 0], I10] [.slice A41 d40.length c42] (pk [0, 5, 1, 2, 3, 4]) (fun _ _ hs => Els.single (Sep.one hs)) underlying40 type131 (show (d15.length + 1) * 24 ≤ 140737488355328 from by omega) (fun v77 => ?_)
   refine WM_form (n := 0) rfl ?_
   rintro A78 c79 rfl m80
   refine wv (vf underlying42 rfl type40) ?_
   refine sb 0 [.slice A78 (d15 ++ [d40]).length c79, .int .i64 x0.Now] [iOwn (tSl (tSl tyVersion 191) 131) [.slice A78 (d15 ++ [d40]).length c79] (d15 ++ [d40]), iBox p10 42 [.slice none 0 0, .int .i64 0], I10] (pk [1, 0, 2, 3]) type40 ?_
   refine WM_nil (QM_block_normal (QM_then (CM_region ?_)))
   refine wv (vadN k12 1 (by omega)) ?_
   refine wm (WM_nil ?_)
   have hn82 := rng_next (R := DStore) (body := F1) (k := k12) (s := d15) (s' := (d15 ++ [d40])) (show k12 < x0.Segments.length from by omega) (show impl_copyStore_b1 x0 k12 d15 = Sum.inr (d15 ++ [d40]) from by unfold impl_copyStore_b1; exact fin_inr hE75 (rfl)) hF19
   exact QM_round (k12 + 1, (d15 ++ [d40]), (A78, c79)) sl5 (pk [0, 2, 3, 1]) ⟨(by omega), hn82, (show (d15 ++ [d40]).length ≤ 0 + (k12 + 1) from by first | omega | (simp only [List.length_append, List.length_cons, List.length_nil] at *; omega))⟩ (rl (by omega))
 ·have g23 : (decide (((k12 : Nat) : Int) < ((x0.Segments.length : Nat) : Int))) = false := decide_eq_false (by omega)
  refine CM_condF rfl g23 ?_
  refine CM_exit (QM_then_exit (QM_then_exit ?_))
  have hE83 : R3 (x0.Segments.length - 0) 0 [] = Sum.inr d15 := rng_end hl22 hF19
  refine QM_block_hit (QM_then (sr ?_))
  refine wv (fun W hm => rv_loadN (cs := [.slice A16 d15.length c17, .int .i64 x0.Now]) underlying42 type42 rfl rfl (hm.boxCells (n := 0) rfl)) ?_
  refine sb 0 [.slice A16 d15.length c17, .int .i64 x0.Now] [I8, I7, I9] (pk [1, 0, 2, 3]) type42 ?_
  refine nt' (CM_ret ?_)
  refine QM_r1 rfl (RR_cell (n := 0) rfl rfl underlying42 type42 rfl) (fun W hm => ⟨[.slice A16 d15.length c17, .int .i64 x0.Now], ?_, ?_⟩)
  ·first | rw [(show impl_copyStore_m x0 = (⟨d15, x0.Now⟩ : DStore) from by unfold impl_copyStore_m; exact fin_inr hE83 (rfl))] | rfl
  ·rw [(show impl_copyStore_m x0 = (⟨d15, x0.Now⟩ : DStore) from by unfold impl_copyStore_m; exact fin_inr hE83 (rfl))]; exact Mem.join (is := [I9]) (js := []) (fun _ _ hs => tyStore_join (x := (⟨d15, x0.Now⟩ : DStore)) hs) (hm.pick [3] (by decide))
theorem impl_copyStore_eq (x0 : DStore) : impl_copyStore_m x0 = x0 := by
 unfold impl_copyStore_m; rw [rng_app (xs := x0.Segments) (b := fun k s => impl_copyStore_b1 x0 k s) (fun j s => by unfold impl_copyStore_b1; rw [rng_app (xs := gt x0.Segments j) (b := fun k s => impl_copyStore_b2 x0 j k s) (fun _ _ => rfl)]; rfl)]; rfl
theorem impl_copyStore_c2 (w : World) (z0 : List Value) (x0 : DStore) (r_0 : tyStore.rd w w.heap.size z0 x0) (s_0 : smStore 68719476736 x0) :
  Calls Tryz.prog 173 #[.agg z0.toArray] w fun e w' => ∃ v : List Value, e = .returned (.agg v.toArray) ∧ Mem w.heap.size w [iOwn tyStore v x0] w' := by
 have h := impl_copyStore_c w z0 x0 r_0 s_0
 rw [impl_copyStore_eq] at h
 exact h

def impl_copyQuery_m (x0 : DQuery) : DQuery :=
 x0
theorem cb126 : Cb Tryz.prog 126 := ⟨f126, _, func126, rfl, by decide⟩
theorem impl_copyQuery_c (w : World) (z0 : List Value) (x0 : DQuery) (r_0 : tyQuery.rd w w.heap.size z0 x0) (s_0 : smQuery 68719476736 x0) :
  Calls Tryz.prog 126 #[.agg z0.toArray] w fun e w' => ∃ v : List Value, e = .returned (.agg v.toArray) ∧ Mem w.heap.size w [iOwn tyQuery v (impl_copyQuery_m x0)] w' := by
 obtain ⟨v1, v3, rfl, r2, r4⟩ := tyQuery_rd r_0
 have r9 := r2
 obtain ⟨m5, A6, c7, rfl, q8⟩ := r2
 have r14 := r4
 obtain ⟨m10, A11, c12, rfl, q13⟩ := r4
 have l15 : x0.Conds.length ≤ 68719476736 := s_0.1
 have l16 : x0.Out.length ≤ 68719476736 := s_0.2
 refine ce1 (L := [(0, .agg #[.int .i64 x0.Id, .int .i64 x0.Tenant, .slice A6 x0.Conds.length c7, .slice A11 x0.Out.length c12])]) (N := 13) func126 ?_
 refine sr ?_
 refine WM_box rfl (Wd_none rfl) (by decide) (fun p17 => ?_)
 refine WM_alloc type34 rfl (Wd_none rfl) (by decide) (fun p18 => ?_)
 refine nt' (sr ?_)
 refine WM_build0 (E := tyCond) underlying32 type201 (Wd_none rfl) (by decide) (fun p19 => ?_)
 refine wv (vf underlying34 rfl type32) ?_
 refine wv (vl 2 2 underlying32) ?_
 let K1 : List Value := [.int .i64 0, .int .i64 0, .slice none 0 0, .slice none 0 0]
 refine apR tyCond tyCond 201 (.slice (some ⟨p19, 0, none⟩) 0 0) [] x0.Conds [iBox p18 34 K1, iBox p17 34 [.int .i64 x0.Id, .int .i64 x0.Tenant, .slice A6 x0.Conds.length c7, .slice A11 x0.Out.length c12]] (fun W hm => hm) (fun W hm => src_flat (flat_map (flat_pair flat_int (flat_pair flat_int flat_int))) (hm.rdS0 r9)) underlying32 type201 (show (0 + x0.Conds.length) * 24 ≤ 140737488355328 from by omega) (fun v21 => ?_)
 refine WM_form (n := 0) rfl ?_
 rintro A22 c23 rfl m24
 refine wv (vf underlying34 rfl type32) ?_
 let I3 : It := iOwn (tSl tyCond 201) [.slice A22 x0.Conds.length c23] x0.Conds
 refine sb 2 [.int .i64 x0.Id, .int .i64 x0.Tenant, .slice A22 x0.Conds.length c23, .slice A11 x0.Out.length c12] [I3, iBox p18 34 K1] (pk [2, 0, 1]) type32 ?_
 refine nt' (sr ?_)
 refine wv (vf underlying34 rfl type25) ?_
 refine wv (vl 0 3 underlying25) ?_
 refine wcl (tSl tInt 3) x0.Out (cl_fn cb136 rfl) (fun W hm => impl_copyInts_c2 W _ x0.Out (hm.rdS0 r14) s_0.2) (fun z26 => ?_)
 refine WM_form (n := 0) rfl ?_
 rintro A27 c28 rfl m29
 refine wv (vf underlying34 rfl type25) ?_
 let K2 : List Value := [.int .i64 x0.Id, .int .i64 x0.Tenant, .slice A22 x0.Conds.length c23, .slice A27 x0.Out.length c28]
 let I4 : It := iOwn (tSl tInt 3) [.slice A27 x0.Out.length c28] x0.Out
 refine sb 3 K2 [I4, I3, iBox p18 34 K1] (pk [1, 0, 2, 3]) type25 ?_
 refine nt' (sr ?_)
 refine wv (fun W hm => rv_loadN (cs := K2) underlying34 type34 rfl rfl (hm.boxCells (n := 0) rfl)) ?_
 refine sb 0 K2 [iBox p17 34 K2, I4, I3] (pk [3, 0, 1, 2]) type34 ?_
 refine nt' (CM_ret ?_)
 refine QM_r1 rfl (RR_cell (n := 0) rfl rfl underlying34 type34 rfl) (fun W hm => ⟨K2, ?_, ?_⟩)
 ·first | rw [(show impl_copyQuery_m x0 = x0 from by unfold impl_copyQuery_m; exact rfl)] | rfl
 ·rw [(show impl_copyQuery_m x0 = x0 from by unfold impl_copyQuery_m; exact rfl)]; exact Mem.join (is := [I3, I4]) (js := []) (fun _ _ hs => tyQuery_join (x := x0) hs) (hm.pick [3, 2] (by decide))
theorem impl_copyQuery_eq (x0 : DQuery) : impl_copyQuery_m x0 = x0 := by
 rfl
theorem impl_copyQuery_c2 (w : World) (z0 : List Value) (x0 : DQuery) (r_0 : tyQuery.rd w w.heap.size z0 x0) (s_0 : smQuery 68719476736 x0) :
  Calls Tryz.prog 126 #[.agg z0.toArray] w fun e w' => ∃ v : List Value, e = .returned (.agg v.toArray) ∧ Mem w.heap.size w [iOwn tyQuery v x0] w' := by
 have h := impl_copyQuery_c w z0 x0 r_0 s_0
 rw [impl_copyQuery_eq] at h
 exact h

def impl_copyRow_m (x0 : DRow) : DRow :=
 x0
theorem cb217 : Cb Tryz.prog 217 := ⟨f217, _, func217, rfl, by decide⟩
theorem impl_copyRow_c (w : World) (z0 : List Value) (x0 : DRow) (r_0 : tyRow.rd w w.heap.size z0 x0) (s_0 : smRow 68719476736 x0) :
  Calls Tryz.prog 217 #[.agg z0.toArray] w fun e w' => ∃ v : List Value, e = .returned (.agg v.toArray) ∧ Mem w.heap.size w [iOwn tyRow v (impl_copyRow_m x0)] w' := by
 obtain ⟨v1, rfl, r2⟩ := tyRow_rd r_0
 have r7 := r2
 obtain ⟨m3, A4, c5, rfl, q6⟩ := r2
 have l8 : x0.Values.length ≤ 68719476736 := s_0
 refine ce1 (L := [(0, .agg #[.int .i64 x0.Id, .slice A4 x0.Values.length c5])]) (N := 9) func217 ?_
 refine sr ?_
 refine WM_box rfl (Wd_none rfl) (by decide) (fun p9 => ?_)
 refine WM_alloc type73 rfl (Wd_none rfl) (by decide) (fun p10 => ?_)
 refine nt' (CM_seq ?_)
 let I1 : It := iBox p9 73 [.int .i64 x0.Id, .slice A4 x0.Values.length c5]
 refine rb 7 (s := [I1]) (pk [1]) ?_
 refine qt 7 0 1 rfl (vf underlying73 rfl type3) ?_
 refine qt 7 1 3 rfl (vl 0 0 underlying3) ?_
 refine qt 7 2 7 rfl (vf underlying73 rfl type25) ?_
 refine qt 7 3 15 rfl (vl 0 1 underlying25) ?_
 refine qo 7 4 31 rfl ?_
 refine wcl (tSl tInt 3) x0.Values (cl_fn cb136 rfl) (fun W hm => impl_copyInts_c2 W _ x0.Values (hm.rdS0 r7) s_0) (fun z11 => ?_)
 refine WM_form (n := 0) rfl ?_
 rintro A12 c13 rfl m14
 refine qn (pk [2]) ?_
 refine qt 7 5 63 rfl (fun W hm => rv_build (cs := [.int .i64 x0.Id, .slice A12 x0.Values.length c13]) rfl (by kernel_rfl)) ?_
 refine qo 7 6 127 rfl ?_
 let I2 : It := iOwn (tSl tInt 3) [.slice A12 x0.Values.length c13] x0.Values
 refine sb 0 [.int .i64 x0.Id, .slice A12 x0.Values.length c13] [I2, I1] (pk [1, 0, 2]) type73 ?_
 refine qn (pk [2]) ?_
 refine QB_done (by kernel_rfl) ?_
 refine QM_then (CM_ret ?_)
 refine QM_r1 rfl (RR_cell (n := 0) rfl rfl underlying73 type73 rfl) (fun W hm => ⟨[.int .i64 x0.Id, .slice A12 x0.Values.length c13], ?_, ?_⟩)
 ·first | rw [(show impl_copyRow_m x0 = x0 from by unfold impl_copyRow_m; exact rfl)] | rfl
 ·rw [(show impl_copyRow_m x0 = x0 from by unfold impl_copyRow_m; exact rfl)]; exact Mem.join (is := [I2]) (js := []) (fun _ _ hs => tyRow_join (x := x0) hs) (hm.pick [1] (by decide))
theorem impl_copyRow_eq (x0 : DRow) : impl_copyRow_m x0 = x0 := by
 rfl
theorem impl_copyRow_c2 (w : World) (z0 : List Value) (x0 : DRow) (r_0 : tyRow.rd w w.heap.size z0 x0) (s_0 : smRow 68719476736 x0) :
  Calls Tryz.prog 217 #[.agg z0.toArray] w fun e w' => ∃ v : List Value, e = .returned (.agg v.toArray) ∧ Mem w.heap.size w [iOwn tyRow v x0] w' := by
 have h := impl_copyRow_c w z0 x0 r_0 s_0
 rw [impl_copyRow_eq] at h
 exact h

def impl_copyRows_b1 (x0 : (List DRow)) (k9 : Nat) (d10 : (List DRow)) : (List DRow) ⊕ ((List DRow)) :=
 Sum.inr (d10 ++ [(gt x0 k9)])
def impl_copyRows_m (x0 : (List DRow)) : (List DRow) :=
 Sum.elim id (fun (s : (List DRow)) => s) (rng (R := (List DRow)) (fun k (s : (List DRow)) => impl_copyRows_b1 x0 k s) (x0.length - 0) 0 [])
theorem cb166 : Cb Tryz.prog 166 := ⟨f166, _, func166, rfl, by decide⟩
theorem impl_copyRows_c (w : World) (z0 : Value) (x0 : (List DRow)) (r_0 : rdS tyRow w w.heap.size z0 x0) (s_0 : (x0.length ≤ 68719476736 ∧ ∀ y ∈ x0, smRow 68719476736 y)) :
  Calls Tryz.prog 166 #[z0] w fun e w' => ∃ v : Value, e = .returned (v) ∧ Mem w.heap.size w [iOwn (tSl tyRow 73) [v] (impl_copyRows_m x0)] w' := by
 have r5 := r_0
 obtain ⟨m1, A2, c3, rfl, q4⟩ := r_0
 have l6 : x0.length ≤ 68719476736 := s_0.1
 refine ce1 (L := [(0, .slice A2 x0.length c3)]) (N := 20) func166 ?_
 refine sr (wa (nt' (sr ?_)))
 refine WM_build0 (E := tyRow) underlying35 type73 (Wd_none rfl) (by decide) (fun p7 => ?_)
 refine wa (nt' (CM_seq (sr (wm ?_))))
 refine wv (vlen underlying35) ?_
 refine wm (nt' (CM_block ?_))
 let F1 := fun k (s : (List DRow)) => impl_copyRows_b1 x0 k s
 let R2 := rng (R := (List DRow)) F1
 refine CM_loop (σ := Nat × ((List DRow)) × (Option Addr × Nat)) (fun s => [(3, .slice s.2.2.1 s.2.1.length s.2.2.2), (7, .slice A2 x0.length c3), (8, .int .i64 ((x0.length : Nat) : Int)), (9, .int .i64 ((s.1 : Nat) : Int))]) (fun s => [iOwn (tSl tyRow 73) [.slice s.2.2.1 s.2.1.length s.2.2.2] s.2.1]) (fun s => s.1 ≤ x0.length ∧ R2 (x0.length - s.1) s.1 s.2.1 = R2 (x0.length - 0) 0 [] ∧ s.2.1.length ≤ 0 + s.1) (fun s => x0.length - s.1) (0, [], ((some ⟨p7, 0, none⟩), 0)) sl4 (fun W hm => hm) ⟨(by omega), rfl, Nat.le_refl _⟩ ?_
 rintro ⟨k9, d10, ⟨A11, c12⟩⟩ H15
 obtain ⟨hk13, hF14, hi16⟩ : k9 ≤ x0.length ∧ R2 (x0.length - k9) k9 d10 = R2 (x0.length - 0) 0 [] ∧ d10.length ≤ 0 + k9 := H15
 let I5 : It := iOwn (tSl tyRow 73) [.slice A11 d10.length c12] d10
 show CM Tryz.prog 20 _ _ _ _ [(3, .slice A11 d10.length c12), (7, .slice A2 x0.length c3), (8, .int .i64 ((x0.length : Nat) : Int)), (9, .int .i64 ((k9 : Nat) : Int))] [I5]
 refine sr ?_
 refine wv vlss ?_
 refine nt' (CM_seq ?_)
 by_cases hl17 : k9 < x0.length
 ·have g18 : (decide (((k9 : Nat) : Int) < ((x0.length : Nat) : Int))) = true := decide_eq_true (by omega)
  refine CM_condT rfl g18 ?_
  refine CM_skip (QM_then (CM_seq (CM_block (sr ?_))))
  obtain ⟨a19, rfl, hb20, he21⟩ := q4 (by omega)
  refine wv (vix 2 k9 underlying35 type73) ?_
  obtain ⟨_, e25, hc22⟩ := he21 k9 _ (gt_some (show k9 < x0.length from by omega))
  obtain ⟨v23, rfl, r24⟩ := tyRow_rd e25
  have l26 : ((gt x0 k9).Values).length ≤ 68719476736 := (s_0.2 _ (gt_mem (show k9 < x0.length from by omega)))
  have r31 := r24
  obtain ⟨m27, A28, c29, rfl, q30⟩ := r24
  let K3 : List Value := [.int .i64 ((gt x0 k9).Id), .slice A28 ((gt x0 k9).Values).length c29]
  refine wv (fun W hm => rv_loadN (cs := K3) underlying73 type73 rfl rfl (hm.elCells (show (a19.add (k9 * 2)).block < w.heap.size from by rw [add_block]; exact hb20.1) hc22)) ?_
  refine WM_alloc type73 rfl (Wd_none rfl) (by decide) (fun p32 => ?_)
  refine sb 0 K3 [I5] (fun W hm => hm) type73 ?_
  refine nt' (CM_region (wm ?_))
  refine wv (fun W hm => rv_loadN (cs := K3) underlying73 type73 rfl rfl (hm.boxCells (n := 0) rfl)) ?_
  refine wcs tyRow (gt x0 k9) (cl_fn cb217 rfl) (fun W hm => impl_copyRow_c2 W _ (gt x0 k9) (tyRow_mk (x := (gt x0 k9)) (hm.rdS0 r31)) (s_0.2 _ (gt_mem (show k9 < x0.length from by omega)))) (fun z33 => ?_)
  refine tyRow_sp ?_
  rintro v34 rfl
  refine WM_form (n := 0) rfl ?_
  rintro A35 c36 rfl m37
  let K4 : List Value := [.int .i64 ((gt x0 k9).Id), .slice A35 ((gt x0 k9).Values).length c36]
  refine WM_build (cs := K4) underlying35 type73 rfl (by decide) (by decide) rfl (by kernel_rfl) (Wd_none rfl) (by decide) (fun p39 => ?_)
  refine ap1 tyRow 73 (.slice A11 d10.length c12) d10 (gt x0 k9) [iOwn (tSl tInt 3) [.slice A35 ((gt x0 k9).Values).length c36] ((gt x0 k9).Values)] [iBox p32 73 K3] K4 (pk [0, 3, 1, 2]) (fun _ _ hs => Els.single (tyRow_join (x := (gt x0 k9)) hs)) underlying35 type73 (show (d10.length + 1) * 32 ≤ 140737488355328 from by omega) (fun v40 => ?_)
  refine WM_form (n := 0) rfl ?_
  rintro A41 c42 rfl m43
  refine wa (WM_nil (QM_block_normal (QM_then (CM_region ?_))))
  refine wv (vadN k9 1 (by omega)) ?_
  refine wm (WM_nil ?_)
  have hn45 := rng_next (R := (List DRow)) (body := F1) (k := k9) (s := d10) (s' := (d10 ++ [(gt x0 k9)])) (show k9 < x0.length from by omega) (show impl_copyRows_b1 x0 k9 d10 = Sum.inr (d10 ++ [(gt x0 k9)]) from by unfold impl_copyRows_b1; exact rfl) hF14
  exact QM_round (k9 + 1, (d10 ++ [(gt x0 k9)]), (A41, c42)) sl4 (pk [0]) ⟨(by omega), hn45, (show (d10 ++ [(gt x0 k9)]).length ≤ 0 + (k9 + 1) from by first | omega | (simp only [List.length_append, List.length_cons, List.length_nil] at *; omega))⟩ (rl (by omega))
 ·have g18 : (decide (((k9 : Nat) : Int) < ((x0.length : Nat) : Int))) = false := decide_eq_false (by omega)
  refine CM_condF rfl g18 ?_
  refine CM_exit (QM_then_exit (QM_then_exit ?_))
  have hE46 : R2 (x0.length - 0) 0 [] = Sum.inr d10 := rng_end hl17 hF14
  refine QM_block_hit (QM_then (sr (wm (wa (nt' (CM_ret ?_))))))
  refine QM_r1 rfl (RR_tmp rfl) (fun W hm => ⟨.slice A11 d10.length c12, ?_, ?_⟩)
  ·first | rw [(show impl_copyRows_m x0 = d10 from by unfold impl_copyRows_m; exact fin_inr hE46 (rfl))] | rfl
  ·rw [(show impl_copyRows_m x0 = d10 from by unfold impl_copyRows_m; exact fin_inr hE46 (rfl))]; exact hm
theorem impl_copyRows_eq (x0 : (List DRow)) : impl_copyRows_m x0 = x0 := by
 unfold impl_copyRows_m; rw [rng_app (xs := x0) (b := fun k s => impl_copyRows_b1 x0 k s) (fun _ _ => rfl)]; rfl
theorem impl_copyRows_c2 (w : World) (z0 : Value) (x0 : (List DRow)) (r_0 : rdS tyRow w w.heap.size z0 x0) (s_0 : (x0.length ≤ 68719476736 ∧ ∀ y ∈ x0, smRow 68719476736 y)) :
  Calls Tryz.prog 166 #[z0] w fun e w' => ∃ v : Value, e = .returned (v) ∧ Mem w.heap.size w [iOwn (tSl tyRow 73) [v] x0] w' := by
 have h := impl_copyRows_c w z0 x0 r_0 s_0
 rw [impl_copyRows_eq] at h
 exact h

def impl_copyActive_m (x0 : DActive) : DActive :=
 x0
theorem cb174 : Cb Tryz.prog 174 := ⟨f174, _, func174, rfl, by decide⟩
theorem impl_copyActive_c (w : World) (z0 : List Value) (x0 : DActive) (r_0 : tyActive.rd w w.heap.size z0 x0) (s_0 : smActive 68719476736 x0) :
  Calls Tryz.prog 174 #[.agg z0.toArray] w fun e w' => ∃ v : List Value, e = .returned (.agg v.toArray) ∧ Mem w.heap.size w [iOwn tyActive v (impl_copyActive_m x0)] w' := by
 obtain ⟨v1, v3, v5, v7, rfl, r2, r4, r6, r8⟩ := tyActive_rd r_0
 have r13 := r2
 obtain ⟨m9, A10, c11, rfl, q12⟩ := r2
 have r18 := r4
 obtain ⟨m14, A15, c16, rfl, q17⟩ := r4
 have r23 := r6
 obtain ⟨m19, A20, c21, rfl, q22⟩ := r6
 have r28 := r8
 obtain ⟨m24, A25, c26, rfl, q27⟩ := r8
 have l29 : x0.Query.Conds.length ≤ 68719476736 := s_0.1.1
 have l30 : x0.Query.Out.length ≤ 68719476736 := s_0.1.2
 have l31 : x0.Todo.length ≤ 68719476736 := s_0.2.1
 have l32 : x0.Rows.length ≤ 68719476736 := s_0.2.2.1
 refine ce1 (L := [(0, .agg #[.int .i64 x0.Query.Id, .int .i64 x0.Query.Tenant, .slice A10 x0.Query.Conds.length c11, .slice A15 x0.Query.Out.length c16, .int .i64 x0.Time, .slice A20 x0.Todo.length c21, .int .i64 x0.Age, .int .i64 x0.Sent, .int .i64 x0.Cap, .slice A25 x0.Rows.length c26])]) (N := 16) func174 ?_
 refine sr ?_
 refine WM_box rfl (Wd_none rfl) (by decide) (fun p33 => ?_)
 refine WM_alloc type64 rfl (Wd_none rfl) (by decide) (fun p34 => ?_)
 refine nt' (CM_seq ?_)
 let K1 : List Value := [.int .i64 0, .int .i64 0, .slice none 0 0, .slice none 0 0, .int .i64 0, .slice none 0 0, .int .i64 0, .int .i64 0, .int .i64 0, .slice none 0 0]
 refine CM_cut (σ := Option Addr × Nat × Option Addr × Nat × Option Addr × Nat × Option Addr × Nat) (fun s => [(1, .pointer (some (⟨p33, 0, none⟩ : Addr))), (2, .pointer (some (⟨p34, 0, none⟩ : Addr)))]) (fun s => [iBox p33 64 [.int .i64 x0.Query.Id, .int .i64 x0.Query.Tenant, .slice s.1 x0.Query.Conds.length s.2.1, .slice s.2.2.1 x0.Query.Out.length s.2.2.2.1, .int .i64 x0.Time, .slice s.2.2.2.2.1 x0.Todo.length s.2.2.2.2.2.1, .int .i64 x0.Age, .int .i64 x0.Sent, .int .i64 x0.Cap, .slice s.2.2.2.2.2.2.1 x0.Rows.length s.2.2.2.2.2.2.2], iOwn (tSl tyRow 73) [.slice s.2.2.2.2.2.2.1 x0.Rows.length s.2.2.2.2.2.2.2] x0.Rows, iOwn (tSl tInt 3) [.slice s.2.2.2.2.1 x0.Todo.length s.2.2.2.2.2.1] x0.Todo, iOwn (tSl tyCond 201) [.slice s.1 x0.Query.Conds.length s.2.1] x0.Query.Conds, iOwn (tSl tInt 3) [.slice s.2.2.1 x0.Query.Out.length s.2.2.2.1] x0.Query.Out, iBox p34 64 K1]) (fun _ => True) ?_ ?_
 ·
  refine rb 15 (s := [iBox p34 64 K1]) (pk [0]) ?_
  refine qt 15 0 1 rfl (vf underlying64 rfl type34) ?_
  refine qt 15 3 9 rfl (vf underlying64 rfl type25) ?_
  refine qt 15 6 73 rfl (vf underlying64 rfl type35) ?_
  refine qa [1, 4, 7] ?_
  refine qc 15 75 rfl ?_ ?_
  ·
   refine wv (fun W hm => rv_loadN (cs := [.int .i64 x0.Query.Id, .int .i64 x0.Query.Tenant, .slice A10 x0.Query.Conds.length c11, .slice A15 x0.Query.Out.length c16]) underlying34 type34 rfl rfl (hm.boxPart (n := 1) rfl rfl)) ?_
   refine qn (pk [0]) ?_
   refine qa [2, 4, 7] ?_
   refine qc 15 79 rfl ?_ ?_
   ·
    refine wcs tyQuery x0.Query (cl_fn cb126 rfl) (fun W hm => impl_copyQuery_c2 W _ x0.Query (tyQuery_mk (x := x0.Query) (hm.rdS0 r13) (hm.rdS0 r18)) s_0.1) (fun z56 => ?_)
    refine tyQuery_sp ?_
    rintro ⟨v57, v58⟩ rfl
    refine WM_form (n := 0) rfl ?_
    rintro A59 c60 rfl m61
    refine WM_form (n := 1) rfl ?_
    rintro A63 c64 rfl m65
    refine qn (pk [2]) ?_
    let I3 : It := iOwn (tSl tyCond 201) [.slice A59 x0.Query.Conds.length c60] x0.Query.Conds
    let I4 : It := iOwn (tSl tInt 3) [.slice A63 x0.Query.Out.length c64] x0.Query.Out
    refine QB_strong (js := [I3, I4, iBox p34 64 K1]) (pk [2]) (pk [0, 1, 2]) ?_
    refine qa [4, 7] ?_
    refine qc 15 95 rfl ?_ ?_
    ·
     refine wv (vl 3 5 underlying25) ?_
     refine qn (pk [0, 1, 2]) ?_
     refine qa [5, 7] ?_
     refine qc 15 127 rfl ?_ ?_
     ·
      refine wcl (tSl tInt 3) x0.Todo (cl_fn cb136 rfl) (fun W hm => impl_copyInts_c2 W _ x0.Todo (hm.rdS0 r23) s_0.2.1) (fun z67 => ?_)
      refine WM_form (n := 0) rfl ?_
      rintro A68 c69 rfl m70
      refine qn (pk [1, 2, 3]) ?_
      refine qo 15 7 255 rfl ?_
      refine wv (vl 4 9 underlying35) ?_
      refine qn (pk [1, 2, 3]) ?_
      refine qt 15 9 767 rfl (vf underlying64 rfl type34) ?_
      refine qo 15 8 1023 rfl ?_
      refine wcl (tSl tyRow 73) x0.Rows (cl_fn cb166 rfl) (fun W hm => impl_copyRows_c2 W _ x0.Rows (hm.rdS0 r28) s_0.2.2) (fun z72 => ?_)
      refine WM_form (n := 0) rfl ?_
      rintro A73 c74 rfl m75
      refine qn (pk [2, 3, 4]) ?_
      refine qo 15 10 2047 rfl ?_
      let I5 : It := iOwn (tSl tyRow 73) [.slice A73 x0.Rows.length c74] x0.Rows
      let I6 : It := iOwn (tSl tInt 3) [.slice A68 x0.Todo.length c69] x0.Todo
      refine sb 0 [.int .i64 x0.Query.Id, .int .i64 x0.Query.Tenant, .slice A59 x0.Query.Conds.length c60, .slice A63 x0.Query.Out.length c64, .int .i64 x0.Time, .slice A20 x0.Todo.length c21, .int .i64 x0.Age, .int .i64 x0.Sent, .int .i64 x0.Cap, .slice A25 x0.Rows.length c26] [I5, I6, I3, I4, iBox p34 64 K1] (pk [5, 0, 1, 2, 3, 4]) type34 ?_
      refine qn (pk [3, 4, 5]) ?_
      refine qt 15 11 4095 rfl (vf underlying64 rfl type25) ?_
      refine qo 15 12 8191 rfl ?_
      refine sb 5 [.int .i64 x0.Query.Id, .int .i64 x0.Query.Tenant, .slice A59 x0.Query.Conds.length c60, .slice A63 x0.Query.Out.length c64, .int .i64 x0.Time, .slice A68 x0.Todo.length c69, .int .i64 x0.Age, .int .i64 x0.Sent, .int .i64 x0.Cap, .slice A25 x0.Rows.length c26] [I5, I6, I3, I4, iBox p34 64 K1] (fun W hm => hm) type25 ?_
      refine qn (pk [3, 4, 5]) ?_
      refine qt 15 13 16383 rfl (vf underlying64 rfl type35) ?_
      refine qo 15 14 32767 rfl ?_
      refine sb 9 [.int .i64 x0.Query.Id, .int .i64 x0.Query.Tenant, .slice A59 x0.Query.Conds.length c60, .slice A63 x0.Query.Out.length c64, .int .i64 x0.Time, .slice A68 x0.Todo.length c69, .int .i64 x0.Age, .int .i64 x0.Sent, .int .i64 x0.Cap, .slice A73 x0.Rows.length c74] [I5, I6, I3, I4, iBox p34 64 K1] (fun W hm => hm) type35 ?_
      refine qn (pk [3, 4, 5]) ?_
      refine QB_done (by kernel_rfl) ?_
      exact QM_cut_normal (A59, c60, A63, c64, A68, c69, A73, c74) sl2 (fun W hm => hm) trivial
     refine qc 15 223 rfl ?_ ?_
     ·
      refine wv (vl 3 9 underlying35) ?_
      refine qn (pk [0, 1, 2]) ?_
      refine qt 15 9 735 rfl (vf underlying64 rfl type34) ?_
      refine qo 15 5 767 rfl ?_
      refine wcl (tSl tInt 3) x0.Todo (cl_fn cb136 rfl) (fun W hm => impl_copyInts_c2 W _ x0.Todo (hm.rdS0 r23) s_0.2.1) (fun z77 => ?_)
      refine WM_form (n := 0) rfl ?_
      rintro A78 c79 rfl m80
      refine qn (pk [1, 2, 3]) ?_
      refine qo 15 8 1023 rfl ?_
      refine wcl (tSl tyRow 73) x0.Rows (cl_fn cb166 rfl) (fun W hm => impl_copyRows_c2 W _ x0.Rows (hm.rdS0 r28) s_0.2.2) (fun z82 => ?_)
      refine WM_form (n := 0) rfl ?_
      rintro A83 c84 rfl m85
      refine qn (pk [2, 3, 4]) ?_
      refine qo 15 10 2047 rfl ?_
      let I7 : It := iOwn (tSl tyRow 73) [.slice A83 x0.Rows.length c84] x0.Rows
      let I8 : It := iOwn (tSl tInt 3) [.slice A78 x0.Todo.length c79] x0.Todo
      refine sb 0 [.int .i64 x0.Query.Id, .int .i64 x0.Query.Tenant, .slice A59 x0.Query.Conds.length c60, .slice A63 x0.Query.Out.length c64, .int .i64 x0.Time, .slice A20 x0.Todo.length c21, .int .i64 x0.Age, .int .i64 x0.Sent, .int .i64 x0.Cap, .slice A25 x0.Rows.length c26] [I7, I8, I3, I4, iBox p34 64 K1] (pk [5, 0, 1, 2, 3, 4]) type34 ?_
      refine qn (pk [3, 4, 5]) ?_
      refine qt 15 11 4095 rfl (vf underlying64 rfl type25) ?_
      refine qo 15 12 8191 rfl ?_
      refine sb 5 [.int .i64 x0.Query.Id, .int .i64 x0.Query.Tenant, .slice A59 x0.Query.Conds.length c60, .slice A63 x0.Query.Out.length c64, .int .i64 x0.Time, .slice A78 x0.Todo.length c79, .int .i64 x0.Age, .int .i64 x0.Sent, .int .i64 x0.Cap, .slice A25 x0.Rows.length c26] [I7, I8, I3, I4, iBox p34 64 K1] (fun W hm => hm) type25 ?_
      refine qn (pk [3, 4, 5]) ?_
      refine qt 15 13 16383 rfl (vf underlying64 rfl type35) ?_
      refine qo 15 14 32767 rfl ?_
      refine sb 9 [.int .i64 x0.Query.Id, .int .i64 x0.Query.Tenant, .slice A59 x0.Query.Conds.length c60, .slice A63 x0.Query.Out.length c64, .int .i64 x0.Time, .slice A78 x0.Todo.length c79, .int .i64 x0.Age, .int .i64 x0.Sent, .int .i64 x0.Cap, .slice A83 x0.Rows.length c84] [I7, I8, I3, I4, iBox p34 64 K1] (fun W hm => hm) type35 ?_
      refine qn (pk [3, 4, 5]) ?_
      refine QB_done (by kernel_rfl) ?_
      exact QM_cut_normal (A59, c60, A63, c64, A78, c79, A83, c84) sl2 (fun W hm => hm) trivial
     exact QBs_nil
    refine qc 15 207 rfl ?_ ?_
    ·
     refine wv (vl 3 9 underlying35) ?_
     refine qn (pk [0, 1, 2]) ?_
     refine qo 15 4 223 rfl ?_
     refine wv (vl 3 5 underlying25) ?_
     refine qn (pk [0, 1, 2]) ?_
     refine qt 15 9 735 rfl (vf underlying64 rfl type34) ?_
     refine qo 15 5 767 rfl ?_
     refine wcl (tSl tInt 3) x0.Todo (cl_fn cb136 rfl) (fun W hm => impl_copyInts_c2 W _ x0.Todo (hm.rdS0 r23) s_0.2.1) (fun z87 => ?_)
     refine WM_form (n := 0) rfl ?_
     rintro A88 c89 rfl m90
     refine qn (pk [1, 2, 3]) ?_
     refine qo 15 8 1023 rfl ?_
     refine wcl (tSl tyRow 73) x0.Rows (cl_fn cb166 rfl) (fun W hm => impl_copyRows_c2 W _ x0.Rows (hm.rdS0 r28) s_0.2.2) (fun z92 => ?_)
     refine WM_form (n := 0) rfl ?_
     rintro A93 c94 rfl m95
     refine qn (pk [2, 3, 4]) ?_
     refine qo 15 10 2047 rfl ?_
     let I9 : It := iOwn (tSl tyRow 73) [.slice A93 x0.Rows.length c94] x0.Rows
     let I10 : It := iOwn (tSl tInt 3) [.slice A88 x0.Todo.length c89] x0.Todo
     refine sb 0 [.int .i64 x0.Query.Id, .int .i64 x0.Query.Tenant, .slice A59 x0.Query.Conds.length c60, .slice A63 x0.Query.Out.length c64, .int .i64 x0.Time, .slice A20 x0.Todo.length c21, .int .i64 x0.Age, .int .i64 x0.Sent, .int .i64 x0.Cap, .slice A25 x0.Rows.length c26] [I9, I10, I3, I4, iBox p34 64 K1] (pk [5, 0, 1, 2, 3, 4]) type34 ?_
     refine qn (pk [3, 4, 5]) ?_
     refine qt 15 11 4095 rfl (vf underlying64 rfl type25) ?_
     refine qo 15 12 8191 rfl ?_
     refine sb 5 [.int .i64 x0.Query.Id, .int .i64 x0.Query.Tenant, .slice A59 x0.Query.Conds.length c60, .slice A63 x0.Query.Out.length c64, .int .i64 x0.Time, .slice A88 x0.Todo.length c89, .int .i64 x0.Age, .int .i64 x0.Sent, .int .i64 x0.Cap, .slice A25 x0.Rows.length c26] [I9, I10, I3, I4, iBox p34 64 K1] (fun W hm => hm) type25 ?_
     refine qn (pk [3, 4, 5]) ?_
     refine qt 15 13 16383 rfl (vf underlying64 rfl type35) ?_
     refine qo 15 14 32767 rfl ?_
     refine sb 9 [.int .i64 x0.Query.Id, .int .i64 x0.Query.Tenant, .slice A59 x0.Query.Conds.length c60, .slice A63 x0.Query.Out.length c64, .int .i64 x0.Time, .slice A88 x0.Todo.length c89, .int .i64 x0.Age, .int .i64 x0.Sent, .int .i64 x0.Cap, .slice A93 x0.Rows.length c94] [I9, I10, I3, I4, iBox p34 64 K1] (fun W hm => hm) type35 ?_
     refine qn (pk [3, 4, 5]) ?_
     refine QB_done (by kernel_rfl) ?_
     exact QM_cut_normal (A59, c60, A63, c64, A88, c89, A93, c94) sl2 (fun W hm => hm) trivial
    exact QBs_nil
   refine qc 15 91 rfl ?_ ?_
   ·
    refine wv (vl 1 5 underlying25) ?_
    refine qn (pk [0]) ?_
    refine qa [2, 7] ?_
    refine qc 15 95 rfl ?_ ?_
    ·
     refine wcs tyQuery x0.Query (cl_fn cb126 rfl) (fun W hm => impl_copyQuery_c2 W _ x0.Query (tyQuery_mk (x := x0.Query) (hm.rdS0 r13) (hm.rdS0 r18)) s_0.1) (fun z97 => ?_)
     refine tyQuery_sp ?_
     rintro ⟨v98, v99⟩ rfl
     refine WM_form (n := 0) rfl ?_
     rintro A100 c101 rfl m102
     refine WM_form (n := 1) rfl ?_
     rintro A104 c105 rfl m106
     refine qn (pk [2]) ?_
     let I11 : It := iOwn (tSl tyCond 201) [.slice A100 x0.Query.Conds.length c101] x0.Query.Conds
     let I12 : It := iOwn (tSl tInt 3) [.slice A104 x0.Query.Out.length c105] x0.Query.Out
     refine QB_strong (js := [I11, I12, iBox p34 64 K1]) (pk [2]) (pk [0, 1, 2]) ?_
     refine qa [5, 7] ?_
     refine qc 15 127 rfl ?_ ?_
     ·
      refine wcl (tSl tInt 3) x0.Todo (cl_fn cb136 rfl) (fun W hm => impl_copyInts_c2 W _ x0.Todo (hm.rdS0 r23) s_0.2.1) (fun z108 => ?_)
      refine WM_form (n := 0) rfl ?_
      rintro A109 c110 rfl m111
      refine qn (pk [1, 2, 3]) ?_
      refine qo 15 7 255 rfl ?_
      refine wv (vl 4 9 underlying35) ?_
      refine qn (pk [1, 2, 3]) ?_
      refine qt 15 9 767 rfl (vf underlying64 rfl type34) ?_
      refine qo 15 8 1023 rfl ?_
      refine wcl (tSl tyRow 73) x0.Rows (cl_fn cb166 rfl) (fun W hm => impl_copyRows_c2 W _ x0.Rows (hm.rdS0 r28) s_0.2.2) (fun z113 => ?_)
      refine WM_form (n := 0) rfl ?_
      rintro A114 c115 rfl m116
      refine qn (pk [2, 3, 4]) ?_
      refine qo 15 10 2047 rfl ?_
      let I13 : It := iOwn (tSl tyRow 73) [.slice A114 x0.Rows.length c115] x0.Rows
      let I14 : It := iOwn (tSl tInt 3) [.slice A109 x0.Todo.length c110] x0.Todo
      refine sb 0 [.int .i64 x0.Query.Id, .int .i64 x0.Query.Tenant, .slice A100 x0.Query.Conds.length c101, .slice A104 x0.Query.Out.length c105, .int .i64 x0.Time, .slice A20 x0.Todo.length c21, .int .i64 x0.Age, .int .i64 x0.Sent, .int .i64 x0.Cap, .slice A25 x0.Rows.length c26] [I13, I14, I11, I12, iBox p34 64 K1] (pk [5, 0, 1, 2, 3, 4]) type34 ?_
      refine qn (pk [3, 4, 5]) ?_
      refine qt 15 11 4095 rfl (vf underlying64 rfl type25) ?_
      refine qo 15 12 8191 rfl ?_
      refine sb 5 [.int .i64 x0.Query.Id, .int .i64 x0.Query.Tenant, .slice A100 x0.Query.Conds.length c101, .slice A104 x0.Query.Out.length c105, .int .i64 x0.Time, .slice A109 x0.Todo.length c110, .int .i64 x0.Age, .int .i64 x0.Sent, .int .i64 x0.Cap, .slice A25 x0.Rows.length c26] [I13, I14, I11, I12, iBox p34 64 K1] (fun W hm => hm) type25 ?_
      refine qn (pk [3, 4, 5]) ?_
      refine qt 15 13 16383 rfl (vf underlying64 rfl type35) ?_
      refine qo 15 14 32767 rfl ?_
      refine sb 9 [.int .i64 x0.Query.Id, .int .i64 x0.Query.Tenant, .slice A100 x0.Query.Conds.length c101, .slice A104 x0.Query.Out.length c105, .int .i64 x0.Time, .slice A109 x0.Todo.length c110, .int .i64 x0.Age, .int .i64 x0.Sent, .int .i64 x0.Cap, .slice A114 x0.Rows.length c115] [I13, I14, I11, I12, iBox p34 64 K1] (fun W hm => hm) type35 ?_
      refine qn (pk [3, 4, 5]) ?_
      refine QB_done (by kernel_rfl) ?_
      exact QM_cut_normal (A100, c101, A104, c105, A109, c110, A114, c115) sl2 (fun W hm => hm) trivial
     refine qc 15 223 rfl ?_ ?_
     ·
      refine wv (vl 3 9 underlying35) ?_
      refine qn (pk [0, 1, 2]) ?_
      refine qt 15 9 735 rfl (vf underlying64 rfl type34) ?_
      refine qo 15 5 767 rfl ?_
      refine wcl (tSl tInt 3) x0.Todo (cl_fn cb136 rfl) (fun W hm => impl_copyInts_c2 W _ x0.Todo (hm.rdS0 r23) s_0.2.1) (fun z118 => ?_)
      refine WM_form (n := 0) rfl ?_
      rintro A119 c120 rfl m121
      refine qn (pk [1, 2, 3]) ?_
      refine qo 15 8 1023 rfl ?_
      refine wcl (tSl tyRow 73) x0.Rows (cl_fn cb166 rfl) (fun W hm => impl_copyRows_c2 W _ x0.Rows (hm.rdS0 r28) s_0.2.2) (fun z123 => ?_)
      refine WM_form (n := 0) rfl ?_
      rintro A124 c125 rfl m126
      refine qn (pk [2, 3, 4]) ?_
      refine qo 15 10 2047 rfl ?_
      let I15 : It := iOwn (tSl tyRow 73) [.slice A124 x0.Rows.length c125] x0.Rows
      let I16 : It := iOwn (tSl tInt 3) [.slice A119 x0.Todo.length c120] x0.Todo
      refine sb 0 [.int .i64 x0.Query.Id, .int .i64 x0.Query.Tenant, .slice A100 x0.Query.Conds.length c101, .slice A104 x0.Query.Out.length c105, .int .i64 x0.Time, .slice A20 x0.Todo.length c21, .int .i64 x0.Age, .int .i64 x0.Sent, .int .i64 x0.Cap, .slice A25 x0.Rows.length c26] [I15, I16, I11, I12, iBox p34 64 K1] (pk [5, 0, 1, 2, 3, 4]) type34 ?_
      refine qn (pk [3, 4, 5]) ?_
      refine qt 15 11 4095 rfl (vf underlying64 rfl type25) ?_
      refine qo 15 12 8191 rfl ?_
      refine sb 5 [.int .i64 x0.Query.Id, .int .i64 x0.Query.Tenant, .slice A100 x0.Query.Conds.length c101, .slice A104 x0.Query.Out.length c105, .int .i64 x0.Time, .slice A119 x0.Todo.length c120, .int .i64 x0.Age, .int .i64 x0.Sent, .int .i64 x0.Cap, .slice A25 x0.Rows.length c26] [I15, I16, I11, I12, iBox p34 64 K1] (fun W hm => hm) type25 ?_
      refine qn (pk [3, 4, 5]) ?_
      refine qt 15 13 16383 rfl (vf underlying64 rfl type35) ?_
      refine qo 15 14 32767 rfl ?_
      refine sb 9 [.int .i64 x0.Query.Id, .int .i64 x0.Query.Tenant, .slice A100 x0.Query.Conds.length c101, .slice A104 x0.Query.Out.length c105, .int .i64 x0.Time, .slice A119 x0.Todo.length c120, .int .i64 x0.Age, .int .i64 x0.Sent, .int .i64 x0.Cap, .slice A124 x0.Rows.length c125] [I15, I16, I11, I12, iBox p34 64 K1] (fun W hm => hm) type35 ?_
      refine qn (pk [3, 4, 5]) ?_
      refine QB_done (by kernel_rfl) ?_
      exact QM_cut_normal (A100, c101, A104, c105, A119, c120, A124, c125) sl2 (fun W hm => hm) trivial
     exact QBs_nil
    refine qc 15 219 rfl ?_ ?_
    ·
     refine wv (vl 1 9 underlying35) ?_
     refine qn (pk [0]) ?_
     refine qo 15 2 223 rfl ?_
     refine wcs tyQuery x0.Query (cl_fn cb126 rfl) (fun W hm => impl_copyQuery_c2 W _ x0.Query (tyQuery_mk (x := x0.Query) (hm.rdS0 r13) (hm.rdS0 r18)) s_0.1) (fun z128 => ?_)
     refine tyQuery_sp ?_
     rintro ⟨v129, v130⟩ rfl
     refine WM_form (n := 0) rfl ?_
     rintro A131 c132 rfl m133
     refine WM_form (n := 1) rfl ?_
     rintro A135 c136 rfl m137
     refine qn (pk [2]) ?_
     refine qt 15 9 735 rfl (vf underlying64 rfl type34) ?_
     refine qo 15 5 767 rfl ?_
     refine wcl (tSl tInt 3) x0.Todo (cl_fn cb136 rfl) (fun W hm => impl_copyInts_c2 W _ x0.Todo (hm.rdS0 r23) s_0.2.1) (fun z139 => ?_)
     refine WM_form (n := 0) rfl ?_
     rintro A140 c141 rfl m142
     refine qn (pk [3]) ?_
     refine qo 15 8 1023 rfl ?_
     refine wcl (tSl tyRow 73) x0.Rows (cl_fn cb166 rfl) (fun W hm => impl_copyRows_c2 W _ x0.Rows (hm.rdS0 r28) s_0.2.2) (fun z144 => ?_)
     refine WM_form (n := 0) rfl ?_
     rintro A145 c146 rfl m147
     refine qn (pk [4]) ?_
     refine qo 15 10 2047 rfl ?_
     let I17 : It := iOwn (tSl tyRow 73) [.slice A145 x0.Rows.length c146] x0.Rows
     let I18 : It := iOwn (tSl tInt 3) [.slice A140 x0.Todo.length c141] x0.Todo
     let I19 : It := iOwn (tSl tyCond 201) [.slice A131 x0.Query.Conds.length c132] x0.Query.Conds
     let I20 : It := iOwn (tSl tInt 3) [.slice A135 x0.Query.Out.length c136] x0.Query.Out
     refine sb 0 [.int .i64 x0.Query.Id, .int .i64 x0.Query.Tenant, .slice A131 x0.Query.Conds.length c132, .slice A135 x0.Query.Out.length c136, .int .i64 x0.Time, .slice A20 x0.Todo.length c21, .int .i64 x0.Age, .int .i64 x0.Sent, .int .i64 x0.Cap, .slice A25 x0.Rows.length c26] [I17, I18, I19, I20, iBox p34 64 K1] (pk [5, 0, 1, 2, 3, 4]) type34 ?_
     refine qn (pk [5]) ?_
     refine qt 15 11 4095 rfl (vf underlying64 rfl type25) ?_
     refine qo 15 12 8191 rfl ?_
     refine sb 5 [.int .i64 x0.Query.Id, .int .i64 x0.Query.Tenant, .slice A131 x0.Query.Conds.length c132, .slice A135 x0.Query.Out.length c136, .int .i64 x0.Time, .slice A140 x0.Todo.length c141, .int .i64 x0.Age, .int .i64 x0.Sent, .int .i64 x0.Cap, .slice A25 x0.Rows.length c26] [I17, I18, I19, I20, iBox p34 64 K1] (fun W hm => hm) type25 ?_
     refine qn (pk [5]) ?_
     refine qt 15 13 16383 rfl (vf underlying64 rfl type35) ?_
     refine qo 15 14 32767 rfl ?_
     refine sb 9 [.int .i64 x0.Query.Id, .int .i64 x0.Query.Tenant, .slice A131 x0.Query.Conds.length c132, .slice A135 x0.Query.Out.length c136, .int .i64 x0.Time, .slice A140 x0.Todo.length c141, .int .i64 x0.Age, .int .i64 x0.Sent, .int .i64 x0.Cap, .slice A145 x0.Rows.length c146] [I17, I18, I19, I20, iBox p34 64 K1] (fun W hm => hm) type35 ?_
     refine qn (pk [5]) ?_
     refine QB_done (by kernel_rfl) ?_
     exact QM_cut_normal (A131, c132, A135, c136, A140, c141, A145, c146) sl2 (fun W hm => hm) trivial
    exact QBs_nil
   refine qc 15 203 rfl ?_ ?_
   ·
    refine wv (vl 1 9 underlying35) ?_
    refine qn (pk [0]) ?_
    refine qa [2, 4] ?_
    refine qc 15 207 rfl ?_ ?_
    ·
     refine wcs tyQuery x0.Query (cl_fn cb126 rfl) (fun W hm => impl_copyQuery_c2 W _ x0.Query (tyQuery_mk (x := x0.Query) (hm.rdS0 r13) (hm.rdS0 r18)) s_0.1) (fun z149 => ?_)
     refine tyQuery_sp ?_
     rintro ⟨v150, v151⟩ rfl
     refine WM_form (n := 0) rfl ?_
     rintro A152 c153 rfl m154
     refine WM_form (n := 1) rfl ?_
     rintro A156 c157 rfl m158
     refine qn (pk [2]) ?_
     refine qo 15 4 223 rfl ?_
     refine wv (vl 3 5 underlying25) ?_
     refine qn (pk [2]) ?_
     refine qt 15 9 735 rfl (vf underlying64 rfl type34) ?_
     refine qo 15 5 767 rfl ?_
     refine wcl (tSl tInt 3) x0.Todo (cl_fn cb136 rfl) (fun W hm => impl_copyInts_c2 W _ x0.Todo (hm.rdS0 r23) s_0.2.1) (fun z160 => ?_)
     refine WM_form (n := 0) rfl ?_
     rintro A161 c162 rfl m163
     refine qn (pk [3]) ?_
     refine qo 15 8 1023 rfl ?_
     refine wcl (tSl tyRow 73) x0.Rows (cl_fn cb166 rfl) (fun W hm => impl_copyRows_c2 W _ x0.Rows (hm.rdS0 r28) s_0.2.2) (fun z165 => ?_)
     refine WM_form (n := 0) rfl ?_
     rintro A166 c167 rfl m168
     refine qn (pk [4]) ?_
     refine qo 15 10 2047 rfl ?_
     let I21 : It := iOwn (tSl tyRow 73) [.slice A166 x0.Rows.length c167] x0.Rows
     let I22 : It := iOwn (tSl tInt 3) [.slice A161 x0.Todo.length c162] x0.Todo
     let I23 : It := iOwn (tSl tyCond 201) [.slice A152 x0.Query.Conds.length c153] x0.Query.Conds
     let I24 : It := iOwn (tSl tInt 3) [.slice A156 x0.Query.Out.length c157] x0.Query.Out
     refine sb 0 [.int .i64 x0.Query.Id, .int .i64 x0.Query.Tenant, .slice A152 x0.Query.Conds.length c153, .slice A156 x0.Query.Out.length c157, .int .i64 x0.Time, .slice A20 x0.Todo.length c21, .int .i64 x0.Age, .int .i64 x0.Sent, .int .i64 x0.Cap, .slice A25 x0.Rows.length c26] [I21, I22, I23, I24, iBox p34 64 K1] (pk [5, 0, 1, 2, 3, 4]) type34 ?_
     refine qn (pk [5]) ?_
     refine qt 15 11 4095 rfl (vf underlying64 rfl type25) ?_
     refine qo 15 12 8191 rfl ?_
     refine sb 5 [.int .i64 x0.Query.Id, .int .i64 x0.Query.Tenant, .slice A152 x0.Query.Conds.length c153, .slice A156 x0.Query.Out.length c157, .int .i64 x0.Time, .slice A161 x0.Todo.length c162, .int .i64 x0.Age, .int .i64 x0.Sent, .int .i64 x0.Cap, .slice A25 x0.Rows.length c26] [I21, I22, I23, I24, iBox p34 64 K1] (fun W hm => hm) type25 ?_
     refine qn (pk [5]) ?_
     refine qt 15 13 16383 rfl (vf underlying64 rfl type35) ?_
     refine qo 15 14 32767 rfl ?_
     refine sb 9 [.int .i64 x0.Query.Id, .int .i64 x0.Query.Tenant, .slice A152 x0.Query.Conds.length c153, .slice A156 x0.Query.Out.length c157, .int .i64 x0.Time, .slice A161 x0.Todo.length c162, .int .i64 x0.Age, .int .i64 x0.Sent, .int .i64 x0.Cap, .slice A166 x0.Rows.length c167] [I21, I22, I23, I24, iBox p34 64 K1] (fun W hm => hm) type35 ?_
     refine qn (pk [5]) ?_
     refine QB_done (by kernel_rfl) ?_
     exact QM_cut_normal (A152, c153, A156, c157, A161, c162, A166, c167) sl2 (fun W hm => hm) trivial
    refine qc 15 219 rfl ?_ ?_
    ·
     refine wv (vl 1 5 underlying25) ?_
     refine qn (pk [0]) ?_
     refine qo 15 2 223 rfl ?_
     refine wcs tyQuery x0.Query (cl_fn cb126 rfl) (fun W hm => impl_copyQuery_c2 W _ x0.Query (tyQuery_mk (x := x0.Query) (hm.rdS0 r13) (hm.rdS0 r18)) s_0.1) (fun z170 => ?_)
     refine tyQuery_sp ?_
     rintro ⟨v171, v172⟩ rfl
     refine WM_form (n := 0) rfl ?_
     rintro A173 c174 rfl m175
     refine WM_form (n := 1) rfl ?_
     rintro A177 c178 rfl m179
     refine qn (pk [2]) ?_
     refine qt 15 9 735 rfl (vf underlying64 rfl type34) ?_
     refine qo 15 5 767 rfl ?_
     refine wcl (tSl tInt 3) x0.Todo (cl_fn cb136 rfl) (fun W hm => impl_copyInts_c2 W _ x0.Todo (hm.rdS0 r23) s_0.2.1) (fun z181 => ?_)
     refine WM_form (n := 0) rfl ?_
     rintro A182 c183 rfl m184
     refine qn (pk [3]) ?_
     refine qo 15 8 1023 rfl ?_
     refine wcl (tSl tyRow 73) x0.Rows (cl_fn cb166 rfl) (fun W hm => impl_copyRows_c2 W _ x0.Rows (hm.rdS0 r28) s_0.2.2) (fun z186 => ?_)
     refine WM_form (n := 0) rfl ?_
     rintro A187 c188 rfl m189
     refine qn (pk [4]) ?_
     refine qo 15 10 2047 rfl ?_
     let I25 : It := iOwn (tSl tyRow 73) [.slice A187 x0.Rows.length c188] x0.Rows
     let I26 : It := iOwn (tSl tInt 3) [.slice A182 x0.Todo.length c183] x0.Todo
     let I27 : It := iOwn (tSl tyCond 201) [.slice A173 x0.Query.Conds.length c174] x0.Query.Conds
     let I28 : It := iOwn (tSl tInt 3) [.slice A177 x0.Query.Out.length c178] x0.Query.Out
     refine sb 0 [.int .i64 x0.Query.Id, .int .i64 x0.Query.Tenant, .slice A173 x0.Query.Conds.length c174, .slice A177 x0.Query.Out.length c178, .int .i64 x0.Time, .slice A20 x0.Todo.length c21, .int .i64 x0.Age, .int .i64 x0.Sent, .int .i64 x0.Cap, .slice A25 x0.Rows.length c26] [I25, I26, I27, I28, iBox p34 64 K1] (pk [5, 0, 1, 2, 3, 4]) type34 ?_
     refine qn (pk [5]) ?_
     refine qt 15 11 4095 rfl (vf underlying64 rfl type25) ?_
     refine qo 15 12 8191 rfl ?_
     refine sb 5 [.int .i64 x0.Query.Id, .int .i64 x0.Query.Tenant, .slice A173 x0.Query.Conds.length c174, .slice A177 x0.Query.Out.length c178, .int .i64 x0.Time, .slice A182 x0.Todo.length c183, .int .i64 x0.Age, .int .i64 x0.Sent, .int .i64 x0.Cap, .slice A25 x0.Rows.length c26] [I25, I26, I27, I28, iBox p34 64 K1] (fun W hm => hm) type25 ?_
     refine qn (pk [5]) ?_
     refine qt 15 13 16383 rfl (vf underlying64 rfl type35) ?_
     refine qo 15 14 32767 rfl ?_
     refine sb 9 [.int .i64 x0.Query.Id, .int .i64 x0.Query.Tenant, .slice A173 x0.Query.Conds.length c174, .slice A177 x0.Query.Out.length c178, .int .i64 x0.Time, .slice A182 x0.Todo.length c183, .int .i64 x0.Age, .int .i64 x0.Sent, .int .i64 x0.Cap, .slice A187 x0.Rows.length c188] [I25, I26, I27, I28, iBox p34 64 K1] (fun W hm => hm) type35 ?_
     refine qn (pk [5]) ?_
     refine QB_done (by kernel_rfl) ?_
     exact QM_cut_normal (A173, c174, A177, c178, A182, c183, A187, c188) sl2 (fun W hm => hm) trivial
    exact QBs_nil
   exact QBs_nil
  refine qc 15 89 rfl ?_ ?_
  ·
   refine wv (vl 1 5 underlying25) ?_
   refine qn (pk [0]) ?_
   refine qa [1, 7] ?_
   refine qc 15 91 rfl ?_ ?_
   ·
    refine wv (fun W hm => rv_loadN (cs := [.int .i64 x0.Query.Id, .int .i64 x0.Query.Tenant, .slice A10 x0.Query.Conds.length c11, .slice A15 x0.Query.Out.length c16]) underlying34 type34 rfl rfl (hm.boxPart (n := 1) rfl rfl)) ?_
    refine qn (pk [0]) ?_
    refine qa [2, 7] ?_
    refine qc 15 95 rfl ?_ ?_
    ·
     refine wcs tyQuery x0.Query (cl_fn cb126 rfl) (fun W hm => impl_copyQuery_c2 W _ x0.Query (tyQuery_mk (x := x0.Query) (hm.rdS0 r13) (hm.rdS0 r18)) s_0.1) (fun z191 => ?_)
     refine tyQuery_sp ?_
     rintro ⟨v192, v193⟩ rfl
     refine WM_form (n := 0) rfl ?_
     rintro A194 c195 rfl m196
     refine WM_form (n := 1) rfl ?_
     rintro A198 c199 rfl m200
     refine qn (pk [2]) ?_
     let I29 : It := iOwn (tSl tyCond 201) [.slice A194 x0.Query.Conds.length c195] x0.Query.Conds
     let I30 : It := iOwn (tSl tInt 3) [.slice A198 x0.Query.Out.length c199] x0.Query.Out
     refine QB_strong (js := [I29, I30, iBox p34 64 K1]) (pk [2]) (pk [0, 1, 2]) ?_
     refine qa [5, 7] ?_
     refine qc 15 127 rfl ?_ ?_
     ·
      refine wcl (tSl tInt 3) x0.Todo (cl_fn cb136 rfl) (fun W hm => impl_copyInts_c2 W _ x0.Todo (hm.rdS0 r23) s_0.2.1) (fun z202 => ?_)
      refine WM_form (n := 0) rfl ?_
      rintro A203 c204 rfl m205
      refine qn (pk [1, 2, 3]) ?_
      refine qo 15 7 255 rfl ?_
      refine wv (vl 4 9 underlying35) ?_
      refine qn (pk [1, 2, 3]) ?_
      refine qt 15 9 767 rfl (vf underlying64 rfl type34) ?_
      refine qo 15 8 1023 rfl ?_
      refine wcl (tSl tyRow 73) x0.Rows (cl_fn cb166 rfl) (fun W hm => impl_copyRows_c2 W _ x0.Rows (hm.rdS0 r28) s_0.2.2) (fun z207 => ?_)
      refine WM_form (n := 0) rfl ?_
      rintro A208 c209 rfl m210
      refine qn (pk [2, 3, 4]) ?_
      refine qo 15 10 2047 rfl ?_
      let I31 : It := iOwn (tSl tyRow 73) [.slice A208 x0.Rows.length c209] x0.Rows
      let I32 : It := iOwn (tSl tInt 3) [.slice A203 x0.Todo.length c204] x0.Todo
      refine sb 0 [.int .i64 x0.Query.Id, .int .i64 x0.Query.Tenant, .slice A194 x0.Query.Conds.length c195, .slice A198 x0.Query.Out.length c199, .int .i64 x0.Time, .slice A20 x0.Todo.length c21, .int .i64 x0.Age, .int .i64 x0.Sent, .int .i64 x0.Cap, .slice A25 x0.Rows.length c26] [I31, I32, I29, I30, iBox p34 64 K1] (pk [5, 0, 1, 2, 3, 4]) type34 ?_
      refine qn (pk [3, 4, 5]) ?_
      refine qt 15 11 4095 rfl (vf underlying64 rfl type25) ?_
      refine qo 15 12 8191 rfl ?_
      refine sb 5 [.int .i64 x0.Query.Id, .int .i64 x0.Query.Tenant, .slice A194 x0.Query.Conds.length c195, .slice A198 x0.Query.Out.length c199, .int .i64 x0.Time, .slice A203 x0.Todo.length c204, .int .i64 x0.Age, .int .i64 x0.Sent, .int .i64 x0.Cap, .slice A25 x0.Rows.length c26] [I31, I32, I29, I30, iBox p34 64 K1] (fun W hm => hm) type25 ?_
      refine qn (pk [3, 4, 5]) ?_
      refine qt 15 13 16383 rfl (vf underlying64 rfl type35) ?_
      refine qo 15 14 32767 rfl ?_
      refine sb 9 [.int .i64 x0.Query.Id, .int .i64 x0.Query.Tenant, .slice A194 x0.Query.Conds.length c195, .slice A198 x0.Query.Out.length c199, .int .i64 x0.Time, .slice A203 x0.Todo.length c204, .int .i64 x0.Age, .int .i64 x0.Sent, .int .i64 x0.Cap, .slice A208 x0.Rows.length c209] [I31, I32, I29, I30, iBox p34 64 K1] (fun W hm => hm) type35 ?_
      refine qn (pk [3, 4, 5]) ?_
      refine QB_done (by kernel_rfl) ?_
      exact QM_cut_normal (A194, c195, A198, c199, A203, c204, A208, c209) sl2 (fun W hm => hm) trivial
     refine qc 15 223 rfl ?_ ?_
     ·
      refine wv (vl 3 9 underlying35) ?_
      refine qn (pk [0, 1, 2]) ?_
      refine qt 15 9 735 rfl (vf underlying64 rfl type34) ?_
      refine qo 15 5 767 rfl ?_
      refine wcl (tSl tInt 3) x0.Todo (cl_fn cb136 rfl) (fun W hm => impl_copyInts_c2 W _ x0.Todo (hm.rdS0 r23) s_0.2.1) (fun z212 => ?_)
      refine WM_form (n := 0) rfl ?_
      rintro A213 c214 rfl m215
      refine qn (pk [1, 2, 3]) ?_
      refine qo 15 8 1023 rfl ?_
      refine wcl (tSl tyRow 73) x0.Rows (cl_fn cb166 rfl) (fun W hm => impl_copyRows_c2 W _ x0.Rows (hm.rdS0 r28) s_0.2.2) (fun z217 => ?_)
      refine WM_form (n := 0) rfl ?_
      rintro A218 c219 rfl m220
      refine qn (pk [2, 3, 4]) ?_
      refine qo 15 10 2047 rfl ?_
      let I33 : It := iOwn (tSl tyRow 73) [.slice A218 x0.Rows.length c219] x0.Rows
      let I34 : It := iOwn (tSl tInt 3) [.slice A213 x0.Todo.length c214] x0.Todo
      refine sb 0 [.int .i64 x0.Query.Id, .int .i64 x0.Query.Tenant, .slice A194 x0.Query.Conds.length c195, .slice A198 x0.Query.Out.length c199, .int .i64 x0.Time, .slice A20 x0.Todo.length c21, .int .i64 x0.Age, .int .i64 x0.Sent, .int .i64 x0.Cap, .slice A25 x0.Rows.length c26] [I33, I34, I29, I30, iBox p34 64 K1] (pk [5, 0, 1, 2, 3, 4]) type34 ?_
      refine qn (pk [3, 4, 5]) ?_
      refine qt 15 11 4095 rfl (vf underlying64 rfl type25) ?_
      refine qo 15 12 8191 rfl ?_
      refine sb 5 [.int .i64 x0.Query.Id, .int .i64 x0.Query.Tenant, .slice A194 x0.Query.Conds.length c195, .slice A198 x0.Query.Out.length c199, .int .i64 x0.Time, .slice A213 x0.Todo.length c214, .int .i64 x0.Age, .int .i64 x0.Sent, .int .i64 x0.Cap, .slice A25 x0.Rows.length c26] [I33, I34, I29, I30, iBox p34 64 K1] (fun W hm => hm) type25 ?_
      refine qn (pk [3, 4, 5]) ?_
      refine qt 15 13 16383 rfl (vf underlying64 rfl type35) ?_
      refine qo 15 14 32767 rfl ?_
      refine sb 9 [.int .i64 x0.Query.Id, .int .i64 x0.Query.Tenant, .slice A194 x0.Query.Conds.length c195, .slice A198 x0.Query.Out.length c199, .int .i64 x0.Time, .slice A213 x0.Todo.length c214, .int .i64 x0.Age, .int .i64 x0.Sent, .int .i64 x0.Cap, .slice A218 x0.Rows.length c219] [I33, I34, I29, I30, iBox p34 64 K1] (fun W hm => hm) type35 ?_
      refine qn (pk [3, 4, 5]) ?_
      refine QB_done (by kernel_rfl) ?_
      exact QM_cut_normal (A194, c195, A198, c199, A213, c214, A218, c219) sl2 (fun W hm => hm) trivial
     exact QBs_nil
    refine qc 15 219 rfl ?_ ?_
    ·
     refine wv (vl 1 9 underlying35) ?_
     refine qn (pk [0]) ?_
     refine qo 15 2 223 rfl ?_
     refine wcs tyQuery x0.Query (cl_fn cb126 rfl) (fun W hm => impl_copyQuery_c2 W _ x0.Query (tyQuery_mk (x := x0.Query) (hm.rdS0 r13) (hm.rdS0 r18)) s_0.1) (fun z222 => ?_)
     refine tyQuery_sp ?_
     rintro ⟨v223, v224⟩ rfl
     refine WM_form (n := 0) rfl ?_
     rintro A225 c226 rfl m227
     refine WM_form (n := 1) rfl ?_
     rintro A229 c230 rfl m231
     refine qn (pk [2]) ?_
     refine qt 15 9 735 rfl (vf underlying64 rfl type34) ?_
     refine qo 15 5 767 rfl ?_
     refine wcl (tSl tInt 3) x0.Todo (cl_fn cb136 rfl) (fun W hm => impl_copyInts_c2 W _ x0.Todo (hm.rdS0 r23) s_0.2.1) (fun z233 => ?_)
     refine WM_form (n := 0) rfl ?_
     rintro A234 c235 rfl m236
     refine qn (pk [3]) ?_
     refine qo 15 8 1023 rfl ?_
     refine wcl (tSl tyRow 73) x0.Rows (cl_fn cb166 rfl) (fun W hm => impl_copyRows_c2 W _ x0.Rows (hm.rdS0 r28) s_0.2.2) (fun z238 => ?_)
     refine WM_form (n := 0) rfl ?_
     rintro A239 c240 rfl m241
     refine qn (pk [4]) ?_
     refine qo 15 10 2047 rfl ?_
     let I35 : It := iOwn (tSl tyRow 73) [.slice A239 x0.Rows.length c240] x0.Rows
     let I36 : It := iOwn (tSl tInt 3) [.slice A234 x0.Todo.length c235] x0.Todo
     let I37 : It := iOwn (tSl tyCond 201) [.slice A225 x0.Query.Conds.length c226] x0.Query.Conds
     let I38 : It := iOwn (tSl tInt 3) [.slice A229 x0.Query.Out.length c230] x0.Query.Out
     refine sb 0 [.int .i64 x0.Query.Id, .int .i64 x0.Query.Tenant, .slice A225 x0.Query.Conds.length c226, .slice A229 x0.Query.Out.length c230, .int .i64 x0.Time, .slice A20 x0.Todo.length c21, .int .i64 x0.Age, .int .i64 x0.Sent, .int .i64 x0.Cap, .slice A25 x0.Rows.length c26] [I35, I36, I37, I38, iBox p34 64 K1] (pk [5, 0, 1, 2, 3, 4]) type34 ?_
     refine qn (pk [5]) ?_
     refine qt 15 11 4095 rfl (vf underlying64 rfl type25) ?_
     refine qo 15 12 8191 rfl ?_
     refine sb 5 [.int .i64 x0.Query.Id, .int .i64 x0.Query.Tenant, .slice A225 x0.Query.Conds.length c226, .slice A229 x0.Query.Out.length c230, .int .i64 x0.Time, .slice A234 x0.Todo.length c235, .int .i64 x0.Age, .int .i64 x0.Sent, .int .i64 x0.Cap, .slice A25 x0.Rows.length c26] [I35, I36, I37, I38, iBox p34 64 K1] (fun W hm => hm) type25 ?_
     refine qn (pk [5]) ?_
     refine qt 15 13 16383 rfl (vf underlying64 rfl type35) ?_
     refine qo 15 14 32767 rfl ?_
     refine sb 9 [.int .i64 x0.Query.Id, .int .i64 x0.Query.Tenant, .slice A225 x0.Query.Conds.length c226, .slice A229 x0.Query.Out.length c230, .int .i64 x0.Time, .slice A234 x0.Todo.length c235, .int .i64 x0.Age, .int .i64 x0.Sent, .int .i64 x0.Cap, .slice A239 x0.Rows.length c240] [I35, I36, I37, I38, iBox p34 64 K1] (fun W hm => hm) type35 ?_
     refine qn (pk [5]) ?_
     refine QB_done (by kernel_rfl) ?_
     exact QM_cut_normal (A225, c226, A229, c230, A234, c235, A239, c240) sl2 (fun W hm => hm) trivial
    exact QBs_nil
   refine qc 15 217 rfl ?_ ?_
   ·
    refine wv (vl 1 9 underlying35) ?_
    refine qn (pk [0]) ?_
    refine qo 15 1 219 rfl ?_
    refine wv (fun W hm => rv_loadN (cs := [.int .i64 x0.Query.Id, .int .i64 x0.Query.Tenant, .slice A10 x0.Query.Conds.length c11, .slice A15 x0.Query.Out.length c16]) underlying34 type34 rfl rfl (hm.boxPart (n := 1) rfl rfl)) ?_
    refine qn (pk [0]) ?_
    refine qo 15 2 223 rfl ?_
    refine wcs tyQuery x0.Query (cl_fn cb126 rfl) (fun W hm => impl_copyQuery_c2 W _ x0.Query (tyQuery_mk (x := x0.Query) (hm.rdS0 r13) (hm.rdS0 r18)) s_0.1) (fun z243 => ?_)
    refine tyQuery_sp ?_
    rintro ⟨v244, v245⟩ rfl
    refine WM_form (n := 0) rfl ?_
    rintro A246 c247 rfl m248
    refine WM_form (n := 1) rfl ?_
    rintro A250 c251 rfl m252
    refine qn (pk [2]) ?_
    refine qt 15 9 735 rfl (vf underlying64 rfl type34) ?_
    refine qo 15 5 767 rfl ?_
    refine wcl (tSl tInt 3) x0.Todo (cl_fn cb136 rfl) (fun W hm => impl_copyInts_c2 W _ x0.Todo (hm.rdS0 r23) s_0.2.1) (fun z254 => ?_)
    refine WM_form (n := 0) rfl ?_
    rintro A255 c256 rfl m257
    refine qn (pk [3]) ?_
    refine qo 15 8 1023 rfl ?_
    refine wcl (tSl tyRow 73) x0.Rows (cl_fn cb166 rfl) (fun W hm => impl_copyRows_c2 W _ x0.Rows (hm.rdS0 r28) s_0.2.2) (fun z259 => ?_)
    refine WM_form (n := 0) rfl ?_
    rintro A260 c261 rfl m262
    refine qn (pk [4]) ?_
    refine qo 15 10 2047 rfl ?_
    let I39 : It := iOwn (tSl tyRow 73) [.slice A260 x0.Rows.length c261] x0.Rows
    let I40 : It := iOwn (tSl tInt 3) [.slice A255 x0.Todo.length c256] x0.Todo
    let I41 : It := iOwn (tSl tyCond 201) [.slice A246 x0.Query.Conds.length c247] x0.Query.Conds
    let I42 : It := iOwn (tSl tInt 3) [.slice A250 x0.Query.Out.length c251] x0.Query.Out
    refine sb 0 [.int .i64 x0.Query.Id, .int .i64 x0.Query.Tenant, .slice A246 x0.Query.Conds.length c247, .slice A250 x0.Query.Out.length c251, .int .i64 x0.Time, .slice A20 x0.Todo.length c21, .int .i64 x0.Age, .int .i64 x0.Sent, .int .i64 x0.Cap, .slice A25 x0.Rows.length c26] [I39, I40, I41, I42, iBox p34 64 K1] (pk [5, 0, 1, 2, 3, 4]) type34 ?_
    refine qn (pk [5]) ?_
    refine qt 15 11 4095 rfl (vf underlying64 rfl type25) ?_
    refine qo 15 12 8191 rfl ?_
    refine sb 5 [.int .i64 x0.Query.Id, .int .i64 x0.Query.Tenant, .slice A246 x0.Query.Conds.length c247, .slice A250 x0.Query.Out.length c251, .int .i64 x0.Time, .slice A255 x0.Todo.length c256, .int .i64 x0.Age, .int .i64 x0.Sent, .int .i64 x0.Cap, .slice A25 x0.Rows.length c26] [I39, I40, I41, I42, iBox p34 64 K1] (fun W hm => hm) type25 ?_
    refine qn (pk [5]) ?_
    refine qt 15 13 16383 rfl (vf underlying64 rfl type35) ?_
    refine qo 15 14 32767 rfl ?_
    refine sb 9 [.int .i64 x0.Query.Id, .int .i64 x0.Query.Tenant, .slice A246 x0.Query.Conds.length c247, .slice A250 x0.Query.Out.length c251, .int .i64 x0.Time, .slice A255 x0.Todo.length c256, .int .i64 x0.Age, .int .i64 x0.Sent, .int .i64 x0.Cap, .slice A260 x0.Rows.length c261] [I39, I40, I41, I42, iBox p34 64 K1] (fun W hm => hm) type35 ?_
    refine qn (pk [5]) ?_
    refine QB_done (by kernel_rfl) ?_
    exact QM_cut_normal (A246, c247, A250, c251, A255, c256, A260, c261) sl2 (fun W hm => hm) trivial
   exact QBs_nil
  refine qc 15 201 rfl ?_ ?_
  ·
   refine wv (vl 1 9 underlying35) ?_
   refine qn (pk [0]) ?_
   refine qa [1, 4] ?_
   refine qc 15 203 rfl ?_ ?_
   ·
    refine wv (fun W hm => rv_loadN (cs := [.int .i64 x0.Query.Id, .int .i64 x0.Query.Tenant, .slice A10 x0.Query.Conds.length c11, .slice A15 x0.Query.Out.length c16]) underlying34 type34 rfl rfl (hm.boxPart (n := 1) rfl rfl)) ?_
    refine qn (pk [0]) ?_
    refine qa [2, 4] ?_
    refine qc 15 207 rfl ?_ ?_
    ·
     refine wcs tyQuery x0.Query (cl_fn cb126 rfl) (fun W hm => impl_copyQuery_c2 W _ x0.Query (tyQuery_mk (x := x0.Query) (hm.rdS0 r13) (hm.rdS0 r18)) s_0.1) (fun z264 => ?_)
     refine tyQuery_sp ?_
     rintro ⟨v265, v266⟩ rfl
     refine WM_form (n := 0) rfl ?_
     rintro A267 c268 rfl m269
     refine WM_form (n := 1) rfl ?_
     rintro A271 c272 rfl m273
     refine qn (pk [2]) ?_
     refine qo 15 4 223 rfl ?_
     refine wv (vl 3 5 underlying25) ?_
     refine qn (pk [2]) ?_
     refine qt 15 9 735 rfl (vf underlying64 rfl type34) ?_
     refine qo 15 5 767 rfl ?_
     refine wcl (tSl tInt 3) x0.Todo (cl_fn cb136 rfl) (fun W hm => impl_copyInts_c2 W _ x0.Todo (hm.rdS0 r23) s_0.2.1) (fun z275 => ?_)
     refine WM_form (n := 0) rfl ?_
     rintro A276 c277 rfl m278
     refine qn (pk [3]) ?_
     refine qo 15 8 1023 rfl ?_
     refine wcl (tSl tyRow 73) x0.Rows (cl_fn cb166 rfl) (fun W hm => impl_copyRows_c2 W _ x0.Rows (hm.rdS0 r28) s_0.2.2) (fun z280 => ?_)
     refine WM_form (n := 0) rfl ?_
     rintro A281 c282 rfl m283
     refine qn (pk [4]) ?_
     refine qo 15 10 2047 rfl ?_
     let I43 : It := iOwn (tSl tyRow 73) [.slice A281 x0.Rows.length c282] x0.Rows
     let I44 : It := iOwn (tSl tInt 3) [.slice A276 x0.Todo.length c277] x0.Todo
     let I45 : It := iOwn (tSl tyCond 201) [.slice A267 x0.Query.Conds.length c268] x0.Query.Conds
     let I46 : It := iOwn (tSl tInt 3) [.slice A271 x0.Query.Out.length c272] x0.Query.Out
     refine sb 0 [.int .i64 x0.Query.Id, .int .i64 x0.Query.Tenant, .slice A267 x0.Query.Conds.length c268, .slice A271 x0.Query.Out.length c272, .int .i64 x0.Time, .slice A20 x0.Todo.length c21, .int .i64 x0.Age, .int .i64 x0.Sent, .int .i64 x0.Cap, .slice A25 x0.Rows.length c26] [I43, I44, I45, I46, iBox p34 64 K1] (pk [5, 0, 1, 2, 3, 4]) type34 ?_
     refine qn (pk [5]) ?_
     refine qt 15 11 4095 rfl (vf underlying64 rfl type25) ?_
     refine qo 15 12 8191 rfl ?_
     refine sb 5 [.int .i64 x0.Query.Id, .int .i64 x0.Query.Tenant, .slice A267 x0.Query.Conds.length c268, .slice A271 x0.Query.Out.length c272, .int .i64 x0.Time, .slice A276 x0.Todo.length c277, .int .i64 x0.Age, .int .i64 x0.Sent, .int .i64 x0.Cap, .slice A25 x0.Rows.length c26] [I43, I44, I45, I46, iBox p34 64 K1] (fun W hm => hm) type25 ?_
     refine qn (pk [5]) ?_
     refine qt 15 13 16383 rfl (vf underlying64 rfl type35) ?_
     refine qo 15 14 32767 rfl ?_
     refine sb 9 [.int .i64 x0.Query.Id, .int .i64 x0.Query.Tenant, .slice A267 x0.Query.Conds.length c268, .slice A271 x0.Query.Out.length c272, .int .i64 x0.Time, .slice A276 x0.Todo.length c277, .int .i64 x0.Age, .int .i64 x0.Sent, .int .i64 x0.Cap, .slice A281 x0.Rows.length c282] [I43, I44, I45, I46, iBox p34 64 K1] (fun W hm => hm) type35 ?_
     refine qn (pk [5]) ?_
     refine QB_done (by kernel_rfl) ?_
     exact QM_cut_normal (A267, c268, A271, c272, A276, c277, A281, c282) sl2 (fun W hm => hm) trivial
    refine qc 15 219 rfl ?_ ?_
    ·
     refine wv (vl 1 5 underlying25) ?_
     refine qn (pk [0]) ?_
     refine qo 15 2 223 rfl ?_
     refine wcs tyQuery x0.Query (cl_fn cb126 rfl) (fun W hm => impl_copyQuery_c2 W _ x0.Query (tyQuery_mk (x := x0.Query) (hm.rdS0 r13) (hm.rdS0 r18)) s_0.1) (fun z285 => ?_)
     refine tyQuery_sp ?_
     rintro ⟨v286, v287⟩ rfl
     refine WM_form (n := 0) rfl ?_
     rintro A288 c289 rfl m290
     refine WM_form (n := 1) rfl ?_
     rintro A292 c293 rfl m294
     refine qn (pk [2]) ?_
     refine qt 15 9 735 rfl (vf underlying64 rfl type34) ?_
     refine qo 15 5 767 rfl ?_
     refine wcl (tSl tInt 3) x0.Todo (cl_fn cb136 rfl) (fun W hm => impl_copyInts_c2 W _ x0.Todo (hm.rdS0 r23) s_0.2.1) (fun z296 => ?_)
     refine WM_form (n := 0) rfl ?_
     rintro A297 c298 rfl m299
     refine qn (pk [3]) ?_
     refine qo 15 8 1023 rfl ?_
     refine wcl (tSl tyRow 73) x0.Rows (cl_fn cb166 rfl) (fun W hm => impl_copyRows_c2 W _ x0.Rows (hm.rdS0 r28) s_0.2.2) (fun z301 => ?_)
     refine WM_form (n := 0) rfl ?_
     rintro A302 c303 rfl m304
     refine qn (pk [4]) ?_
     refine qo 15 10 2047 rfl ?_
     let I47 : It := iOwn (tSl tyRow 73) [.slice A302 x0.Rows.length c303] x0.Rows
     let I48 : It := iOwn (tSl tInt 3) [.slice A297 x0.Todo.length c298] x0.Todo
     let I49 : It := iOwn (tSl tyCond 201) [.slice A288 x0.Query.Conds.length c289] x0.Query.Conds
     let I50 : It := iOwn (tSl tInt 3) [.slice A292 x0.Query.Out.length c293] x0.Query.Out
     refine sb 0 [.int .i64 x0.Query.Id, .int .i64 x0.Query.Tenant, .slice A288 x0.Query.Conds.length c289, .slice A292 x0.Query.Out.length c293, .int .i64 x0.Time, .slice A20 x0.Todo.length c21, .int .i64 x0.Age, .int .i64 x0.Sent, .int .i64 x0.Cap, .slice A25 x0.Rows.length c26] [I47, I48, I49, I50, iBox p34 64 K1] (pk [5, 0, 1, 2, 3, 4]) type34 ?_
     refine qn (pk [5]) ?_
     refine qt 15 11 4095 rfl (vf underlying64 rfl type25) ?_
     refine qo 15 12 8191 rfl ?_
     refine sb 5 [.int .i64 x0.Query.Id, .int .i64 x0.Query.Tenant, .slice A288 x0.Query.Conds.length c289, .slice A292 x0.Query.Out.length c293, .int .i64 x0.Time, .slice A297 x0.Todo.length c298, .int .i64 x0.Age, .int .i64 x0.Sent, .int .i64 x0.Cap, .slice A25 x0.Rows.length c26] [I47, I48, I49, I50, iBox p34 64 K1] (fun W hm => hm) type25 ?_
     refine qn (pk [5]) ?_
     refine qt 15 13 16383 rfl (vf underlying64 rfl type35) ?_
     refine qo 15 14 32767 rfl ?_
     refine sb 9 [.int .i64 x0.Query.Id, .int .i64 x0.Query.Tenant, .slice A288 x0.Query.Conds.length c289, .slice A292 x0.Query.Out.length c293, .int .i64 x0.Time, .slice A297 x0.Todo.length c298, .int .i64 x0.Age, .int .i64 x0.Sent, .int .i64 x0.Cap, .slice A302 x0.Rows.length c303] [I47, I48, I49, I50, iBox p34 64 K1] (fun W hm => hm) type35 ?_
     refine qn (pk [5]) ?_
     refine QB_done (by kernel_rfl) ?_
     exact QM_cut_normal (A288, c289, A292, c293, A297, c298, A302, c303) sl2 (fun W hm => hm) trivial
    exact QBs_nil
   refine qc 15 217 rfl ?_ ?_
   ·
    refine wv (vl 1 5 underlying25) ?_
    refine qn (pk [0]) ?_
    refine qo 15 1 219 rfl ?_
    refine wv (fun W hm => rv_loadN (cs := [.int .i64 x0.Query.Id, .int .i64 x0.Query.Tenant, .slice A10 x0.Query.Conds.length c11, .slice A15 x0.Query.Out.length c16]) underlying34 type34 rfl rfl (hm.boxPart (n := 1) rfl rfl)) ?_
    refine qn (pk [0]) ?_
    refine qo 15 2 223 rfl ?_
    refine wcs tyQuery x0.Query (cl_fn cb126 rfl) (fun W hm => impl_copyQuery_c2 W _ x0.Query (tyQuery_mk (x := x0.Query) (hm.rdS0 r13) (hm.rdS0 r18)) s_0.1) (fun z306 => ?_)
    refine tyQuery_sp ?_
    rintro ⟨v307, v308⟩ rfl
    refine WM_form (n := 0) rfl ?_
    rintro A309 c310 rfl m311
    refine WM_form (n := 1) rfl ?_
    rintro A313 c314 rfl m315
    refine qn (pk [2]) ?_
    refine qt 15 9 735 rfl (vf underlying64 rfl type34) ?_
    refine qo 15 5 767 rfl ?_
    refine wcl (tSl tInt 3) x0.Todo (cl_fn cb136 rfl) (fun W hm => impl_copyInts_c2 W _ x0.Todo (hm.rdS0 r23) s_0.2.1) (fun z317 => ?_)
    refine WM_form (n := 0) rfl ?_
    rintro A318 c319 rfl m320
    refine qn (pk [3]) ?_
    refine qo 15 8 1023 rfl ?_
    refine wcl (tSl tyRow 73) x0.Rows (cl_fn cb166 rfl) (fun W hm => impl_copyRows_c2 W _ x0.Rows (hm.rdS0 r28) s_0.2.2) (fun z322 => ?_)
    refine WM_form (n := 0) rfl ?_
    rintro A323 c324 rfl m325
    refine qn (pk [4]) ?_
    refine qo 15 10 2047 rfl ?_
    let I51 : It := iOwn (tSl tyRow 73) [.slice A323 x0.Rows.length c324] x0.Rows
    let I52 : It := iOwn (tSl tInt 3) [.slice A318 x0.Todo.length c319] x0.Todo
    let I53 : It := iOwn (tSl tyCond 201) [.slice A309 x0.Query.Conds.length c310] x0.Query.Conds
    let I54 : It := iOwn (tSl tInt 3) [.slice A313 x0.Query.Out.length c314] x0.Query.Out
    refine sb 0 [.int .i64 x0.Query.Id, .int .i64 x0.Query.Tenant, .slice A309 x0.Query.Conds.length c310, .slice A313 x0.Query.Out.length c314, .int .i64 x0.Time, .slice A20 x0.Todo.length c21, .int .i64 x0.Age, .int .i64 x0.Sent, .int .i64 x0.Cap, .slice A25 x0.Rows.length c26] [I51, I52, I53, I54, iBox p34 64 K1] (pk [5, 0, 1, 2, 3, 4]) type34 ?_
    refine qn (pk [5]) ?_
    refine qt 15 11 4095 rfl (vf underlying64 rfl type25) ?_
    refine qo 15 12 8191 rfl ?_
    refine sb 5 [.int .i64 x0.Query.Id, .int .i64 x0.Query.Tenant, .slice A309 x0.Query.Conds.length c310, .slice A313 x0.Query.Out.length c314, .int .i64 x0.Time, .slice A318 x0.Todo.length c319, .int .i64 x0.Age, .int .i64 x0.Sent, .int .i64 x0.Cap, .slice A25 x0.Rows.length c26] [I51, I52, I53, I54, iBox p34 64 K1] (fun W hm => hm) type25 ?_
    refine qn (pk [5]) ?_
    refine qt 15 13 16383 rfl (vf underlying64 rfl type35) ?_
    refine qo 15 14 32767 rfl ?_
    refine sb 9 [.int .i64 x0.Query.Id, .int .i64 x0.Query.Tenant, .slice A309 x0.Query.Conds.length c310, .slice A313 x0.Query.Out.length c314, .int .i64 x0.Time, .slice A318 x0.Todo.length c319, .int .i64 x0.Age, .int .i64 x0.Sent, .int .i64 x0.Cap, .slice A323 x0.Rows.length c324] [I51, I52, I53, I54, iBox p34 64 K1] (fun W hm => hm) type35 ?_
    refine qn (pk [5]) ?_
    refine QB_done (by kernel_rfl) ?_
    exact QM_cut_normal (A309, c310, A313, c314, A318, c319, A323, c324) sl2 (fun W hm => hm) trivial
   exact QBs_nil
  exact QBs_nil
 ·
  rintro ⟨A38, c39, A42, c43, A47, c48, A52, c53⟩ -
  let K2 : List Value := [.int .i64 x0.Query.Id, .int .i64 x0.Query.Tenant, .slice A38 x0.Query.Conds.length c39, .slice A42 x0.Query.Out.length c43, .int .i64 x0.Time, .slice A47 x0.Todo.length c48, .int .i64 x0.Age, .int .i64 x0.Sent, .int .i64 x0.Cap, .slice A52 x0.Rows.length c53]
  let I55 : It := iOwn (tSl tyRow 73) [.slice A52 x0.Rows.length c53] x0.Rows
  let I56 : It := iOwn (tSl tInt 3) [.slice A47 x0.Todo.length c48] x0.Todo
  let I57 : It := iOwn (tSl tyCond 201) [.slice A38 x0.Query.Conds.length c39] x0.Query.Conds
  let I58 : It := iOwn (tSl tInt 3) [.slice A42 x0.Query.Out.length c43] x0.Query.Out
  show QM 16 _ _ _ .normal [(1, .pointer (some (⟨p33, 0, none⟩ : Addr))), (2, .pointer (some (⟨p34, 0, none⟩ : Addr)))] [iBox p33 64 K2, I55, I56, I57, I58, iBox p34 64 K1]
  refine QM_len (n := 1) rfl ?_
  intro m327 m328
  refine QM_len (n := 2) rfl ?_
  intro m329 m330
  refine QM_len (n := 3) rfl ?_
  intro m331 m332
  refine QM_len (n := 4) rfl ?_
  intro m333 m334
  refine QM_then (sr ?_)
  refine wv (fun W hm => rv_loadN (cs := K2) underlying64 type64 rfl rfl (hm.boxCells (n := 0) rfl)) ?_
  refine sb 0 K2 [iBox p33 64 K2, I55, I56, I57, I58] (pk [5, 0, 1, 2, 3, 4]) type64 ?_
  refine nt' (CM_ret ?_)
  refine QM_r1 rfl (RR_cell (n := 0) rfl rfl underlying64 type64 rfl) (fun W hm => ⟨K2, ?_, ?_⟩)
  ·first | rw [(show impl_copyActive_m x0 = x0 from by unfold impl_copyActive_m; exact rfl)] | rfl
  ·rw [(show impl_copyActive_m x0 = x0 from by unfold impl_copyActive_m; exact rfl)]; exact Mem.join (is := [I57, I58, I56, I55]) (js := []) (fun _ _ hs => tyActive_join (x := x0) hs) (hm.pick [4, 5, 3, 2] (by decide))
theorem impl_copyActive_eq (x0 : DActive) : impl_copyActive_m x0 = x0 := by
 rfl
theorem impl_copyActive_c2 (w : World) (z0 : List Value) (x0 : DActive) (r_0 : tyActive.rd w w.heap.size z0 x0) (s_0 : smActive 68719476736 x0) :
  Calls Tryz.prog 174 #[.agg z0.toArray] w fun e w' => ∃ v : List Value, e = .returned (.agg v.toArray) ∧ Mem w.heap.size w [iOwn tyActive v x0] w' := by
 have h := impl_copyActive_c w z0 x0 r_0 s_0
 rw [impl_copyActive_eq] at h
 exact h

def impl_copyFinished_m (x0 : DFinished) : DFinished :=
 x0
theorem cb86 : Cb Tryz.prog 86 := ⟨f86, _, func86, rfl, by decide⟩
theorem impl_copyFinished_c (w : World) (z0 : List Value) (x0 : DFinished) (r_0 : tyFinished.rd w w.heap.size z0 x0) (s_0 : smFinished 68719476736 x0) :
  Calls Tryz.prog 86 #[.agg z0.toArray] w fun e w' => ∃ v : List Value, e = .returned (.agg v.toArray) ∧ Mem w.heap.size w [iOwn tyFinished v (impl_copyFinished_m x0)] w' := by
 obtain ⟨v1, v3, v5, rfl, r2, r4, r6⟩ := tyFinished_rd r_0
 have r11 := r2
 obtain ⟨m7, A8, c9, rfl, q10⟩ := r2
 have r16 := r4
 obtain ⟨m12, A13, c14, rfl, q15⟩ := r4
 have r21 := r6
 obtain ⟨m17, A18, c19, rfl, q20⟩ := r6
 have l22 : x0.Query.Conds.length ≤ 68719476736 := s_0.1.1
 have l23 : x0.Query.Out.length ≤ 68719476736 := s_0.1.2
 have l24 : x0.Rows.length ≤ 68719476736 := s_0.2.1
 refine ce1 (L := [(0, .agg #[.int .i64 x0.Query.Id, .int .i64 x0.Query.Tenant, .slice A8 x0.Query.Conds.length c9, .slice A13 x0.Query.Out.length c14, .int .i64 x0.Time, .int .i64 x0.Steps, .slice A18 x0.Rows.length c19])]) (N := 12) func86 ?_
 refine sr ?_
 refine WM_box rfl (Wd_none rfl) (by decide) (fun p25 => ?_)
 refine WM_alloc type37 rfl (Wd_none rfl) (by decide) (fun p26 => ?_)
 refine nt' (CM_seq ?_)
 let K1 : List Value := [.int .i64 0, .int .i64 0, .slice none 0 0, .slice none 0 0, .int .i64 0, .int .i64 0, .slice none 0 0]
 refine CM_cut (σ := Option Addr × Nat × Option Addr × Nat × Option Addr × Nat) (fun s => [(1, .pointer (some (⟨p25, 0, none⟩ : Addr))), (2, .pointer (some (⟨p26, 0, none⟩ : Addr)))]) (fun s => [iBox p25 37 [.int .i64 x0.Query.Id, .int .i64 x0.Query.Tenant, .slice s.1 x0.Query.Conds.length s.2.1, .slice s.2.2.1 x0.Query.Out.length s.2.2.2.1, .int .i64 x0.Time, .int .i64 x0.Steps, .slice s.2.2.2.2.1 x0.Rows.length s.2.2.2.2.2], iOwn (tSl tyRow 73) [.slice s.2.2.2.2.1 x0.Rows.length s.2.2.2.2.2] x0.Rows, iOwn (tSl tyCond 201) [.slice s.1 x0.Query.Conds.length s.2.1] x0.Query.Conds, iOwn (tSl tInt 3) [.slice s.2.2.1 x0.Query.Out.length s.2.2.2.1] x0.Query.Out, iBox p26 37 K1]) (fun _ => True) ?_ ?_
 ·
  refine rb 10 (s := [iBox p26 37 K1]) (pk [0]) ?_
  refine qt 10 0 1 rfl (vf underlying37 rfl type34) ?_
  refine qt 10 3 9 rfl (vf underlying37 rfl type35) ?_
  refine qa [1, 4] ?_
  refine qc 10 11 rfl ?_ ?_
  ·
   refine wv (fun W hm => rv_loadN (cs := [.int .i64 x0.Query.Id, .int .i64 x0.Query.Tenant, .slice A8 x0.Query.Conds.length c9, .slice A13 x0.Query.Out.length c14]) underlying34 type34 rfl rfl (hm.boxPart (n := 1) rfl rfl)) ?_
   refine qn (pk [0]) ?_
   refine qa [2, 4] ?_
   refine qc 10 15 rfl ?_ ?_
   ·
    refine wcs tyQuery x0.Query (cl_fn cb126 rfl) (fun W hm => impl_copyQuery_c2 W _ x0.Query (tyQuery_mk (x := x0.Query) (hm.rdS0 r11) (hm.rdS0 r16)) s_0.1) (fun z43 => ?_)
    refine tyQuery_sp ?_
    rintro ⟨v44, v45⟩ rfl
    refine WM_form (n := 0) rfl ?_
    rintro A46 c47 rfl m48
    refine WM_form (n := 1) rfl ?_
    rintro A50 c51 rfl m52
    refine qn (pk [2]) ?_
    refine qo 10 4 31 rfl ?_
    refine wv (vl 3 6 underlying35) ?_
    refine qn (pk [2]) ?_
    refine qt 10 6 95 rfl (vf underlying37 rfl type34) ?_
    refine qo 10 5 127 rfl ?_
    refine wcl (tSl tyRow 73) x0.Rows (cl_fn cb166 rfl) (fun W hm => impl_copyRows_c2 W _ x0.Rows (hm.rdS0 r21) s_0.2) (fun z54 => ?_)
    refine WM_form (n := 0) rfl ?_
    rintro A55 c56 rfl m57
    refine qn (pk [3]) ?_
    refine qo 10 7 255 rfl ?_
    let I3 : It := iOwn (tSl tyRow 73) [.slice A55 x0.Rows.length c56] x0.Rows
    let I4 : It := iOwn (tSl tyCond 201) [.slice A46 x0.Query.Conds.length c47] x0.Query.Conds
    let I5 : It := iOwn (tSl tInt 3) [.slice A50 x0.Query.Out.length c51] x0.Query.Out
    refine sb 0 [.int .i64 x0.Query.Id, .int .i64 x0.Query.Tenant, .slice A46 x0.Query.Conds.length c47, .slice A50 x0.Query.Out.length c51, .int .i64 x0.Time, .int .i64 x0.Steps, .slice A18 x0.Rows.length c19] [I3, I4, I5, iBox p26 37 K1] (pk [4, 0, 1, 2, 3]) type34 ?_
    refine qn (pk [4]) ?_
    refine qt 10 8 511 rfl (vf underlying37 rfl type35) ?_
    refine qo 10 9 1023 rfl ?_
    refine sb 6 [.int .i64 x0.Query.Id, .int .i64 x0.Query.Tenant, .slice A46 x0.Query.Conds.length c47, .slice A50 x0.Query.Out.length c51, .int .i64 x0.Time, .int .i64 x0.Steps, .slice A55 x0.Rows.length c56] [I3, I4, I5, iBox p26 37 K1] (fun W hm => hm) type35 ?_
    refine qn (pk [4]) ?_
    refine QB_done (by kernel_rfl) ?_
    exact QM_cut_normal (A46, c47, A50, c51, A55, c56) sl2 (fun W hm => hm) trivial
   refine qc 10 27 rfl ?_ ?_
   ·
    refine wv (vl 1 6 underlying35) ?_
    refine qn (pk [0]) ?_
    refine qo 10 2 31 rfl ?_
    refine wcs tyQuery x0.Query (cl_fn cb126 rfl) (fun W hm => impl_copyQuery_c2 W _ x0.Query (tyQuery_mk (x := x0.Query) (hm.rdS0 r11) (hm.rdS0 r16)) s_0.1) (fun z59 => ?_)
    refine tyQuery_sp ?_
    rintro ⟨v60, v61⟩ rfl
    refine WM_form (n := 0) rfl ?_
    rintro A62 c63 rfl m64
    refine WM_form (n := 1) rfl ?_
    rintro A66 c67 rfl m68
    refine qn (pk [2]) ?_
    refine qt 10 6 95 rfl (vf underlying37 rfl type34) ?_
    refine qo 10 5 127 rfl ?_
    refine wcl (tSl tyRow 73) x0.Rows (cl_fn cb166 rfl) (fun W hm => impl_copyRows_c2 W _ x0.Rows (hm.rdS0 r21) s_0.2) (fun z70 => ?_)
    refine WM_form (n := 0) rfl ?_
    rintro A71 c72 rfl m73
    refine qn (pk [3]) ?_
    refine qo 10 7 255 rfl ?_
    let I6 : It := iOwn (tSl tyRow 73) [.slice A71 x0.Rows.length c72] x0.Rows
    let I7 : It := iOwn (tSl tyCond 201) [.slice A62 x0.Query.Conds.length c63] x0.Query.Conds
    let I8 : It := iOwn (tSl tInt 3) [.slice A66 x0.Query.Out.length c67] x0.Query.Out
    refine sb 0 [.int .i64 x0.Query.Id, .int .i64 x0.Query.Tenant, .slice A62 x0.Query.Conds.length c63, .slice A66 x0.Query.Out.length c67, .int .i64 x0.Time, .int .i64 x0.Steps, .slice A18 x0.Rows.length c19] [I6, I7, I8, iBox p26 37 K1] (pk [4, 0, 1, 2, 3]) type34 ?_
    refine qn (pk [4]) ?_
    refine qt 10 8 511 rfl (vf underlying37 rfl type35) ?_
    refine qo 10 9 1023 rfl ?_
    refine sb 6 [.int .i64 x0.Query.Id, .int .i64 x0.Query.Tenant, .slice A62 x0.Query.Conds.length c63, .slice A66 x0.Query.Out.length c67, .int .i64 x0.Time, .int .i64 x0.Steps, .slice A71 x0.Rows.length c72] [I6, I7, I8, iBox p26 37 K1] (fun W hm => hm) type35 ?_
    refine qn (pk [4]) ?_
    refine QB_done (by kernel_rfl) ?_
    exact QM_cut_normal (A62, c63, A66, c67, A71, c72) sl2 (fun W hm => hm) trivial
   exact QBs_nil
  refine qc 10 25 rfl ?_ ?_
  ·
   refine wv (vl 1 6 underlying35) ?_
   refine qn (pk [0]) ?_
   refine qo 10 1 27 rfl ?_
   refine wv (fun W hm => rv_loadN (cs := [.int .i64 x0.Query.Id, .int .i64 x0.Query.Tenant, .slice A8 x0.Query.Conds.length c9, .slice A13 x0.Query.Out.length c14]) underlying34 type34 rfl rfl (hm.boxPart (n := 1) rfl rfl)) ?_
   refine qn (pk [0]) ?_
   refine qo 10 2 31 rfl ?_
   refine wcs tyQuery x0.Query (cl_fn cb126 rfl) (fun W hm => impl_copyQuery_c2 W _ x0.Query (tyQuery_mk (x := x0.Query) (hm.rdS0 r11) (hm.rdS0 r16)) s_0.1) (fun z75 => ?_)
   refine tyQuery_sp ?_
   rintro ⟨v76, v77⟩ rfl
   refine WM_form (n := 0) rfl ?_
   rintro A78 c79 rfl m80
   refine WM_form (n := 1) rfl ?_
   rintro A82 c83 rfl m84
   refine qn (pk [2]) ?_
   refine qt 10 6 95 rfl (vf underlying37 rfl type34) ?_
   refine qo 10 5 127 rfl ?_
   refine wcl (tSl tyRow 73) x0.Rows (cl_fn cb166 rfl) (fun W hm => impl_copyRows_c2 W _ x0.Rows (hm.rdS0 r21) s_0.2) (fun z86 => ?_)
   refine WM_form (n := 0) rfl ?_
   rintro A87 c88 rfl m89
   refine qn (pk [3]) ?_
   refine qo 10 7 255 rfl ?_
   let I9 : It := iOwn (tSl tyRow 73) [.slice A87 x0.Rows.length c88] x0.Rows
   let I10 : It := iOwn (tSl tyCond 201) [.slice A78 x0.Query.Conds.length c79] x0.Query.Conds
   let I11 : It := iOwn (tSl tInt 3) [.slice A82 x0.Query.Out.length c83] x0.Query.Out
   refine sb 0 [.int .i64 x0.Query.Id, .int .i64 x0.Query.Tenant, .slice A78 x0.Query.Conds.length c79, .slice A82 x0.Query.Out.length c83, .int .i64 x0.Time, .int .i64 x0.Steps, .slice A18 x0.Rows.length c19] [I9, I10, I11, iBox p26 37 K1] (pk [4, 0, 1, 2, 3]) type34 ?_
   refine qn (pk [4]) ?_
   refine qt 10 8 511 rfl (vf underlying37 rfl type35) ?_
   refine qo 10 9 1023 rfl ?_
   refine sb 6 [.int .i64 x0.Query.Id, .int .i64 x0.Query.Tenant, .slice A78 x0.Query.Conds.length c79, .slice A82 x0.Query.Out.length c83, .int .i64 x0.Time, .int .i64 x0.Steps, .slice A87 x0.Rows.length c88] [I9, I10, I11, iBox p26 37 K1] (fun W hm => hm) type35 ?_
   refine qn (pk [4]) ?_
   refine QB_done (by kernel_rfl) ?_
   exact QM_cut_normal (A78, c79, A82, c83, A87, c88) sl2 (fun W hm => hm) trivial
  exact QBs_nil
 ·
  rintro ⟨A30, c31, A34, c35, A39, c40⟩ -
  let K2 : List Value := [.int .i64 x0.Query.Id, .int .i64 x0.Query.Tenant, .slice A30 x0.Query.Conds.length c31, .slice A34 x0.Query.Out.length c35, .int .i64 x0.Time, .int .i64 x0.Steps, .slice A39 x0.Rows.length c40]
  let I12 : It := iOwn (tSl tyRow 73) [.slice A39 x0.Rows.length c40] x0.Rows
  let I13 : It := iOwn (tSl tyCond 201) [.slice A30 x0.Query.Conds.length c31] x0.Query.Conds
  let I14 : It := iOwn (tSl tInt 3) [.slice A34 x0.Query.Out.length c35] x0.Query.Out
  show QM 12 _ _ _ .normal [(1, .pointer (some (⟨p25, 0, none⟩ : Addr))), (2, .pointer (some (⟨p26, 0, none⟩ : Addr)))] [iBox p25 37 K2, I12, I13, I14, iBox p26 37 K1]
  refine QM_len (n := 1) rfl ?_
  intro m91 m92
  refine QM_len (n := 2) rfl ?_
  intro m93 m94
  refine QM_len (n := 3) rfl ?_
  intro m95 m96
  refine QM_then (sr ?_)
  refine wv (fun W hm => rv_loadN (cs := K2) underlying37 type37 rfl rfl (hm.boxCells (n := 0) rfl)) ?_
  refine sb 0 K2 [iBox p25 37 K2, I12, I13, I14] (pk [4, 0, 1, 2, 3]) type37 ?_
  refine nt' (CM_ret ?_)
  refine QM_r1 rfl (RR_cell (n := 0) rfl rfl underlying37 type37 rfl) (fun W hm => ⟨K2, ?_, ?_⟩)
  ·first | rw [(show impl_copyFinished_m x0 = x0 from by unfold impl_copyFinished_m; exact rfl)] | rfl
  ·rw [(show impl_copyFinished_m x0 = x0 from by unfold impl_copyFinished_m; exact rfl)]; exact Mem.join (is := [I13, I14, I12]) (js := []) (fun _ _ hs => tyFinished_join (x := x0) hs) (hm.pick [3, 4, 2] (by decide))
theorem impl_copyFinished_eq (x0 : DFinished) : impl_copyFinished_m x0 = x0 := by
 rfl
theorem impl_copyFinished_c2 (w : World) (z0 : List Value) (x0 : DFinished) (r_0 : tyFinished.rd w w.heap.size z0 x0) (s_0 : smFinished 68719476736 x0) :
  Calls Tryz.prog 86 #[.agg z0.toArray] w fun e w' => ∃ v : List Value, e = .returned (.agg v.toArray) ∧ Mem w.heap.size w [iOwn tyFinished v x0] w' := by
 have h := impl_copyFinished_c w z0 x0 r_0 s_0
 rw [impl_copyFinished_eq] at h
 exact h

def impl_copyCharge_m (x0 : DCharge) : DCharge :=
 x0
theorem cb175 : Cb Tryz.prog 175 := ⟨f175, _, func175, rfl, by decide⟩
theorem impl_copyCharge_c (w : World) (z0 : List Value) (x0 : DCharge) (r_0 : tyCharge.rd w w.heap.size z0 x0) (s_0 : smCharge 68719476736 x0) :
  Calls Tryz.prog 175 #[.agg z0.toArray] w fun e w' => ∃ v : List Value, e = .returned (.agg v.toArray) ∧ Mem w.heap.size w [iOwn tyCharge v (impl_copyCharge_m x0)] w' := by
 obtain ⟨v1, v3, v5, rfl, r2, r4, r6⟩ := tyCharge_rd r_0
 have r11 := r2
 obtain ⟨m7, A8, c9, rfl, q10⟩ := r2
 have r16 := r4
 obtain ⟨m12, A13, c14, rfl, q15⟩ := r4
 have r21 := r6
 obtain ⟨m17, A18, c19, rfl, q20⟩ := r6
 have l22 : x0.Ids.length ≤ 68719476736 := s_0.1
 have l23 : x0.Tenants.length ≤ 68719476736 := s_0.2.1
 have l24 : x0.Rows.length ≤ 68719476736 := s_0.2.2
 refine ce1 (L := [(0, .agg #[.int .i64 x0.Segment, .int .i64 x0.Base, .slice A8 x0.Ids.length c9, .slice A13 x0.Tenants.length c14, .slice A18 x0.Rows.length c19])]) (N := 16) func175 ?_
 refine sr ?_
 refine WM_box rfl (Wd_none rfl) (by decide) (fun p25 => ?_)
 refine WM_alloc type133 rfl (Wd_none rfl) (by decide) (fun p26 => ?_)
 refine nt' (CM_seq ?_)
 let K1 : List Value := [.int .i64 0, .int .i64 0, .slice none 0 0, .slice none 0 0, .slice none 0 0]
 refine CM_cut (σ := Option Addr × Nat × Option Addr × Nat × Option Addr × Nat) (fun s => [(1, .pointer (some (⟨p25, 0, none⟩ : Addr))), (2, .pointer (some (⟨p26, 0, none⟩ : Addr)))]) (fun s => [iBox p25 133 [.int .i64 x0.Segment, .int .i64 x0.Base, .slice s.1 x0.Ids.length s.2.1, .slice s.2.2.1 x0.Tenants.length s.2.2.2.1, .slice s.2.2.2.2.1 x0.Rows.length s.2.2.2.2.2], iOwn (tSl tInt 3) [.slice s.2.2.2.2.1 x0.Rows.length s.2.2.2.2.2] x0.Rows, iOwn (tSl tInt 3) [.slice s.2.2.1 x0.Tenants.length s.2.2.2.1] x0.Tenants, iOwn (tSl tInt 3) [.slice s.1 x0.Ids.length s.2.1] x0.Ids, iBox p26 133 K1]) (fun _ => True) ?_ ?_
 ·
  refine rb 15 (s := [iBox p26 133 K1]) (pk [0]) ?_
  refine qt 15 0 1 rfl (vf underlying133 rfl type25) ?_
  refine qt 15 3 9 rfl (vf underlying133 rfl type25) ?_
  refine qt 15 6 73 rfl (vf underlying133 rfl type25) ?_
  refine qa [1, 4, 7] ?_
  refine qc 15 75 rfl ?_ ?_
  ·
   refine wv (vl 1 2 underlying25) ?_
   refine qn (pk [0]) ?_
   refine qa [2, 4, 7] ?_
   refine qc 15 79 rfl ?_ ?_
   ·
    refine wcl (tSl tInt 3) x0.Ids (cl_fn cb136 rfl) (fun W hm => impl_copyInts_c2 W _ x0.Ids (hm.rdS0 r11) s_0.1) (fun z42 => ?_)
    refine WM_form (n := 0) rfl ?_
    rintro A43 c44 rfl m45
    refine qn (pk [1]) ?_
    let I3 : It := iOwn (tSl tInt 3) [.slice A43 x0.Ids.length c44] x0.Ids
    refine QB_strong (js := [I3, iBox p26 133 K1]) (pk [1]) (pk [0, 1]) ?_
    refine qa [4, 7] ?_
    refine qc 15 95 rfl ?_ ?_
    ·
     refine wv (vl 2 3 underlying25) ?_
     refine qn (pk [0, 1]) ?_
     refine qa [5, 7] ?_
     refine qc 15 127 rfl ?_ ?_
     ·
      refine wcl (tSl tInt 3) x0.Tenants (cl_fn cb136 rfl) (fun W hm => impl_copyInts_c2 W _ x0.Tenants (hm.rdS0 r16) s_0.2.1) (fun z47 => ?_)
      refine WM_form (n := 0) rfl ?_
      rintro A48 c49 rfl m50
      refine qn (pk [1, 2]) ?_
      refine qo 15 7 255 rfl ?_
      refine wv (vl 3 4 underlying25) ?_
      refine qn (pk [1, 2]) ?_
      refine qt 15 9 767 rfl (vf underlying133 rfl type25) ?_
      refine qo 15 8 1023 rfl ?_
      refine wcl (tSl tInt 3) x0.Rows (cl_fn cb136 rfl) (fun W hm => impl_copyInts_c2 W _ x0.Rows (hm.rdS0 r21) s_0.2.2) (fun z52 => ?_)
      refine WM_form (n := 0) rfl ?_
      rintro A53 c54 rfl m55
      refine qn (pk [2, 3]) ?_
      refine qo 15 10 2047 rfl ?_
      let I4 : It := iOwn (tSl tInt 3) [.slice A53 x0.Rows.length c54] x0.Rows
      let I5 : It := iOwn (tSl tInt 3) [.slice A48 x0.Tenants.length c49] x0.Tenants
      refine sb 2 [.int .i64 x0.Segment, .int .i64 x0.Base, .slice A43 x0.Ids.length c44, .slice A13 x0.Tenants.length c14, .slice A18 x0.Rows.length c19] [I4, I5, I3, iBox p26 133 K1] (pk [4, 0, 1, 2, 3]) type25 ?_
      refine qn (pk [3, 4]) ?_
      refine qt 15 11 4095 rfl (vf underlying133 rfl type25) ?_
      refine qo 15 12 8191 rfl ?_
      refine sb 3 [.int .i64 x0.Segment, .int .i64 x0.Base, .slice A43 x0.Ids.length c44, .slice A48 x0.Tenants.length c49, .slice A18 x0.Rows.length c19] [I4, I5, I3, iBox p26 133 K1] (fun W hm => hm) type25 ?_
      refine qn (pk [3, 4]) ?_
      refine qt 15 13 16383 rfl (vf underlying133 rfl type25) ?_
      refine qo 15 14 32767 rfl ?_
      refine sb 4 [.int .i64 x0.Segment, .int .i64 x0.Base, .slice A43 x0.Ids.length c44, .slice A48 x0.Tenants.length c49, .slice A53 x0.Rows.length c54] [I4, I5, I3, iBox p26 133 K1] (fun W hm => hm) type25 ?_
      refine qn (pk [3, 4]) ?_
      refine QB_done (by kernel_rfl) ?_
      exact QM_cut_normal (A43, c44, A48, c49, A53, c54) sl2 (fun W hm => hm) trivial
     refine qc 15 223 rfl ?_ ?_
     ·
      refine wv (vl 2 4 underlying25) ?_
      refine qn (pk [0, 1]) ?_
      refine qt 15 9 735 rfl (vf underlying133 rfl type25) ?_
      refine qo 15 5 767 rfl ?_
      refine wcl (tSl tInt 3) x0.Tenants (cl_fn cb136 rfl) (fun W hm => impl_copyInts_c2 W _ x0.Tenants (hm.rdS0 r16) s_0.2.1) (fun z57 => ?_)
      refine WM_form (n := 0) rfl ?_
      rintro A58 c59 rfl m60
      refine qn (pk [1, 2]) ?_
      refine qo 15 8 1023 rfl ?_
      refine wcl (tSl tInt 3) x0.Rows (cl_fn cb136 rfl) (fun W hm => impl_copyInts_c2 W _ x0.Rows (hm.rdS0 r21) s_0.2.2) (fun z62 => ?_)
      refine WM_form (n := 0) rfl ?_
      rintro A63 c64 rfl m65
      refine qn (pk [2, 3]) ?_
      refine qo 15 10 2047 rfl ?_
      let I6 : It := iOwn (tSl tInt 3) [.slice A63 x0.Rows.length c64] x0.Rows
      let I7 : It := iOwn (tSl tInt 3) [.slice A58 x0.Tenants.length c59] x0.Tenants
      refine sb 2 [.int .i64 x0.Segment, .int .i64 x0.Base, .slice A43 x0.Ids.length c44, .slice A13 x0.Tenants.length c14, .slice A18 x0.Rows.length c19] [I6, I7, I3, iBox p26 133 K1] (pk [4, 0, 1, 2, 3]) type25 ?_
      refine qn (pk [3, 4]) ?_
      refine qt 15 11 4095 rfl (vf underlying133 rfl type25) ?_
      refine qo 15 12 8191 rfl ?_
      refine sb 3 [.int .i64 x0.Segment, .int .i64 x0.Base, .slice A43 x0.Ids.length c44, .slice A58 x0.Tenants.length c59, .slice A18 x0.Rows.length c19] [I6, I7, I3, iBox p26 133 K1] (fun W hm => hm) type25 ?_
      refine qn (pk [3, 4]) ?_
      refine qt 15 13 16383 rfl (vf underlying133 rfl type25) ?_
      refine qo 15 14 32767 rfl ?_
      refine sb 4 [.int .i64 x0.Segment, .int .i64 x0.Base, .slice A43 x0.Ids.length c44, .slice A58 x0.Tenants.length c59, .slice A63 x0.Rows.length c64] [I6, I7, I3, iBox p26 133 K1] (fun W hm => hm) type25 ?_
      refine qn (pk [3, 4]) ?_
      refine QB_done (by kernel_rfl) ?_
      exact QM_cut_normal (A43, c44, A58, c59, A63, c64) sl2 (fun W hm => hm) trivial
     exact QBs_nil
    refine qc 15 207 rfl ?_ ?_
    ·
     refine wv (vl 2 4 underlying25) ?_
     refine qn (pk [0, 1]) ?_
     refine qo 15 4 223 rfl ?_
     refine wv (vl 2 3 underlying25) ?_
     refine qn (pk [0, 1]) ?_
     refine qt 15 9 735 rfl (vf underlying133 rfl type25) ?_
     refine qo 15 5 767 rfl ?_
     refine wcl (tSl tInt 3) x0.Tenants (cl_fn cb136 rfl) (fun W hm => impl_copyInts_c2 W _ x0.Tenants (hm.rdS0 r16) s_0.2.1) (fun z67 => ?_)
     refine WM_form (n := 0) rfl ?_
     rintro A68 c69 rfl m70
     refine qn (pk [1, 2]) ?_
     refine qo 15 8 1023 rfl ?_
     refine wcl (tSl tInt 3) x0.Rows (cl_fn cb136 rfl) (fun W hm => impl_copyInts_c2 W _ x0.Rows (hm.rdS0 r21) s_0.2.2) (fun z72 => ?_)
     refine WM_form (n := 0) rfl ?_
     rintro A73 c74 rfl m75
     refine qn (pk [2, 3]) ?_
     refine qo 15 10 2047 rfl ?_
     let I8 : It := iOwn (tSl tInt 3) [.slice A73 x0.Rows.length c74] x0.Rows
     let I9 : It := iOwn (tSl tInt 3) [.slice A68 x0.Tenants.length c69] x0.Tenants
     refine sb 2 [.int .i64 x0.Segment, .int .i64 x0.Base, .slice A43 x0.Ids.length c44, .slice A13 x0.Tenants.length c14, .slice A18 x0.Rows.length c19] [I8, I9, I3, iBox p26 133 K1] (pk [4, 0, 1, 2, 3]) type25 ?_
     refine qn (pk [3, 4]) ?_
     refine qt 15 11 4095 rfl (vf underlying133 rfl type25) ?_
     refine qo 15 12 8191 rfl ?_
     refine sb 3 [.int .i64 x0.Segment, .int .i64 x0.Base, .slice A43 x0.Ids.length c44, .slice A68 x0.Tenants.length c69, .slice A18 x0.Rows.length c19] [I8, I9, I3, iBox p26 133 K1] (fun W hm => hm) type25 ?_
     refine qn (pk [3, 4]) ?_
     refine qt 15 13 16383 rfl (vf underlying133 rfl type25) ?_
     refine qo 15 14 32767 rfl ?_
     refine sb 4 [.int .i64 x0.Segment, .int .i64 x0.Base, .slice A43 x0.Ids.length c44, .slice A68 x0.Tenants.length c69, .slice A73 x0.Rows.length c74] [I8, I9, I3, iBox p26 133 K1] (fun W hm => hm) type25 ?_
     refine qn (pk [3, 4]) ?_
     refine QB_done (by kernel_rfl) ?_
     exact QM_cut_normal (A43, c44, A68, c69, A73, c74) sl2 (fun W hm => hm) trivial
    exact QBs_nil
   refine qc 15 91 rfl ?_ ?_
   ·
    refine wv (vl 1 3 underlying25) ?_
    refine qn (pk [0]) ?_
    refine qa [2, 7] ?_
    refine qc 15 95 rfl ?_ ?_
    ·
     refine wcl (tSl tInt 3) x0.Ids (cl_fn cb136 rfl) (fun W hm => impl_copyInts_c2 W _ x0.Ids (hm.rdS0 r11) s_0.1) (fun z77 => ?_)
     refine WM_form (n := 0) rfl ?_
     rintro A78 c79 rfl m80
     refine qn (pk [1]) ?_
     let I10 : It := iOwn (tSl tInt 3) [.slice A78 x0.Ids.length c79] x0.Ids
     refine QB_strong (js := [I10, iBox p26 133 K1]) (pk [1]) (pk [0, 1]) ?_
     refine qa [5, 7] ?_
     refine qc 15 127 rfl ?_ ?_
     ·
      refine wcl (tSl tInt 3) x0.Tenants (cl_fn cb136 rfl) (fun W hm => impl_copyInts_c2 W _ x0.Tenants (hm.rdS0 r16) s_0.2.1) (fun z82 => ?_)
      refine WM_form (n := 0) rfl ?_
      rintro A83 c84 rfl m85
      refine qn (pk [1, 2]) ?_
      refine qo 15 7 255 rfl ?_
      refine wv (vl 3 4 underlying25) ?_
      refine qn (pk [1, 2]) ?_
      refine qt 15 9 767 rfl (vf underlying133 rfl type25) ?_
      refine qo 15 8 1023 rfl ?_
      refine wcl (tSl tInt 3) x0.Rows (cl_fn cb136 rfl) (fun W hm => impl_copyInts_c2 W _ x0.Rows (hm.rdS0 r21) s_0.2.2) (fun z87 => ?_)
      refine WM_form (n := 0) rfl ?_
      rintro A88 c89 rfl m90
      refine qn (pk [2, 3]) ?_
      refine qo 15 10 2047 rfl ?_
      let I11 : It := iOwn (tSl tInt 3) [.slice A88 x0.Rows.length c89] x0.Rows
      let I12 : It := iOwn (tSl tInt 3) [.slice A83 x0.Tenants.length c84] x0.Tenants
      refine sb 2 [.int .i64 x0.Segment, .int .i64 x0.Base, .slice A78 x0.Ids.length c79, .slice A13 x0.Tenants.length c14, .slice A18 x0.Rows.length c19] [I11, I12, I10, iBox p26 133 K1] (pk [4, 0, 1, 2, 3]) type25 ?_
      refine qn (pk [3, 4]) ?_
      refine qt 15 11 4095 rfl (vf underlying133 rfl type25) ?_
      refine qo 15 12 8191 rfl ?_
      refine sb 3 [.int .i64 x0.Segment, .int .i64 x0.Base, .slice A78 x0.Ids.length c79, .slice A83 x0.Tenants.length c84, .slice A18 x0.Rows.length c19] [I11, I12, I10, iBox p26 133 K1] (fun W hm => hm) type25 ?_
      refine qn (pk [3, 4]) ?_
      refine qt 15 13 16383 rfl (vf underlying133 rfl type25) ?_
      refine qo 15 14 32767 rfl ?_
      refine sb 4 [.int .i64 x0.Segment, .int .i64 x0.Base, .slice A78 x0.Ids.length c79, .slice A83 x0.Tenants.length c84, .slice A88 x0.Rows.length c89] [I11, I12, I10, iBox p26 133 K1] (fun W hm => hm) type25 ?_
      refine qn (pk [3, 4]) ?_
      refine QB_done (by kernel_rfl) ?_
      exact QM_cut_normal (A78, c79, A83, c84, A88, c89) sl2 (fun W hm => hm) trivial
     refine qc 15 223 rfl ?_ ?_
     ·
      refine wv (vl 2 4 underlying25) ?_
      refine qn (pk [0, 1]) ?_
      refine qt 15 9 735 rfl (vf underlying133 rfl type25) ?_
      refine qo 15 5 767 rfl ?_
      refine wcl (tSl tInt 3) x0.Tenants (cl_fn cb136 rfl) (fun W hm => impl_copyInts_c2 W _ x0.Tenants (hm.rdS0 r16) s_0.2.1) (fun z92 => ?_)
      refine WM_form (n := 0) rfl ?_
      rintro A93 c94 rfl m95
      refine qn (pk [1, 2]) ?_
      refine qo 15 8 1023 rfl ?_
      refine wcl (tSl tInt 3) x0.Rows (cl_fn cb136 rfl) (fun W hm => impl_copyInts_c2 W _ x0.Rows (hm.rdS0 r21) s_0.2.2) (fun z97 => ?_)
      refine WM_form (n := 0) rfl ?_
      rintro A98 c99 rfl m100
      refine qn (pk [2, 3]) ?_
      refine qo 15 10 2047 rfl ?_
      let I13 : It := iOwn (tSl tInt 3) [.slice A98 x0.Rows.length c99] x0.Rows
      let I14 : It := iOwn (tSl tInt 3) [.slice A93 x0.Tenants.length c94] x0.Tenants
      refine sb 2 [.int .i64 x0.Segment, .int .i64 x0.Base, .slice A78 x0.Ids.length c79, .slice A13 x0.Tenants.length c14, .slice A18 x0.Rows.length c19] [I13, I14, I10, iBox p26 133 K1] (pk [4, 0, 1, 2, 3]) type25 ?_
      refine qn (pk [3, 4]) ?_
      refine qt 15 11 4095 rfl (vf underlying133 rfl type25) ?_
      refine qo 15 12 8191 rfl ?_
      refine sb 3 [.int .i64 x0.Segment, .int .i64 x0.Base, .slice A78 x0.Ids.length c79, .slice A93 x0.Tenants.length c94, .slice A18 x0.Rows.length c19] [I13, I14, I10, iBox p26 133 K1] (fun W hm => hm) type25 ?_
      refine qn (pk [3, 4]) ?_
      refine qt 15 13 16383 rfl (vf underlying133 rfl type25) ?_
      refine qo 15 14 32767 rfl ?_
      refine sb 4 [.int .i64 x0.Segment, .int .i64 x0.Base, .slice A78 x0.Ids.length c79, .slice A93 x0.Tenants.length c94, .slice A98 x0.Rows.length c99] [I13, I14, I10, iBox p26 133 K1] (fun W hm => hm) type25 ?_
      refine qn (pk [3, 4]) ?_
      refine QB_done (by kernel_rfl) ?_
      exact QM_cut_normal (A78, c79, A93, c94, A98, c99) sl2 (fun W hm => hm) trivial
     exact QBs_nil
    refine qc 15 219 rfl ?_ ?_
    ·
     refine wv (vl 1 4 underlying25) ?_
     refine qn (pk [0]) ?_
     refine qo 15 2 223 rfl ?_
     refine wcl (tSl tInt 3) x0.Ids (cl_fn cb136 rfl) (fun W hm => impl_copyInts_c2 W _ x0.Ids (hm.rdS0 r11) s_0.1) (fun z102 => ?_)
     refine WM_form (n := 0) rfl ?_
     rintro A103 c104 rfl m105
     refine qn (pk [1]) ?_
     refine qt 15 9 735 rfl (vf underlying133 rfl type25) ?_
     refine qo 15 5 767 rfl ?_
     refine wcl (tSl tInt 3) x0.Tenants (cl_fn cb136 rfl) (fun W hm => impl_copyInts_c2 W _ x0.Tenants (hm.rdS0 r16) s_0.2.1) (fun z107 => ?_)
     refine WM_form (n := 0) rfl ?_
     rintro A108 c109 rfl m110
     refine qn (pk [2]) ?_
     refine qo 15 8 1023 rfl ?_
     refine wcl (tSl tInt 3) x0.Rows (cl_fn cb136 rfl) (fun W hm => impl_copyInts_c2 W _ x0.Rows (hm.rdS0 r21) s_0.2.2) (fun z112 => ?_)
     refine WM_form (n := 0) rfl ?_
     rintro A113 c114 rfl m115
     refine qn (pk [3]) ?_
     refine qo 15 10 2047 rfl ?_
     let I15 : It := iOwn (tSl tInt 3) [.slice A113 x0.Rows.length c114] x0.Rows
     let I16 : It := iOwn (tSl tInt 3) [.slice A108 x0.Tenants.length c109] x0.Tenants
     let I17 : It := iOwn (tSl tInt 3) [.slice A103 x0.Ids.length c104] x0.Ids
     refine sb 2 [.int .i64 x0.Segment, .int .i64 x0.Base, .slice A103 x0.Ids.length c104, .slice A13 x0.Tenants.length c14, .slice A18 x0.Rows.length c19] [I15, I16, I17, iBox p26 133 K1] (pk [4, 0, 1, 2, 3]) type25 ?_
     refine qn (pk [4]) ?_
     refine qt 15 11 4095 rfl (vf underlying133 rfl type25) ?_
     refine qo 15 12 8191 rfl ?_
     refine sb 3 [.int .i64 x0.Segment, .int .i64 x0.Base, .slice A103 x0.Ids.length c104, .slice A108 x0.Tenants.length c109, .slice A18 x0.Rows.length c19] [I15, I16, I17, iBox p26 133 K1] (fun W hm => hm) type25 ?_
     refine qn (pk [4]) ?_
     refine qt 15 13 16383 rfl (vf underlying133 rfl type25) ?_
     refine qo 15 14 32767 rfl ?_
     refine sb 4 [.int .i64 x0.Segment, .int .i64 x0.Base, .slice A103 x0.Ids.length c104, .slice A108 x0.Tenants.length c109, .slice A113 x0.Rows.length c114] [I15, I16, I17, iBox p26 133 K1] (fun W hm => hm) type25 ?_
     refine qn (pk [4]) ?_
     refine QB_done (by kernel_rfl) ?_
     exact QM_cut_normal (A103, c104, A108, c109, A113, c114) sl2 (fun W hm => hm) trivial
    exact QBs_nil
   refine qc 15 203 rfl ?_ ?_
   ·
    refine wv (vl 1 4 underlying25) ?_
    refine qn (pk [0]) ?_
    refine qa [2, 4] ?_
    refine qc 15 207 rfl ?_ ?_
    ·
     refine wcl (tSl tInt 3) x0.Ids (cl_fn cb136 rfl) (fun W hm => impl_copyInts_c2 W _ x0.Ids (hm.rdS0 r11) s_0.1) (fun z117 => ?_)
     refine WM_form (n := 0) rfl ?_
     rintro A118 c119 rfl m120
     refine qn (pk [1]) ?_
     refine qo 15 4 223 rfl ?_
     refine wv (vl 2 3 underlying25) ?_
     refine qn (pk [1]) ?_
     refine qt 15 9 735 rfl (vf underlying133 rfl type25) ?_
     refine qo 15 5 767 rfl ?_
     refine wcl (tSl tInt 3) x0.Tenants (cl_fn cb136 rfl) (fun W hm => impl_copyInts_c2 W _ x0.Tenants (hm.rdS0 r16) s_0.2.1) (fun z122 => ?_)
     refine WM_form (n := 0) rfl ?_
     rintro A123 c124 rfl m125
     refine qn (pk [2]) ?_
     refine qo 15 8 1023 rfl ?_
     refine wcl (tSl tInt 3) x0.Rows (cl_fn cb136 rfl) (fun W hm => impl_copyInts_c2 W _ x0.Rows (hm.rdS0 r21) s_0.2.2) (fun z127 => ?_)
     refine WM_form (n := 0) rfl ?_
     rintro A128 c129 rfl m130
     refine qn (pk [3]) ?_
     refine qo 15 10 2047 rfl ?_
     let I18 : It := iOwn (tSl tInt 3) [.slice A128 x0.Rows.length c129] x0.Rows
     let I19 : It := iOwn (tSl tInt 3) [.slice A123 x0.Tenants.length c124] x0.Tenants
     let I20 : It := iOwn (tSl tInt 3) [.slice A118 x0.Ids.length c119] x0.Ids
     refine sb 2 [.int .i64 x0.Segment, .int .i64 x0.Base, .slice A118 x0.Ids.length c119, .slice A13 x0.Tenants.length c14, .slice A18 x0.Rows.length c19] [I18, I19, I20, iBox p26 133 K1] (pk [4, 0, 1, 2, 3]) type25 ?_
     refine qn (pk [4]) ?_
     refine qt 15 11 4095 rfl (vf underlying133 rfl type25) ?_
     refine qo 15 12 8191 rfl ?_
     refine sb 3 [.int .i64 x0.Segment, .int .i64 x0.Base, .slice A118 x0.Ids.length c119, .slice A123 x0.Tenants.length c124, .slice A18 x0.Rows.length c19] [I18, I19, I20, iBox p26 133 K1] (fun W hm => hm) type25 ?_
     refine qn (pk [4]) ?_
     refine qt 15 13 16383 rfl (vf underlying133 rfl type25) ?_
     refine qo 15 14 32767 rfl ?_
     refine sb 4 [.int .i64 x0.Segment, .int .i64 x0.Base, .slice A118 x0.Ids.length c119, .slice A123 x0.Tenants.length c124, .slice A128 x0.Rows.length c129] [I18, I19, I20, iBox p26 133 K1] (fun W hm => hm) type25 ?_
     refine qn (pk [4]) ?_
     refine QB_done (by kernel_rfl) ?_
     exact QM_cut_normal (A118, c119, A123, c124, A128, c129) sl2 (fun W hm => hm) trivial
    refine qc 15 219 rfl ?_ ?_
    ·
     refine wv (vl 1 3 underlying25) ?_
     refine qn (pk [0]) ?_
     refine qo 15 2 223 rfl ?_
     refine wcl (tSl tInt 3) x0.Ids (cl_fn cb136 rfl) (fun W hm => impl_copyInts_c2 W _ x0.Ids (hm.rdS0 r11) s_0.1) (fun z132 => ?_)
     refine WM_form (n := 0) rfl ?_
     rintro A133 c134 rfl m135
     refine qn (pk [1]) ?_
     refine qt 15 9 735 rfl (vf underlying133 rfl type25) ?_
     refine qo 15 5 767 rfl ?_
     refine wcl (tSl tInt 3) x0.Tenants (cl_fn cb136 rfl) (fun W hm => impl_copyInts_c2 W _ x0.Tenants (hm.rdS0 r16) s_0.2.1) (fun z137 => ?_)
     refine WM_form (n := 0) rfl ?_
     rintro A138 c139 rfl m140
     refine qn (pk [2]) ?_
     refine qo 15 8 1023 rfl ?_
     refine wcl (tSl tInt 3) x0.Rows (cl_fn cb136 rfl) (fun W hm => impl_copyInts_c2 W _ x0.Rows (hm.rdS0 r21) s_0.2.2) (fun z142 => ?_)
     refine WM_form (n := 0) rfl ?_
     rintro A143 c144 rfl m145
     refine qn (pk [3]) ?_
     refine qo 15 10 2047 rfl ?_
     let I21 : It := iOwn (tSl tInt 3) [.slice A143 x0.Rows.length c144] x0.Rows
     let I22 : It := iOwn (tSl tInt 3) [.slice A138 x0.Tenants.length c139] x0.Tenants
     let I23 : It := iOwn (tSl tInt 3) [.slice A133 x0.Ids.length c134] x0.Ids
     refine sb 2 [.int .i64 x0.Segment, .int .i64 x0.Base, .slice A133 x0.Ids.length c134, .slice A13 x0.Tenants.length c14, .slice A18 x0.Rows.length c19] [I21, I22, I23, iBox p26 133 K1] (pk [4, 0, 1, 2, 3]) type25 ?_
     refine qn (pk [4]) ?_
     refine qt 15 11 4095 rfl (vf underlying133 rfl type25) ?_
     refine qo 15 12 8191 rfl ?_
     refine sb 3 [.int .i64 x0.Segment, .int .i64 x0.Base, .slice A133 x0.Ids.length c134, .slice A138 x0.Tenants.length c139, .slice A18 x0.Rows.length c19] [I21, I22, I23, iBox p26 133 K1] (fun W hm => hm) type25 ?_
     refine qn (pk [4]) ?_
     refine qt 15 13 16383 rfl (vf underlying133 rfl type25) ?_
     refine qo 15 14 32767 rfl ?_
     refine sb 4 [.int .i64 x0.Segment, .int .i64 x0.Base, .slice A133 x0.Ids.length c134, .slice A138 x0.Tenants.length c139, .slice A143 x0.Rows.length c144] [I21, I22, I23, iBox p26 133 K1] (fun W hm => hm) type25 ?_
     refine qn (pk [4]) ?_
     refine QB_done (by kernel_rfl) ?_
     exact QM_cut_normal (A133, c134, A138, c139, A143, c144) sl2 (fun W hm => hm) trivial
    exact QBs_nil
   exact QBs_nil
  refine qc 15 89 rfl ?_ ?_
  ·
   refine wv (vl 1 3 underlying25) ?_
   refine qn (pk [0]) ?_
   refine qa [1, 7] ?_
   refine qc 15 91 rfl ?_ ?_
   ·
    refine wv (vl 1 2 underlying25) ?_
    refine qn (pk [0]) ?_
    refine qa [2, 7] ?_
    refine qc 15 95 rfl ?_ ?_
    ·
     refine wcl (tSl tInt 3) x0.Ids (cl_fn cb136 rfl) (fun W hm => impl_copyInts_c2 W _ x0.Ids (hm.rdS0 r11) s_0.1) (fun z147 => ?_)
     refine WM_form (n := 0) rfl ?_
     rintro A148 c149 rfl m150
     refine qn (pk [1]) ?_
     let I24 : It := iOwn (tSl tInt 3) [.slice A148 x0.Ids.length c149] x0.Ids
     refine QB_strong (js := [I24, iBox p26 133 K1]) (pk [1]) (pk [0, 1]) ?_
     refine qa [5, 7] ?_
     refine qc 15 127 rfl ?_ ?_
     ·
      refine wcl (tSl tInt 3) x0.Tenants (cl_fn cb136 rfl) (fun W hm => impl_copyInts_c2 W _ x0.Tenants (hm.rdS0 r16) s_0.2.1) (fun z152 => ?_)
      refine WM_form (n := 0) rfl ?_
      rintro A153 c154 rfl m155
      refine qn (pk [1, 2]) ?_
      refine qo 15 7 255 rfl ?_
      refine wv (vl 3 4 underlying25) ?_
      refine qn (pk [1, 2]) ?_
      refine qt 15 9 767 rfl (vf underlying133 rfl type25) ?_
      refine qo 15 8 1023 rfl ?_
      refine wcl (tSl tInt 3) x0.Rows (cl_fn cb136 rfl) (fun W hm => impl_copyInts_c2 W _ x0.Rows (hm.rdS0 r21) s_0.2.2) (fun z157 => ?_)
      refine WM_form (n := 0) rfl ?_
      rintro A158 c159 rfl m160
      refine qn (pk [2, 3]) ?_
      refine qo 15 10 2047 rfl ?_
      let I25 : It := iOwn (tSl tInt 3) [.slice A158 x0.Rows.length c159] x0.Rows
      let I26 : It := iOwn (tSl tInt 3) [.slice A153 x0.Tenants.length c154] x0.Tenants
      refine sb 2 [.int .i64 x0.Segment, .int .i64 x0.Base, .slice A148 x0.Ids.length c149, .slice A13 x0.Tenants.length c14, .slice A18 x0.Rows.length c19] [I25, I26, I24, iBox p26 133 K1] (pk [4, 0, 1, 2, 3]) type25 ?_
      refine qn (pk [3, 4]) ?_
      refine qt 15 11 4095 rfl (vf underlying133 rfl type25) ?_
      refine qo 15 12 8191 rfl ?_
      refine sb 3 [.int .i64 x0.Segment, .int .i64 x0.Base, .slice A148 x0.Ids.length c149, .slice A153 x0.Tenants.length c154, .slice A18 x0.Rows.length c19] [I25, I26, I24, iBox p26 133 K1] (fun W hm => hm) type25 ?_
      refine qn (pk [3, 4]) ?_
      refine qt 15 13 16383 rfl (vf underlying133 rfl type25) ?_
      refine qo 15 14 32767 rfl ?_
      refine sb 4 [.int .i64 x0.Segment, .int .i64 x0.Base, .slice A148 x0.Ids.length c149, .slice A153 x0.Tenants.length c154, .slice A158 x0.Rows.length c159] [I25, I26, I24, iBox p26 133 K1] (fun W hm => hm) type25 ?_
      refine qn (pk [3, 4]) ?_
      refine QB_done (by kernel_rfl) ?_
      exact QM_cut_normal (A148, c149, A153, c154, A158, c159) sl2 (fun W hm => hm) trivial
     refine qc 15 223 rfl ?_ ?_
     ·
      refine wv (vl 2 4 underlying25) ?_
      refine qn (pk [0, 1]) ?_
      refine qt 15 9 735 rfl (vf underlying133 rfl type25) ?_
      refine qo 15 5 767 rfl ?_
      refine wcl (tSl tInt 3) x0.Tenants (cl_fn cb136 rfl) (fun W hm => impl_copyInts_c2 W _ x0.Tenants (hm.rdS0 r16) s_0.2.1) (fun z162 => ?_)
      refine WM_form (n := 0) rfl ?_
      rintro A163 c164 rfl m165
      refine qn (pk [1, 2]) ?_
      refine qo 15 8 1023 rfl ?_
      refine wcl (tSl tInt 3) x0.Rows (cl_fn cb136 rfl) (fun W hm => impl_copyInts_c2 W _ x0.Rows (hm.rdS0 r21) s_0.2.2) (fun z167 => ?_)
      refine WM_form (n := 0) rfl ?_
      rintro A168 c169 rfl m170
      refine qn (pk [2, 3]) ?_
      refine qo 15 10 2047 rfl ?_
      let I27 : It := iOwn (tSl tInt 3) [.slice A168 x0.Rows.length c169] x0.Rows
      let I28 : It := iOwn (tSl tInt 3) [.slice A163 x0.Tenants.length c164] x0.Tenants
      refine sb 2 [.int .i64 x0.Segment, .int .i64 x0.Base, .slice A148 x0.Ids.length c149, .slice A13 x0.Tenants.length c14, .slice A18 x0.Rows.length c19] [I27, I28, I24, iBox p26 133 K1] (pk [4, 0, 1, 2, 3]) type25 ?_
      refine qn (pk [3, 4]) ?_
      refine qt 15 11 4095 rfl (vf underlying133 rfl type25) ?_
      refine qo 15 12 8191 rfl ?_
      refine sb 3 [.int .i64 x0.Segment, .int .i64 x0.Base, .slice A148 x0.Ids.length c149, .slice A163 x0.Tenants.length c164, .slice A18 x0.Rows.length c19] [I27, I28, I24, iBox p26 133 K1] (fun W hm => hm) type25 ?_
      refine qn (pk [3, 4]) ?_
      refine qt 15 13 16383 rfl (vf underlying133 rfl type25) ?_
      refine qo 15 14 32767 rfl ?_
      refine sb 4 [.int .i64 x0.Segment, .int .i64 x0.Base, .slice A148 x0.Ids.length c149, .slice A163 x0.Tenants.length c164, .slice A168 x0.Rows.length c169] [I27, I28, I24, iBox p26 133 K1] (fun W hm => hm) type25 ?_
      refine qn (pk [3, 4]) ?_
      refine QB_done (by kernel_rfl) ?_
      exact QM_cut_normal (A148, c149, A163, c164, A168, c169) sl2 (fun W hm => hm) trivial
     exact QBs_nil
    refine qc 15 219 rfl ?_ ?_
    ·
     refine wv (vl 1 4 underlying25) ?_
     refine qn (pk [0]) ?_
     refine qo 15 2 223 rfl ?_
     refine wcl (tSl tInt 3) x0.Ids (cl_fn cb136 rfl) (fun W hm => impl_copyInts_c2 W _ x0.Ids (hm.rdS0 r11) s_0.1) (fun z172 => ?_)
     refine WM_form (n := 0) rfl ?_
     rintro A173 c174 rfl m175
     refine qn (pk [1]) ?_
     refine qt 15 9 735 rfl (vf underlying133 rfl type25) ?_
     refine qo 15 5 767 rfl ?_
     refine wcl (tSl tInt 3) x0.Tenants (cl_fn cb136 rfl) (fun W hm => impl_copyInts_c2 W _ x0.Tenants (hm.rdS0 r16) s_0.2.1) (fun z177 => ?_)
     refine WM_form (n := 0) rfl ?_
     rintro A178 c179 rfl m180
     refine qn (pk [2]) ?_
     refine qo 15 8 1023 rfl ?_
     refine wcl (tSl tInt 3) x0.Rows (cl_fn cb136 rfl) (fun W hm => impl_copyInts_c2 W _ x0.Rows (hm.rdS0 r21) s_0.2.2) (fun z182 => ?_)
     refine WM_form (n := 0) rfl ?_
     rintro A183 c184 rfl m185
     refine qn (pk [3]) ?_
     refine qo 15 10 2047 rfl ?_
     let I29 : It := iOwn (tSl tInt 3) [.slice A183 x0.Rows.length c184] x0.Rows
     let I30 : It := iOwn (tSl tInt 3) [.slice A178 x0.Tenants.length c179] x0.Tenants
     let I31 : It := iOwn (tSl tInt 3) [.slice A173 x0.Ids.length c174] x0.Ids
     refine sb 2 [.int .i64 x0.Segment, .int .i64 x0.Base, .slice A173 x0.Ids.length c174, .slice A13 x0.Tenants.length c14, .slice A18 x0.Rows.length c19] [I29, I30, I31, iBox p26 133 K1] (pk [4, 0, 1, 2, 3]) type25 ?_
     refine qn (pk [4]) ?_
     refine qt 15 11 4095 rfl (vf underlying133 rfl type25) ?_
     refine qo 15 12 8191 rfl ?_
     refine sb 3 [.int .i64 x0.Segment, .int .i64 x0.Base, .slice A173 x0.Ids.length c174, .slice A178 x0.Tenants.length c179, .slice A18 x0.Rows.length c19] [I29, I30, I31, iBox p26 133 K1] (fun W hm => hm) type25 ?_
     refine qn (pk [4]) ?_
     refine qt 15 13 16383 rfl (vf underlying133 rfl type25) ?_
     refine qo 15 14 32767 rfl ?_
     refine sb 4 [.int .i64 x0.Segment, .int .i64 x0.Base, .slice A173 x0.Ids.length c174, .slice A178 x0.Tenants.length c179, .slice A183 x0.Rows.length c184] [I29, I30, I31, iBox p26 133 K1] (fun W hm => hm) type25 ?_
     refine qn (pk [4]) ?_
     refine QB_done (by kernel_rfl) ?_
     exact QM_cut_normal (A173, c174, A178, c179, A183, c184) sl2 (fun W hm => hm) trivial
    exact QBs_nil
   refine qc 15 217 rfl ?_ ?_
   ·
    refine wv (vl 1 4 underlying25) ?_
    refine qn (pk [0]) ?_
    refine qo 15 1 219 rfl ?_
    refine wv (vl 1 2 underlying25) ?_
    refine qn (pk [0]) ?_
    refine qo 15 2 223 rfl ?_
    refine wcl (tSl tInt 3) x0.Ids (cl_fn cb136 rfl) (fun W hm => impl_copyInts_c2 W _ x0.Ids (hm.rdS0 r11) s_0.1) (fun z187 => ?_)
    refine WM_form (n := 0) rfl ?_
    rintro A188 c189 rfl m190
    refine qn (pk [1]) ?_
    refine qt 15 9 735 rfl (vf underlying133 rfl type25) ?_
    refine qo 15 5 767 rfl ?_
    refine wcl (tSl tInt 3) x0.Tenants (cl_fn cb136 rfl) (fun W hm => impl_copyInts_c2 W _ x0.Tenants (hm.rdS0 r16) s_0.2.1) (fun z192 => ?_)
    refine WM_form (n := 0) rfl ?_
    rintro A193 c194 rfl m195
    refine qn (pk [2]) ?_
    refine qo 15 8 1023 rfl ?_
    refine wcl (tSl tInt 3) x0.Rows (cl_fn cb136 rfl) (fun W hm => impl_copyInts_c2 W _ x0.Rows (hm.rdS0 r21) s_0.2.2) (fun z197 => ?_)
    refine WM_form (n := 0) rfl ?_
    rintro A198 c199 rfl m200
    refine qn (pk [3]) ?_
    refine qo 15 10 2047 rfl ?_
    let I32 : It := iOwn (tSl tInt 3) [.slice A198 x0.Rows.length c199] x0.Rows
    let I33 : It := iOwn (tSl tInt 3) [.slice A193 x0.Tenants.length c194] x0.Tenants
    let I34 : It := iOwn (tSl tInt 3) [.slice A188 x0.Ids.length c189] x0.Ids
    refine sb 2 [.int .i64 x0.Segment, .int .i64 x0.Base, .slice A188 x0.Ids.length c189, .slice A13 x0.Tenants.length c14, .slice A18 x0.Rows.length c19] [I32, I33, I34, iBox p26 133 K1] (pk [4, 0, 1, 2, 3]) type25 ?_
    refine qn (pk [4]) ?_
    refine qt 15 11 4095 rfl (vf underlying133 rfl type25) ?_
    refine qo 15 12 8191 rfl ?_
    refine sb 3 [.int .i64 x0.Segment, .int .i64 x0.Base, .slice A188 x0.Ids.length c189, .slice A193 x0.Tenants.length c194, .slice A18 x0.Rows.length c19] [I32, I33, I34, iBox p26 133 K1] (fun W hm => hm) type25 ?_
    refine qn (pk [4]) ?_
    refine qt 15 13 16383 rfl (vf underlying133 rfl type25) ?_
    refine qo 15 14 32767 rfl ?_
    refine sb 4 [.int .i64 x0.Segment, .int .i64 x0.Base, .slice A188 x0.Ids.length c189, .slice A193 x0.Tenants.length c194, .slice A198 x0.Rows.length c199] [I32, I33, I34, iBox p26 133 K1] (fun W hm => hm) type25 ?_
    refine qn (pk [4]) ?_
    refine QB_done (by kernel_rfl) ?_
    exact QM_cut_normal (A188, c189, A193, c194, A198, c199) sl2 (fun W hm => hm) trivial
   exact QBs_nil
  refine qc 15 201 rfl ?_ ?_
  ·
   refine wv (vl 1 4 underlying25) ?_
   refine qn (pk [0]) ?_
   refine qa [1, 4] ?_
   refine qc 15 203 rfl ?_ ?_
   ·
    refine wv (vl 1 2 underlying25) ?_
    refine qn (pk [0]) ?_
    refine qa [2, 4] ?_
    refine qc 15 207 rfl ?_ ?_
    ·
     refine wcl (tSl tInt 3) x0.Ids (cl_fn cb136 rfl) (fun W hm => impl_copyInts_c2 W _ x0.Ids (hm.rdS0 r11) s_0.1) (fun z202 => ?_)
     refine WM_form (n := 0) rfl ?_
     rintro A203 c204 rfl m205
     refine qn (pk [1]) ?_
     refine qo 15 4 223 rfl ?_
     refine wv (vl 2 3 underlying25) ?_
     refine qn (pk [1]) ?_
     refine qt 15 9 735 rfl (vf underlying133 rfl type25) ?_
     refine qo 15 5 767 rfl ?_
     refine wcl (tSl tInt 3) x0.Tenants (cl_fn cb136 rfl) (fun W hm => impl_copyInts_c2 W _ x0.Tenants (hm.rdS0 r16) s_0.2.1) (fun z207 => ?_)
     refine WM_form (n := 0) rfl ?_
     rintro A208 c209 rfl m210
     refine qn (pk [2]) ?_
     refine qo 15 8 1023 rfl ?_
     refine wcl (tSl tInt 3) x0.Rows (cl_fn cb136 rfl) (fun W hm => impl_copyInts_c2 W _ x0.Rows (hm.rdS0 r21) s_0.2.2) (fun z212 => ?_)
     refine WM_form (n := 0) rfl ?_
     rintro A213 c214 rfl m215
     refine qn (pk [3]) ?_
     refine qo 15 10 2047 rfl ?_
     let I35 : It := iOwn (tSl tInt 3) [.slice A213 x0.Rows.length c214] x0.Rows
     let I36 : It := iOwn (tSl tInt 3) [.slice A208 x0.Tenants.length c209] x0.Tenants
     let I37 : It := iOwn (tSl tInt 3) [.slice A203 x0.Ids.length c204] x0.Ids
     refine sb 2 [.int .i64 x0.Segment, .int .i64 x0.Base, .slice A203 x0.Ids.length c204, .slice A13 x0.Tenants.length c14, .slice A18 x0.Rows.length c19] [I35, I36, I37, iBox p26 133 K1] (pk [4, 0, 1, 2, 3]) type25 ?_
     refine qn (pk [4]) ?_
     refine qt 15 11 4095 rfl (vf underlying133 rfl type25) ?_
     refine qo 15 12 8191 rfl ?_
     refine sb 3 [.int .i64 x0.Segment, .int .i64 x0.Base, .slice A203 x0.Ids.length c204, .slice A208 x0.Tenants.length c209, .slice A18 x0.Rows.length c19] [I35, I36, I37, iBox p26 133 K1] (fun W hm => hm) type25 ?_
     refine qn (pk [4]) ?_
     refine qt 15 13 16383 rfl (vf underlying133 rfl type25) ?_
     refine qo 15 14 32767 rfl ?_
     refine sb 4 [.int .i64 x0.Segment, .int .i64 x0.Base, .slice A203 x0.Ids.length c204, .slice A208 x0.Tenants.length c209, .slice A213 x0.Rows.length c214] [I35, I36, I37, iBox p26 133 K1] (fun W hm => hm) type25 ?_
     refine qn (pk [4]) ?_
     refine QB_done (by kernel_rfl) ?_
     exact QM_cut_normal (A203, c204, A208, c209, A213, c214) sl2 (fun W hm => hm) trivial
    refine qc 15 219 rfl ?_ ?_
    ·
     refine wv (vl 1 3 underlying25) ?_
     refine qn (pk [0]) ?_
     refine qo 15 2 223 rfl ?_
     refine wcl (tSl tInt 3) x0.Ids (cl_fn cb136 rfl) (fun W hm => impl_copyInts_c2 W _ x0.Ids (hm.rdS0 r11) s_0.1) (fun z217 => ?_)
     refine WM_form (n := 0) rfl ?_
     rintro A218 c219 rfl m220
     refine qn (pk [1]) ?_
     refine qt 15 9 735 rfl (vf underlying133 rfl type25) ?_
     refine qo 15 5 767 rfl ?_
     refine wcl (tSl tInt 3) x0.Tenants (cl_fn cb136 rfl) (fun W hm => impl_copyInts_c2 W _ x0.Tenants (hm.rdS0 r16) s_0.2.1) (fun z222 => ?_)
     refine WM_form (n := 0) rfl ?_
     rintro A223 c224 rfl m225
     refine qn (pk [2]) ?_
     refine qo 15 8 1023 rfl ?_
     refine wcl (tSl tInt 3) x0.Rows (cl_fn cb136 rfl) (fun W hm => impl_copyInts_c2 W _ x0.Rows (hm.rdS0 r21) s_0.2.2) (fun z227 => ?_)
     refine WM_form (n := 0) rfl ?_
     rintro A228 c229 rfl m230
     refine qn (pk [3]) ?_
     refine qo 15 10 2047 rfl ?_
     let I38 : It := iOwn (tSl tInt 3) [.slice A228 x0.Rows.length c229] x0.Rows
     let I39 : It := iOwn (tSl tInt 3) [.slice A223 x0.Tenants.length c224] x0.Tenants
     let I40 : It := iOwn (tSl tInt 3) [.slice A218 x0.Ids.length c219] x0.Ids
     refine sb 2 [.int .i64 x0.Segment, .int .i64 x0.Base, .slice A218 x0.Ids.length c219, .slice A13 x0.Tenants.length c14, .slice A18 x0.Rows.length c19] [I38, I39, I40, iBox p26 133 K1] (pk [4, 0, 1, 2, 3]) type25 ?_
     refine qn (pk [4]) ?_
     refine qt 15 11 4095 rfl (vf underlying133 rfl type25) ?_
     refine qo 15 12 8191 rfl ?_
     refine sb 3 [.int .i64 x0.Segment, .int .i64 x0.Base, .slice A218 x0.Ids.length c219, .slice A223 x0.Tenants.length c224, .slice A18 x0.Rows.length c19] [I38, I39, I40, iBox p26 133 K1] (fun W hm => hm) type25 ?_
     refine qn (pk [4]) ?_
     refine qt 15 13 16383 rfl (vf underlying133 rfl type25) ?_
     refine qo 15 14 32767 rfl ?_
     refine sb 4 [.int .i64 x0.Segment, .int .i64 x0.Base, .slice A218 x0.Ids.length c219, .slice A223 x0.Tenants.length c224, .slice A228 x0.Rows.length c229] [I38, I39, I40, iBox p26 133 K1] (fun W hm => hm) type25 ?_
     refine qn (pk [4]) ?_
     refine QB_done (by kernel_rfl) ?_
     exact QM_cut_normal (A218, c219, A223, c224, A228, c229) sl2 (fun W hm => hm) trivial
    exact QBs_nil
   refine qc 15 217 rfl ?_ ?_
   ·
    refine wv (vl 1 3 underlying25) ?_
    refine qn (pk [0]) ?_
    refine qo 15 1 219 rfl ?_
    refine wv (vl 1 2 underlying25) ?_
    refine qn (pk [0]) ?_
    refine qo 15 2 223 rfl ?_
    refine wcl (tSl tInt 3) x0.Ids (cl_fn cb136 rfl) (fun W hm => impl_copyInts_c2 W _ x0.Ids (hm.rdS0 r11) s_0.1) (fun z232 => ?_)
    refine WM_form (n := 0) rfl ?_
    rintro A233 c234 rfl m235
    refine qn (pk [1]) ?_
    refine qt 15 9 735 rfl (vf underlying133 rfl type25) ?_
    refine qo 15 5 767 rfl ?_
    refine wcl (tSl tInt 3) x0.Tenants (cl_fn cb136 rfl) (fun W hm => impl_copyInts_c2 W _ x0.Tenants (hm.rdS0 r16) s_0.2.1) (fun z237 => ?_)
    refine WM_form (n := 0) rfl ?_
    rintro A238 c239 rfl m240
    refine qn (pk [2]) ?_
    refine qo 15 8 1023 rfl ?_
    refine wcl (tSl tInt 3) x0.Rows (cl_fn cb136 rfl) (fun W hm => impl_copyInts_c2 W _ x0.Rows (hm.rdS0 r21) s_0.2.2) (fun z242 => ?_)
    refine WM_form (n := 0) rfl ?_
    rintro A243 c244 rfl m245
    refine qn (pk [3]) ?_
    refine qo 15 10 2047 rfl ?_
    let I41 : It := iOwn (tSl tInt 3) [.slice A243 x0.Rows.length c244] x0.Rows
    let I42 : It := iOwn (tSl tInt 3) [.slice A238 x0.Tenants.length c239] x0.Tenants
    let I43 : It := iOwn (tSl tInt 3) [.slice A233 x0.Ids.length c234] x0.Ids
    refine sb 2 [.int .i64 x0.Segment, .int .i64 x0.Base, .slice A233 x0.Ids.length c234, .slice A13 x0.Tenants.length c14, .slice A18 x0.Rows.length c19] [I41, I42, I43, iBox p26 133 K1] (pk [4, 0, 1, 2, 3]) type25 ?_
    refine qn (pk [4]) ?_
    refine qt 15 11 4095 rfl (vf underlying133 rfl type25) ?_
    refine qo 15 12 8191 rfl ?_
    refine sb 3 [.int .i64 x0.Segment, .int .i64 x0.Base, .slice A233 x0.Ids.length c234, .slice A238 x0.Tenants.length c239, .slice A18 x0.Rows.length c19] [I41, I42, I43, iBox p26 133 K1] (fun W hm => hm) type25 ?_
    refine qn (pk [4]) ?_
    refine qt 15 13 16383 rfl (vf underlying133 rfl type25) ?_
    refine qo 15 14 32767 rfl ?_
    refine sb 4 [.int .i64 x0.Segment, .int .i64 x0.Base, .slice A233 x0.Ids.length c234, .slice A238 x0.Tenants.length c239, .slice A243 x0.Rows.length c244] [I41, I42, I43, iBox p26 133 K1] (fun W hm => hm) type25 ?_
    refine qn (pk [4]) ?_
    refine QB_done (by kernel_rfl) ?_
    exact QM_cut_normal (A233, c234, A238, c239, A243, c244) sl2 (fun W hm => hm) trivial
   exact QBs_nil
  exact QBs_nil
 ·
  rintro ⟨A28, c29, A33, c34, A38, c39⟩ -
  let K2 : List Value := [.int .i64 x0.Segment, .int .i64 x0.Base, .slice A28 x0.Ids.length c29, .slice A33 x0.Tenants.length c34, .slice A38 x0.Rows.length c39]
  let I44 : It := iOwn (tSl tInt 3) [.slice A38 x0.Rows.length c39] x0.Rows
  let I45 : It := iOwn (tSl tInt 3) [.slice A33 x0.Tenants.length c34] x0.Tenants
  let I46 : It := iOwn (tSl tInt 3) [.slice A28 x0.Ids.length c29] x0.Ids
  show QM 16 _ _ _ .normal [(1, .pointer (some (⟨p25, 0, none⟩ : Addr))), (2, .pointer (some (⟨p26, 0, none⟩ : Addr)))] [iBox p25 133 K2, I44, I45, I46, iBox p26 133 K1]
  refine QM_len (n := 1) rfl ?_
  intro m247 m248
  refine QM_len (n := 2) rfl ?_
  intro m249 m250
  refine QM_len (n := 3) rfl ?_
  intro m251 m252
  refine QM_then (sr ?_)
  refine wv (fun W hm => rv_loadN (cs := K2) underlying133 type133 rfl rfl (hm.boxCells (n := 0) rfl)) ?_
  refine sb 0 K2 [iBox p25 133 K2, I44, I45, I46] (pk [4, 0, 1, 2, 3]) type133 ?_
  refine nt' (CM_ret ?_)
  refine QM_r1 rfl (RR_cell (n := 0) rfl rfl underlying133 type133 rfl) (fun W hm => ⟨K2, ?_, ?_⟩)
  ·first | rw [(show impl_copyCharge_m x0 = x0 from by unfold impl_copyCharge_m; exact rfl)] | rfl
  ·rw [(show impl_copyCharge_m x0 = x0 from by unfold impl_copyCharge_m; exact rfl)]; exact Mem.join (is := [I46, I45, I44]) (js := []) (fun _ _ hs => tyCharge_join (x := x0) hs) (hm.pick [4, 3, 2] (by decide))
theorem impl_copyCharge_eq (x0 : DCharge) : impl_copyCharge_m x0 = x0 := by
 rfl
theorem impl_copyCharge_c2 (w : World) (z0 : List Value) (x0 : DCharge) (r_0 : tyCharge.rd w w.heap.size z0 x0) (s_0 : smCharge 68719476736 x0) :
  Calls Tryz.prog 175 #[.agg z0.toArray] w fun e w' => ∃ v : List Value, e = .returned (.agg v.toArray) ∧ Mem w.heap.size w [iOwn tyCharge v x0] w' := by
 have h := impl_copyCharge_c w z0 x0 r_0 s_0
 rw [impl_copyCharge_eq] at h
 exact h

def impl_copyEngine_b3 (x0 : DEngine) (k348 : Nat) (d351 : (List DCharge)) : DEngine ⊕ ((List DCharge)) :=
 Sum.inr (d351 ++ [(gt x0.Ledger k348)])
def impl_copyEngine_b2 (x0 : DEngine) (k230 : Nat) (d233 : (List DFinished)) : DEngine ⊕ ((List DFinished)) :=
 Sum.inr (d233 ++ [(gt x0.Done k230)])
def impl_copyEngine_b1 (x0 : DEngine) (k89 : Nat) (d92 : (List DActive)) : DEngine ⊕ ((List DActive)) :=
 Sum.inr (d92 ++ [(gt x0.Active k89)])
def impl_copyEngine_m (x0 : DEngine) : DEngine :=
 Sum.elim id (fun (s1_ : (List DActive)) => Sum.elim id (fun (s2_ : (List DFinished)) => Sum.elim id (fun (s : (List DCharge)) => (⟨x0.Store, x0.Cursor, x0.Order, s1_, s2_, s, x0.Steps⟩ : DEngine)) (rng (R := DEngine) (fun k (s : (List DCharge)) => impl_copyEngine_b3 x0 k s) (x0.Ledger.length - 0) 0 [])) (rng (R := DEngine) (fun k (s : (List DFinished)) => impl_copyEngine_b2 x0 k s) (x0.Done.length - 0) 0 [])) (rng (R := DEngine) (fun k (s : (List DActive)) => impl_copyEngine_b1 x0 k s) (x0.Active.length - 0) 0 [])
theorem cb101 : Cb Tryz.prog 101 := ⟨f101, _, func101, rfl, by decide⟩
theorem impl_copyEngine_c (w : World) (z0 : List Value) (x0 : DEngine) (r_0 : tyEngine.rd w w.heap.size z0 x0) (s_0 : smEngine 68719476736 x0) :
  Calls Tryz.prog 101 #[.agg z0.toArray] w fun e w' => ∃ v : List Value, e = .returned (.agg v.toArray) ∧ Mem w.heap.size w [iOwn tyEngine v (impl_copyEngine_m x0)] w' := by
 obtain ⟨v1, v3, v5, v7, v9, rfl, r2, r4, r6, r8, r10⟩ := tyEngine_rd r_0
 have r15 := r2
 obtain ⟨m11, A12, c13, rfl, q14⟩ := r2
 have r20 := r4
 obtain ⟨m16, A17, c18, rfl, q19⟩ := r4
 have r25 := r6
 obtain ⟨m21, A22, c23, rfl, q24⟩ := r6
 have r30 := r8
 obtain ⟨m26, A27, c28, rfl, q29⟩ := r8
 have r35 := r10
 obtain ⟨m31, A32, c33, rfl, q34⟩ := r10
 have l36 : x0.Store.Segments.length ≤ 68719476736 := s_0.1.1
 have l37 : x0.Order.length ≤ 68719476736 := s_0.2.1
 have l38 : x0.Active.length ≤ 68719476736 := s_0.2.2.1.1
 have l39 : x0.Done.length ≤ 68719476736 := s_0.2.2.2.1.1
 have l40 : x0.Ledger.length ≤ 68719476736 := s_0.2.2.2.2.1
 refine ce1 (L := [(0, .agg #[.slice A12 x0.Store.Segments.length c13, .int .i64 x0.Store.Now, .int .i64 x0.Cursor, .slice A17 x0.Order.length c18, .slice A22 x0.Active.length c23, .slice A27 x0.Done.length c28, .slice A32 x0.Ledger.length c33, .int .i64 x0.Steps])]) (N := 67) func101 ?_
 refine sr ?_
 refine WM_box rfl (Wd_none rfl) (by decide) (fun p41 => ?_)
 refine WM_alloc type47 rfl (Wd_none rfl) (by decide) (fun p42 => ?_)
 refine nt' (CM_seq ?_)
 let K7 : List Value := [.slice none 0 0, .int .i64 0, .int .i64 0, .slice none 0 0, .slice none 0 0, .slice none 0 0, .slice none 0 0, .int .i64 0]
 let K8 : List Value := [.slice A12 x0.Store.Segments.length c13, .int .i64 x0.Store.Now, .int .i64 x0.Cursor, .slice A17 x0.Order.length c18, .slice A22 x0.Active.length c23, .slice A27 x0.Done.length c28, .slice A32 x0.Ledger.length c33, .int .i64 x0.Steps]
 refine CM_cut (σ := Nat × Option Addr × Nat × Option Addr × Nat) (fun s => [(1, .pointer (some (⟨p41, 0, none⟩ : Addr))), (2, .pointer (some (⟨p42, 0, none⟩ : Addr))), (3, .pointer (some (⟨s.1, 0, none⟩ : Addr)))]) (fun s => [iBox s.1 47 [.slice s.2.1 x0.Store.Segments.length s.2.2.1, .int .i64 x0.Store.Now, .int .i64 x0.Cursor, .slice s.2.2.2.1 x0.Order.length s.2.2.2.2, .slice none 0 0, .slice none 0 0, .slice none 0 0, .int .i64 x0.Steps], iOwn (tSl tInt 3) [.slice s.2.2.2.1 x0.Order.length s.2.2.2.2] x0.Order, iOwn (tSl (tSl tyVersion 191) 131) [.slice s.2.1 x0.Store.Segments.length s.2.2.1] x0.Store.Segments, iBox p42 47 K7, iBox p41 47 K8]) (fun _ => True) ?_ ?_
 ·
  refine rb 13 (s := [iBox p42 47 K7, iBox p41 47 K8]) (fun W hm => hm) ?_
  refine qt 13 0 1 rfl (vf underlying47 rfl type42) ?_
  refine qt 13 1 3 rfl (fun W hm => rv_loadN (cs := [.slice A12 x0.Store.Segments.length c13, .int .i64 x0.Store.Now]) underlying42 type42 rfl rfl (hm.boxPart (n := 1) rfl rfl)) ?_
  refine qt 13 3 11 rfl (vf underlying47 rfl type3) ?_
  refine qt 13 4 27 rfl (vl 1 2 underlying3) ?_
  refine qt 13 5 59 rfl (vf underlying47 rfl type25) ?_
  refine qt 13 6 123 rfl (vl 1 3 underlying25) ?_
  refine qt 13 8 379 rfl (vf underlying47 rfl type3) ?_
  refine qt 13 9 891 rfl (vl 1 7 underlying3) ?_
  refine qa [2, 11] ?_
  refine qc 13 895 rfl ?_ ?_
  ·
   refine wcs tyStore x0.Store (cl_fn cb173 rfl) (fun W hm => impl_copyStore_c2 W _ x0.Store (tyStore_mk (x := x0.Store) (hm.rdS0 r15)) s_0.1) (fun z55 => ?_)
   refine tyStore_sp ?_
   rintro v56 rfl
   refine WM_form (n := 0) rfl ?_
   rintro A57 c58 rfl m59
   refine qn (pk [1, 2]) ?_
   refine qa [7, 11] ?_
   refine qc 13 1023 rfl ?_ ?_
   ·
    refine wcl (tSl tInt 3) x0.Order (cl_fn cb136 rfl) (fun W hm => impl_copyInts_c2 W _ x0.Order (hm.rdS0 r20) s_0.2.1) (fun z61 => ?_)
    refine WM_form (n := 0) rfl ?_
    rintro A62 c63 rfl m64
    refine qn (pk [2, 3]) ?_
    let K9 : List Value := [.slice A57 x0.Store.Segments.length c58, .int .i64 x0.Store.Now, .int .i64 x0.Cursor, .slice A62 x0.Order.length c63, .slice none 0 0, .slice none 0 0, .slice none 0 0, .int .i64 x0.Steps]
    refine qt 13 10 2047 rfl (fun W hm => rv_build (cs := K9) rfl (by kernel_rfl)) ?_
    refine qo 13 11 4095 rfl ?_
    refine WM_alloc type47 rfl (Wd_none rfl) (by decide) (fun p66 => ?_)
    refine qn (pk [3, 4]) ?_
    refine qo 13 12 8191 rfl ?_
    refine sb 0 K9 [iOwn (tSl tInt 3) [.slice A62 x0.Order.length c63] x0.Order, iOwn (tSl (tSl tyVersion 191) 131) [.slice A57 x0.Store.Segments.length c58] x0.Store.Segments, iBox p42 47 K7, iBox p41 47 K8] (fun W hm => hm) type47 ?_
    refine qn (pk [3, 4]) ?_
    refine QB_done (by kernel_rfl) ?_
    exact QM_cut_normal (p66, A57, c58, A62, c63) sl3 (fun W hm => hm) trivial
   refine qc 13 2943 rfl ?_ ?_
   ·
    refine WM_alloc type47 rfl (Wd_none rfl) (by decide) (fun p67 => ?_)
    refine qn (pk [2, 3]) ?_
    refine qo 13 7 3071 rfl ?_
    refine wcl (tSl tInt 3) x0.Order (cl_fn cb136 rfl) (fun W hm => impl_copyInts_c2 W _ x0.Order (hm.rdS0 r20) s_0.2.1) (fun z68 => ?_)
    refine WM_form (n := 0) rfl ?_
    rintro A69 c70 rfl m71
    refine qn (pk [3, 4]) ?_
    let K10 : List Value := [.slice A57 x0.Store.Segments.length c58, .int .i64 x0.Store.Now, .int .i64 x0.Cursor, .slice A69 x0.Order.length c70, .slice none 0 0, .slice none 0 0, .slice none 0 0, .int .i64 x0.Steps]
    refine qt 13 10 4095 rfl (fun W hm => rv_build (cs := K10) rfl (by kernel_rfl)) ?_
    refine qo 13 12 8191 rfl ?_
    refine sb 0 K10 [iOwn (tSl tInt 3) [.slice A69 x0.Order.length c70] x0.Order, iOwn (tSl (tSl tyVersion 191) 131) [.slice A57 x0.Store.Segments.length c58] x0.Store.Segments, iBox p42 47 K7, iBox p41 47 K8] (pk [1, 0, 2, 3, 4]) type47 ?_
    refine qn (pk [3, 4]) ?_
    refine QB_done (by kernel_rfl) ?_
    exact QM_cut_normal (p67, A57, c58, A69, c70) sl3 (fun W hm => hm) trivial
   exact QBs_nil
  refine qc 13 2939 rfl ?_ ?_
  ·
   refine WM_alloc type47 rfl (Wd_none rfl) (by decide) (fun p73 => ?_)
   refine qn (pk [1, 2]) ?_
   refine qo 13 2 2943 rfl ?_
   refine wcs tyStore x0.Store (cl_fn cb173 rfl) (fun W hm => impl_copyStore_c2 W _ x0.Store (tyStore_mk (x := x0.Store) (hm.rdS0 r15)) s_0.1) (fun z74 => ?_)
   refine tyStore_sp ?_
   rintro v75 rfl
   refine WM_form (n := 0) rfl ?_
   rintro A76 c77 rfl m78
   refine qn (pk [2, 3]) ?_
   refine qo 13 7 3071 rfl ?_
   refine wcl (tSl tInt 3) x0.Order (cl_fn cb136 rfl) (fun W hm => impl_copyInts_c2 W _ x0.Order (hm.rdS0 r20) s_0.2.1) (fun z80 => ?_)
   refine WM_form (n := 0) rfl ?_
   rintro A81 c82 rfl m83
   refine qn (pk [3, 4]) ?_
   let K11 : List Value := [.slice A76 x0.Store.Segments.length c77, .int .i64 x0.Store.Now, .int .i64 x0.Cursor, .slice A81 x0.Order.length c82, .slice none 0 0, .slice none 0 0, .slice none 0 0, .int .i64 x0.Steps]
   refine qt 13 10 4095 rfl (fun W hm => rv_build (cs := K11) rfl (by kernel_rfl)) ?_
   refine qo 13 12 8191 rfl ?_
   refine sb 0 K11 [iOwn (tSl tInt 3) [.slice A81 x0.Order.length c82] x0.Order, iOwn (tSl (tSl tyVersion 191) 131) [.slice A76 x0.Store.Segments.length c77] x0.Store.Segments, iBox p42 47 K7, iBox p41 47 K8] (pk [2, 0, 1, 3, 4]) type47 ?_
   refine qn (pk [3, 4]) ?_
   refine QB_done (by kernel_rfl) ?_
   exact QM_cut_normal (p73, A76, c77, A81, c82) sl3 (fun W hm => hm) trivial
  exact QBs_nil
 ·
  rintro ⟨p54, A45, c46, A50, c51⟩ -
  let I30 : It := iOwn (tSl tInt 3) [.slice A50 x0.Order.length c51] x0.Order
  let I31 : It := iOwn (tSl (tSl tyVersion 191) 131) [.slice A45 x0.Store.Segments.length c46] x0.Store.Segments
  show QM 67 _ _ _ .normal [(1, .pointer (some (⟨p41, 0, none⟩ : Addr))), (2, .pointer (some (⟨p42, 0, none⟩ : Addr))), (3, .pointer (some (⟨p54, 0, none⟩ : Addr)))] [iBox p54 47 [.slice A45 x0.Store.Segments.length c46, .int .i64 x0.Store.Now, .int .i64 x0.Cursor, .slice A50 x0.Order.length c51, .slice none 0 0, .slice none 0 0, .slice none 0 0, .int .i64 x0.Steps], I30, I31, iBox p42 47 K7, iBox p41 47 K8]
  refine QM_len (n := 1) rfl ?_
  intro m85 m86
  refine QM_len (n := 2) rfl ?_
  intro m87 m88
  refine QM_then (CM_seq (sr ?_))
  refine wv (vf underlying47 rfl type43) ?_
  refine wv (vl 4 4 underlying43) ?_
  refine wv (vlen underlying43) ?_
  refine wm (nt' (CM_block ?_))
  refine CM_items (fun W hm => (hm.addNil (E := tyActive) (e := 64)).last) ?_
  let F1 := fun k (s : (List DActive)) => impl_copyEngine_b1 x0 k s
  let R4 := rng (R := DEngine) F1
  refine CM_loop (σ := Nat × ((List DActive)) × (Option Addr × Nat)) (fun s => [(1, .pointer (some (⟨p41, 0, none⟩ : Addr))), (2, .pointer (some (⟨p42, 0, none⟩ : Addr))), (3, .pointer (some (⟨p54, 0, none⟩ : Addr))), (22, .slice A22 x0.Active.length c23), (23, .int .i64 ((x0.Active.length : Nat) : Int)), (24, .int .i64 ((s.1 : Nat) : Int))]) (fun s => [iBox p54 47 [.slice A45 x0.Store.Segments.length c46, .int .i64 x0.Store.Now, .int .i64 x0.Cursor, .slice A50 x0.Order.length c51, .slice s.2.2.1 s.2.1.length s.2.2.2, .slice none 0 0, .slice none 0 0, .int .i64 x0.Steps], I30, I31, iBox p42 47 K7, iBox p41 47 K8, iOwn (tSl tyActive 64) [.slice s.2.2.1 s.2.1.length s.2.2.2] s.2.1]) (fun s => s.1 ≤ x0.Active.length ∧ R4 (x0.Active.length - s.1) s.1 s.2.1 = R4 (x0.Active.length - 0) 0 [] ∧ s.2.1.length ≤ 0 + s.1) (fun s => x0.Active.length - s.1) (0, [], (none, 0)) sl6 (fun W hm => hm) ⟨(by omega), rfl, Nat.le_refl _⟩ ?_
  rintro ⟨k89, d92, ⟨A93, c94⟩⟩ H97
  obtain ⟨hk95, hF96, hi98⟩ : k89 ≤ x0.Active.length ∧ R4 (x0.Active.length - k89) k89 d92 = R4 (x0.Active.length - 0) 0 [] ∧ d92.length ≤ 0 + k89 := H97
  let K12 : List Value := [.slice A45 x0.Store.Segments.length c46, .int .i64 x0.Store.Now, .int .i64 x0.Cursor, .slice A50 x0.Order.length c51, .slice A93 d92.length c94, .slice none 0 0, .slice none 0 0, .int .i64 x0.Steps]
  let I32 : It := iOwn (tSl tyActive 64) [.slice A93 d92.length c94] d92
  show CM Tryz.prog 67 _ _ _ _ [(1, .pointer (some (⟨p41, 0, none⟩ : Addr))), (2, .pointer (some (⟨p42, 0, none⟩ : Addr))), (3, .pointer (some (⟨p54, 0, none⟩ : Addr))), (22, .slice A22 x0.Active.length c23), (23, .int .i64 ((x0.Active.length : Nat) : Int)), (24, .int .i64 ((k89 : Nat) : Int))] [iBox p54 47 K12, I30, I31, iBox p42 47 K7, iBox p41 47 K8, I32]
  refine sr ?_
  refine wv vlss ?_
  refine nt' (CM_seq ?_)
  by_cases hl99 : k89 < x0.Active.length
  ·have g100 : (decide (((k89 : Nat) : Int) < ((x0.Active.length : Nat) : Int))) = true := decide_eq_true (by omega)
   refine CM_condT rfl g100 ?_
   refine CM_skip (QM_then (CM_seq (CM_block (sr ?_))))
   obtain ⟨a101, rfl, hb102, he103⟩ := q24 (by omega)
   refine wv (vix 10 k89 underlying43 type64) ?_
   obtain ⟨_, e113, hc104⟩ := he103 k89 _ (gt_some (show k89 < x0.Active.length from by omega))
   obtain ⟨v105, v107, v109, v111, rfl, r106, r108, r110, r112⟩ := tyActive_rd e113
   have l114 : ((gt x0.Active k89).Query.Conds).length ≤ 68719476736 := (s_0.2.2.1.2 _ (gt_mem (show k89 < x0.Active.length from by omega))).1.1
   have l115 : ((gt x0.Active k89).Query.Out).length ≤ 68719476736 := (s_0.2.2.1.2 _ (gt_mem (show k89 < x0.Active.length from by omega))).1.2
   have l116 : ((gt x0.Active k89).Todo).length ≤ 68719476736 := (s_0.2.2.1.2 _ (gt_mem (show k89 < x0.Active.length from by omega))).2.1
   have l117 : ((gt x0.Active k89).Rows).length ≤ 68719476736 := (s_0.2.2.1.2 _ (gt_mem (show k89 < x0.Active.length from by omega))).2.2.1
   have r122 := r106
   obtain ⟨m118, A119, c120, rfl, q121⟩ := r106
   have r127 := r108
   obtain ⟨m123, A124, c125, rfl, q126⟩ := r108
   have r132 := r110
   obtain ⟨m128, A129, c130, rfl, q131⟩ := r110
   have r137 := r112
   obtain ⟨m133, A134, c135, rfl, q136⟩ := r112
   let K13 : List Value := [.int .i64 ((gt x0.Active k89).Query.Id), .int .i64 ((gt x0.Active k89).Query.Tenant), .slice A119 ((gt x0.Active k89).Query.Conds).length c120, .slice A124 ((gt x0.Active k89).Query.Out).length c125, .int .i64 ((gt x0.Active k89).Time), .slice A129 ((gt x0.Active k89).Todo).length c130, .int .i64 ((gt x0.Active k89).Age), .int .i64 ((gt x0.Active k89).Sent), .int .i64 ((gt x0.Active k89).Cap), .slice A134 ((gt x0.Active k89).Rows).length c135]
   refine wv (fun W hm => rv_loadN (cs := K13) underlying64 type64 rfl rfl (hm.elCells (show (a101.add (k89 * 10)).block < w.heap.size from by rw [add_block]; exact hb102.1) hc104)) ?_
   refine WM_alloc type64 rfl (Wd_none rfl) (by decide) (fun p138 => ?_)
   let K14 : List Value := [.slice A12 x0.Store.Segments.length c13, .int .i64 x0.Store.Now, .int .i64 x0.Cursor, .slice A17 x0.Order.length c18, .slice (some a101) x0.Active.length c23, .slice A27 x0.Done.length c28, .slice A32 x0.Ledger.length c33, .int .i64 x0.Steps]
   refine sb 0 K13 [iBox p54 47 K12, I30, I31, iBox p42 47 K7, iBox p41 47 K14, I32] (fun W hm => hm) type64 ?_
   refine nt' ?_
   refine CM_cut (σ := Option Addr × Nat) (fun s => [(1, .pointer (some (⟨p41, 0, none⟩ : Addr))), (2, .pointer (some (⟨p42, 0, none⟩ : Addr))), (3, .pointer (some (⟨p54, 0, none⟩ : Addr))), (22, .slice (some a101) x0.Active.length c23), (23, .int .i64 ((x0.Active.length : Nat) : Int)), (24, .int .i64 ((k89 : Nat) : Int))]) (fun s => [iBox p54 47 [.slice A45 x0.Store.Segments.length c46, .int .i64 x0.Store.Now, .int .i64 x0.Cursor, .slice A50 x0.Order.length c51, .slice s.1 (d92 ++ [(gt x0.Active k89)]).length s.2, .slice none 0 0, .slice none 0 0, .int .i64 x0.Steps], iOwn (tSl tyActive 64) [.slice s.1 (d92 ++ [(gt x0.Active k89)]).length s.2] (d92 ++ [(gt x0.Active k89)]), iBox p138 64 K13, I30, I31, iBox p42 47 K7, iBox p41 47 K14]) (fun _ => True) ?_ ?_
   ·
    refine rb 8 (s := [iBox p138 64 K13, I30, I31, iBox p42 47 K7, iBox p41 47 K14]) (pk [0, 2, 3, 4, 5]) ?_
    refine qt 8 0 1 rfl (vf underlying47 rfl type43) ?_
    refine qt 8 2 5 rfl (fun W hm => rv_loadN (cs := K13) underlying64 type64 rfl rfl (hm.boxCells (n := 0) rfl)) ?_
    refine qa [1, 3] ?_
    refine qc 8 7 rfl ?_ ?_
    ·
     refine wv (vl 1 4 underlying43) ?_
     refine qn (pk [0, 2, 3, 4, 5]) ?_
     refine qo 8 3 15 rfl ?_
     refine wcs tyActive (gt x0.Active k89) (cl_fn cb174 rfl) (fun W hm => impl_copyActive_c2 W _ (gt x0.Active k89) (tyActive_mk (x := (gt x0.Active k89)) (hm.rdS0 r122) (hm.rdS0 r127) (hm.rdS0 r132) (hm.rdS0 r137)) (s_0.2.2.1.2 _ (gt_mem (show k89 < x0.Active.length from by omega)))) (fun z166 => ?_)
     refine tyActive_sp ?_
     rintro ⟨v167, v168, v169, v170⟩ rfl
     refine WM_form (n := 0) rfl ?_
     rintro A171 c172 rfl m173
     refine WM_form (n := 1) rfl ?_
     rintro A175 c176 rfl m177
     refine WM_form (n := 2) rfl ?_
     rintro A179 c180 rfl m181
     refine WM_form (n := 3) rfl ?_
     rintro A183 c184 rfl m185
     refine qn (pk [4, 6, 7, 8, 9]) ?_
     refine qo 8 4 31 rfl ?_
     let K15 : List Value := [.int .i64 ((gt x0.Active k89).Query.Id), .int .i64 ((gt x0.Active k89).Query.Tenant), .slice A171 ((gt x0.Active k89).Query.Conds).length c172, .slice A175 ((gt x0.Active k89).Query.Out).length c176, .int .i64 ((gt x0.Active k89).Time), .slice A179 ((gt x0.Active k89).Todo).length c180, .int .i64 ((gt x0.Active k89).Age), .int .i64 ((gt x0.Active k89).Sent), .int .i64 ((gt x0.Active k89).Cap), .slice A183 ((gt x0.Active k89).Rows).length c184]
     refine WM_build (cs := K15) underlying43 type64 rfl (by decide) (by decide) rfl (by kernel_rfl) (Wd_none rfl) (by decide) (fun p187 => ?_)
     refine qn (pk [5, 7, 8, 9, 10]) ?_
     refine qo 8 5 63 rfl ?_
     refine ap1 tyActive 64 (.slice A93 d92.length c94) d92 (gt x0.Active k89) [iOwn (tSl tyCond 201) [.slice A171 ((gt x0.Active k89).Query.Conds).length c172] ((gt x0.Active k89).Query.Conds), iOwn (tSl tInt 3) [.slice A175 ((gt x0.Active k89).Query.Out).length c176] ((gt x0.Active k89).Query.Out), iOwn (tSl tInt 3) [.slice A179 ((gt x0.Active k89).Todo).length c180] ((gt x0.Active k89).Todo), iOwn (tSl tyRow 73) [.slice A183 ((gt x0.Active k89).Rows).length c184] ((gt x0.Active k89).Rows)] [iBox p138 64 K13, iBox p54 47 K12, I30, I31, iBox p42 47 K7, iBox p41 47 K14] K15 (pk [0, 11, 1, 2, 3, 4, 5, 6, 7, 8, 9, 10]) (fun _ _ hs => Els.single (tyActive_join (x := (gt x0.Active k89)) hs)) underlying43 type64 (show (d92.length + 1) * 144 ≤ 140737488355328 from by omega) (fun v188 => ?_)
     refine WM_form (n := 0) rfl ?_
     rintro A189 c190 rfl m191
     refine qn (pk [1, 3, 4, 5, 6]) ?_
     refine qt 8 6 127 rfl (vf underlying47 rfl type43) ?_
     refine qo 8 7 255 rfl ?_
     refine sb 4 [.slice A45 x0.Store.Segments.length c46, .int .i64 x0.Store.Now, .int .i64 x0.Cursor, .slice A50 x0.Order.length c51, .slice A189 (d92 ++ [(gt x0.Active k89)]).length c190, .slice none 0 0, .slice none 0 0, .int .i64 x0.Steps] [iOwn (tSl tyActive 64) [.slice A189 (d92 ++ [(gt x0.Active k89)]).length c190] (d92 ++ [(gt x0.Active k89)]), iBox p138 64 K13, I30, I31, iBox p42 47 K7, iBox p41 47 K14] (pk [2, 0, 1, 3, 4, 5, 6]) type43 ?_
     refine qn (pk [2, 3, 4, 5, 6]) ?_
     refine QB_done (by kernel_rfl) ?_
     exact QM_cut_normal (A189, c190) sl6 (fun W hm => hm) trivial
    refine qc 8 13 rfl ?_ ?_
    ·
     refine wcs tyActive (gt x0.Active k89) (cl_fn cb174 rfl) (fun W hm => impl_copyActive_c2 W _ (gt x0.Active k89) (tyActive_mk (x := (gt x0.Active k89)) (hm.rdS0 r122) (hm.rdS0 r127) (hm.rdS0 r132) (hm.rdS0 r137)) (s_0.2.2.1.2 _ (gt_mem (show k89 < x0.Active.length from by omega)))) (fun z193 => ?_)
     refine tyActive_sp ?_
     rintro ⟨v194, v195, v196, v197⟩ rfl
     refine WM_form (n := 0) rfl ?_
     rintro A198 c199 rfl m200
     refine WM_form (n := 1) rfl ?_
     rintro A202 c203 rfl m204
     refine WM_form (n := 2) rfl ?_
     rintro A206 c207 rfl m208
     refine WM_form (n := 3) rfl ?_
     rintro A210 c211 rfl m212
     refine qn (pk [4, 6, 7, 8, 9]) ?_
     refine qa [1, 4] ?_
     refine qc 8 15 rfl ?_ ?_
     ·
      refine wv (vl 5 4 underlying43) ?_
      refine qn (pk [4, 6, 7, 8, 9]) ?_
      refine qo 8 4 31 rfl ?_
      let K16 : List Value := [.int .i64 ((gt x0.Active k89).Query.Id), .int .i64 ((gt x0.Active k89).Query.Tenant), .slice A198 ((gt x0.Active k89).Query.Conds).length c199, .slice A202 ((gt x0.Active k89).Query.Out).length c203, .int .i64 ((gt x0.Active k89).Time), .slice A206 ((gt x0.Active k89).Todo).length c207, .int .i64 ((gt x0.Active k89).Age), .int .i64 ((gt x0.Active k89).Sent), .int .i64 ((gt x0.Active k89).Cap), .slice A210 ((gt x0.Active k89).Rows).length c211]
      refine WM_build (cs := K16) underlying43 type64 rfl (by decide) (by decide) rfl (by kernel_rfl) (Wd_none rfl) (by decide) (fun p214 => ?_)
      refine qn (pk [5, 7, 8, 9, 10]) ?_
      refine qo 8 5 63 rfl ?_
      refine ap1 tyActive 64 (.slice A93 d92.length c94) d92 (gt x0.Active k89) [iOwn (tSl tyCond 201) [.slice A198 ((gt x0.Active k89).Query.Conds).length c199] ((gt x0.Active k89).Query.Conds), iOwn (tSl tInt 3) [.slice A202 ((gt x0.Active k89).Query.Out).length c203] ((gt x0.Active k89).Query.Out), iOwn (tSl tInt 3) [.slice A206 ((gt x0.Active k89).Todo).length c207] ((gt x0.Active k89).Todo), iOwn (tSl tyRow 73) [.slice A210 ((gt x0.Active k89).Rows).length c211] ((gt x0.Active k89).Rows)] [iBox p138 64 K13, iBox p54 47 K12, I30, I31, iBox p42 47 K7, iBox p41 47 K14] K16 (pk [0, 11, 1, 2, 3, 4, 5, 6, 7, 8, 9, 10]) (fun _ _ hs => Els.single (tyActive_join (x := (gt x0.Active k89)) hs)) underlying43 type64 (show (d92.length + 1) * 144 ≤ 140737488355328 from by omega) (fun v215 => ?_)
      refine WM_form (n := 0) rfl ?_
      rintro A216 c217 rfl m218
      refine qn (pk [1, 3, 4, 5, 6]) ?_
      refine qt 8 6 127 rfl (vf underlying47 rfl type43) ?_
      refine qo 8 7 255 rfl ?_
      refine sb 4 [.slice A45 x0.Store.Segments.length c46, .int .i64 x0.Store.Now, .int .i64 x0.Cursor, .slice A50 x0.Order.length c51, .slice A216 (d92 ++ [(gt x0.Active k89)]).length c217, .slice none 0 0, .slice none 0 0, .int .i64 x0.Steps] [iOwn (tSl tyActive 64) [.slice A216 (d92 ++ [(gt x0.Active k89)]).length c217] (d92 ++ [(gt x0.Active k89)]), iBox p138 64 K13, I30, I31, iBox p42 47 K7, iBox p41 47 K14] (pk [2, 0, 1, 3, 4, 5, 6]) type43 ?_
      refine qn (pk [2, 3, 4, 5, 6]) ?_
      refine QB_done (by kernel_rfl) ?_
      exact QM_cut_normal (A216, c217) sl6 (fun W hm => hm) trivial
     refine qc 8 29 rfl ?_ ?_
     ·
      let K17 : List Value := [.int .i64 ((gt x0.Active k89).Query.Id), .int .i64 ((gt x0.Active k89).Query.Tenant), .slice A198 ((gt x0.Active k89).Query.Conds).length c199, .slice A202 ((gt x0.Active k89).Query.Out).length c203, .int .i64 ((gt x0.Active k89).Time), .slice A206 ((gt x0.Active k89).Todo).length c207, .int .i64 ((gt x0.Active k89).Age), .int .i64 ((gt x0.Active k89).Sent), .int .i64 ((gt x0.Active k89).Cap), .slice A210 ((gt x0.Active k89).Rows).length c211]
      refine WM_build (cs := K17) underlying43 type64 rfl (by decide) (by decide) rfl (by kernel_rfl) (Wd_none rfl) (by decide) (fun p220 => ?_)
      refine qn (pk [5, 7, 8, 9, 10]) ?_
      refine qo 8 1 31 rfl ?_
      refine wv (vl 6 4 underlying43) ?_
      refine qn (pk [5, 7, 8, 9, 10]) ?_
      refine qo 8 5 63 rfl ?_
      refine ap1 tyActive 64 (.slice A93 d92.length c94) d92 (gt x0.Active k89) [iOwn (tSl tyCond 201) [.slice A198 ((gt x0.Active k89).Query.Conds).length c199] ((gt x0.Active k89).Query.Conds), iOwn (tSl tInt 3) [.slice A202 ((gt x0.Active k89).Query.Out).length c203] ((gt x0.Active k89).Query.Out), iOwn (tSl tInt 3) [.slice A206 ((gt x0.Active k89).Todo).length c207] ((gt x0.Active k89).Todo), iOwn (tSl tyRow 73) [.slice A210 ((gt x0.Active k89).Rows).length c211] ((gt x0.Active k89).Rows)] [iBox p138 64 K13, iBox p54 47 K12, I30, I31, iBox p42 47 K7, iBox p41 47 K14] K17 (pk [0, 11, 1, 2, 3, 4, 5, 6, 7, 8, 9, 10]) (fun _ _ hs => Els.single (tyActive_join (x := (gt x0.Active k89)) hs)) underlying43 type64 (show (d92.length + 1) * 144 ≤ 140737488355328 from by omega) (fun v221 => ?_)
      refine WM_form (n := 0) rfl ?_
      rintro A222 c223 rfl m224
      refine qn (pk [1, 3, 4, 5, 6]) ?_
      refine qt 8 6 127 rfl (vf underlying47 rfl type43) ?_
      refine qo 8 7 255 rfl ?_
      refine sb 4 [.slice A45 x0.Store.Segments.length c46, .int .i64 x0.Store.Now, .int .i64 x0.Cursor, .slice A50 x0.Order.length c51, .slice A222 (d92 ++ [(gt x0.Active k89)]).length c223, .slice none 0 0, .slice none 0 0, .int .i64 x0.Steps] [iOwn (tSl tyActive 64) [.slice A222 (d92 ++ [(gt x0.Active k89)]).length c223] (d92 ++ [(gt x0.Active k89)]), iBox p138 64 K13, I30, I31, iBox p42 47 K7, iBox p41 47 K14] (pk [2, 0, 1, 3, 4, 5, 6]) type43 ?_
      refine qn (pk [2, 3, 4, 5, 6]) ?_
      refine QB_done (by kernel_rfl) ?_
      exact QM_cut_normal (A222, c223) sl6 (fun W hm => hm) trivial
     exact QBs_nil
    exact QBs_nil
   ·
    rintro ⟨A162, c163⟩ -
    show QM 67 _ _ _ .normal [(1, .pointer (some (⟨p41, 0, none⟩ : Addr))), (2, .pointer (some (⟨p42, 0, none⟩ : Addr))), (3, .pointer (some (⟨p54, 0, none⟩ : Addr))), (22, .slice (some a101) x0.Active.length c23), (23, .int .i64 ((x0.Active.length : Nat) : Int)), (24, .int .i64 ((k89 : Nat) : Int))] [iBox p54 47 [.slice A45 x0.Store.Segments.length c46, .int .i64 x0.Store.Now, .int .i64 x0.Cursor, .slice A50 x0.Order.length c51, .slice A162 (d92 ++ [(gt x0.Active k89)]).length c163, .slice none 0 0, .slice none 0 0, .int .i64 x0.Steps], iOwn (tSl tyActive 64) [.slice A162 (d92 ++ [(gt x0.Active k89)]).length c163] (d92 ++ [(gt x0.Active k89)]), iBox p138 64 K13, I30, I31, iBox p42 47 K7, iBox p41 47 K14]
    refine QM_len (n := 1) rfl ?_
    intro m226 m227
    refine QM_block_normal (QM_then (CM_region ?_))
    refine wv (vadN k89 1 (by omega)) ?_
    refine wm (WM_nil ?_)
    have hn228 := rng_next (R := DEngine) (body := F1) (k := k89) (s := d92) (s' := (d92 ++ [(gt x0.Active k89)])) (show k89 < x0.Active.length from by omega) (show impl_copyEngine_b1 x0 k89 d92 = Sum.inr (d92 ++ [(gt x0.Active k89)]) from by unfold impl_copyEngine_b1; exact rfl) hF96
    exact QM_round (k89 + 1, (d92 ++ [(gt x0.Active k89)]), (A162, c163)) sl6 (pk [0, 3, 4, 5, 6, 1]) ⟨(by omega), hn228, (show (d92 ++ [(gt x0.Active k89)]).length ≤ 0 + (k89 + 1) from by first | omega | (simp only [List.length_append, List.length_cons, List.length_nil] at *; omega))⟩ (rl (by omega))
  ·have g100 : (decide (((k89 : Nat) : Int) < ((x0.Active.length : Nat) : Int))) = false := decide_eq_false (by omega)
   refine CM_condF rfl g100 ?_
   refine CM_exit (QM_then_exit (QM_then_exit ?_))
   have hE229 : R4 (x0.Active.length - 0) 0 [] = Sum.inr d92 := rng_end hl99 hF96
   refine QM_block_hit (QM_then (CM_seq (sr ?_)))
   refine wv (vf underlying47 rfl type44) ?_
   refine wv (vl 4 5 underlying44) ?_
   refine wv (vlen underlying44) ?_
   refine wm (nt' (CM_block ?_))
   refine CM_items (fun W hm => (hm.addNil (E := tyFinished) (e := 37)).last) ?_
   let F2 := fun k (s : (List DFinished)) => impl_copyEngine_b2 x0 k s
   let R5 := rng (R := DEngine) F2
   refine CM_loop (σ := Nat × ((List DFinished)) × (Option Addr × Nat)) (fun s => [(1, .pointer (some (⟨p41, 0, none⟩ : Addr))), (2, .pointer (some (⟨p42, 0, none⟩ : Addr))), (3, .pointer (some (⟨p54, 0, none⟩ : Addr))), (37, .slice A27 x0.Done.length c28), (38, .int .i64 ((x0.Done.length : Nat) : Int)), (39, .int .i64 ((s.1 : Nat) : Int))]) (fun s => [iBox p54 47 [.slice A45 x0.Store.Segments.length c46, .int .i64 x0.Store.Now, .int .i64 x0.Cursor, .slice A50 x0.Order.length c51, .slice A93 d92.length c94, .slice s.2.2.1 s.2.1.length s.2.2.2, .slice none 0 0, .int .i64 x0.Steps], I30, I31, iBox p42 47 K7, iBox p41 47 K8, I32, iOwn (tSl tyFinished 37) [.slice s.2.2.1 s.2.1.length s.2.2.2] s.2.1]) (fun s => s.1 ≤ x0.Done.length ∧ R5 (x0.Done.length - s.1) s.1 s.2.1 = R5 (x0.Done.length - 0) 0 [] ∧ s.2.1.length ≤ 0 + s.1) (fun s => x0.Done.length - s.1) (0, [], (none, 0)) sl6 (fun W hm => hm) ⟨(by omega), rfl, Nat.le_refl _⟩ ?_
   rintro ⟨k230, d233, ⟨A234, c235⟩⟩ H238
   obtain ⟨hk236, hF237, hi239⟩ : k230 ≤ x0.Done.length ∧ R5 (x0.Done.length - k230) k230 d233 = R5 (x0.Done.length - 0) 0 [] ∧ d233.length ≤ 0 + k230 := H238
   let K18 : List Value := [.slice A45 x0.Store.Segments.length c46, .int .i64 x0.Store.Now, .int .i64 x0.Cursor, .slice A50 x0.Order.length c51, .slice A93 d92.length c94, .slice A234 d233.length c235, .slice none 0 0, .int .i64 x0.Steps]
   let I33 : It := iOwn (tSl tyFinished 37) [.slice A234 d233.length c235] d233
   show CM Tryz.prog 67 _ _ _ _ [(1, .pointer (some (⟨p41, 0, none⟩ : Addr))), (2, .pointer (some (⟨p42, 0, none⟩ : Addr))), (3, .pointer (some (⟨p54, 0, none⟩ : Addr))), (37, .slice A27 x0.Done.length c28), (38, .int .i64 ((x0.Done.length : Nat) : Int)), (39, .int .i64 ((k230 : Nat) : Int))] [iBox p54 47 K18, I30, I31, iBox p42 47 K7, iBox p41 47 K8, I32, I33]
   refine sr ?_
   refine wv vlss ?_
   refine nt' (CM_seq ?_)
   by_cases hl240 : k230 < x0.Done.length
   ·have g241 : (decide (((k230 : Nat) : Int) < ((x0.Done.length : Nat) : Int))) = true := decide_eq_true (by omega)
    refine CM_condT rfl g241 ?_
    refine CM_skip (QM_then (CM_seq (CM_block (sr ?_))))
    obtain ⟨a242, rfl, hb243, he244⟩ := q29 (by omega)
    refine wv (vix 7 k230 underlying44 type37) ?_
    obtain ⟨_, e252, hc245⟩ := he244 k230 _ (gt_some (show k230 < x0.Done.length from by omega))
    obtain ⟨v246, v248, v250, rfl, r247, r249, r251⟩ := tyFinished_rd e252
    have l253 : ((gt x0.Done k230).Query.Conds).length ≤ 68719476736 := (s_0.2.2.2.1.2 _ (gt_mem (show k230 < x0.Done.length from by omega))).1.1
    have l254 : ((gt x0.Done k230).Query.Out).length ≤ 68719476736 := (s_0.2.2.2.1.2 _ (gt_mem (show k230 < x0.Done.length from by omega))).1.2
    have l255 : ((gt x0.Done k230).Rows).length ≤ 68719476736 := (s_0.2.2.2.1.2 _ (gt_mem (show k230 < x0.Done.length from by omega))).2.1
    have r260 := r247
    obtain ⟨m256, A257, c258, rfl, q259⟩ := r247
    have r265 := r249
    obtain ⟨m261, A262, c263, rfl, q264⟩ := r249
    have r270 := r251
    obtain ⟨m266, A267, c268, rfl, q269⟩ := r251
    let K19 : List Value := [.int .i64 ((gt x0.Done k230).Query.Id), .int .i64 ((gt x0.Done k230).Query.Tenant), .slice A257 ((gt x0.Done k230).Query.Conds).length c258, .slice A262 ((gt x0.Done k230).Query.Out).length c263, .int .i64 ((gt x0.Done k230).Time), .int .i64 ((gt x0.Done k230).Steps), .slice A267 ((gt x0.Done k230).Rows).length c268]
    refine wv (fun W hm => rv_loadN (cs := K19) underlying37 type37 rfl rfl (hm.elCells (show (a242.add (k230 * 7)).block < w.heap.size from by rw [add_block]; exact hb243.1) hc245)) ?_
    refine WM_alloc type37 rfl (Wd_none rfl) (by decide) (fun p271 => ?_)
    let K20 : List Value := [.slice A12 x0.Store.Segments.length c13, .int .i64 x0.Store.Now, .int .i64 x0.Cursor, .slice A17 x0.Order.length c18, .slice A22 x0.Active.length c23, .slice (some a242) x0.Done.length c28, .slice A32 x0.Ledger.length c33, .int .i64 x0.Steps]
    refine sb 0 K19 [iBox p54 47 K18, I30, I31, iBox p42 47 K7, iBox p41 47 K20, I32, I33] (fun W hm => hm) type37 ?_
    refine nt' ?_
    refine CM_cut (σ := Option Addr × Nat) (fun s => [(1, .pointer (some (⟨p41, 0, none⟩ : Addr))), (2, .pointer (some (⟨p42, 0, none⟩ : Addr))), (3, .pointer (some (⟨p54, 0, none⟩ : Addr))), (37, .slice (some a242) x0.Done.length c28), (38, .int .i64 ((x0.Done.length : Nat) : Int)), (39, .int .i64 ((k230 : Nat) : Int))]) (fun s => [iBox p54 47 [.slice A45 x0.Store.Segments.length c46, .int .i64 x0.Store.Now, .int .i64 x0.Cursor, .slice A50 x0.Order.length c51, .slice A93 d92.length c94, .slice s.1 (d233 ++ [(gt x0.Done k230)]).length s.2, .slice none 0 0, .int .i64 x0.Steps], iOwn (tSl tyFinished 37) [.slice s.1 (d233 ++ [(gt x0.Done k230)]).length s.2] (d233 ++ [(gt x0.Done k230)]), iBox p271 37 K19, I30, I31, iBox p42 47 K7, iBox p41 47 K20, I32]) (fun _ => True) ?_ ?_
    ·
     refine rb 8 (s := [iBox p271 37 K19, I30, I31, iBox p42 47 K7, iBox p41 47 K20, I32]) (pk [0, 2, 3, 4, 5, 6]) ?_
     refine qt 8 0 1 rfl (vf underlying47 rfl type44) ?_
     refine qt 8 2 5 rfl (fun W hm => rv_loadN (cs := K19) underlying37 type37 rfl rfl (hm.boxCells (n := 0) rfl)) ?_
     refine qa [1, 3] ?_
     refine qc 8 7 rfl ?_ ?_
     ·
      refine wv (vl 1 5 underlying44) ?_
      refine qn (pk [0, 2, 3, 4, 5, 6]) ?_
      refine qo 8 3 15 rfl ?_
      refine wcs tyFinished (gt x0.Done k230) (cl_fn cb86 rfl) (fun W hm => impl_copyFinished_c2 W _ (gt x0.Done k230) (tyFinished_mk (x := (gt x0.Done k230)) (hm.rdS0 r260) (hm.rdS0 r265) (hm.rdS0 r270)) (s_0.2.2.2.1.2 _ (gt_mem (show k230 < x0.Done.length from by omega)))) (fun z294 => ?_)
      refine tyFinished_sp ?_
      rintro ⟨v295, v296, v297⟩ rfl
      refine WM_form (n := 0) rfl ?_
      rintro A298 c299 rfl m300
      refine WM_form (n := 1) rfl ?_
      rintro A302 c303 rfl m304
      refine WM_form (n := 2) rfl ?_
      rintro A306 c307 rfl m308
      refine qn (pk [3, 5, 6, 7, 8, 9]) ?_
      refine qo 8 4 31 rfl ?_
      let K21 : List Value := [.int .i64 ((gt x0.Done k230).Query.Id), .int .i64 ((gt x0.Done k230).Query.Tenant), .slice A298 ((gt x0.Done k230).Query.Conds).length c299, .slice A302 ((gt x0.Done k230).Query.Out).length c303, .int .i64 ((gt x0.Done k230).Time), .int .i64 ((gt x0.Done k230).Steps), .slice A306 ((gt x0.Done k230).Rows).length c307]
      refine WM_build (cs := K21) underlying44 type37 rfl (by decide) (by decide) rfl (by kernel_rfl) (Wd_none rfl) (by decide) (fun p310 => ?_)
      refine qn (pk [4, 6, 7, 8, 9, 10]) ?_
      refine qo 8 5 63 rfl ?_
      refine ap1 tyFinished 37 (.slice A234 d233.length c235) d233 (gt x0.Done k230) [iOwn (tSl tyCond 201) [.slice A298 ((gt x0.Done k230).Query.Conds).length c299] ((gt x0.Done k230).Query.Conds), iOwn (tSl tInt 3) [.slice A302 ((gt x0.Done k230).Query.Out).length c303] ((gt x0.Done k230).Query.Out), iOwn (tSl tyRow 73) [.slice A306 ((gt x0.Done k230).Rows).length c307] ((gt x0.Done k230).Rows)] [iBox p271 37 K19, iBox p54 47 K18, I30, I31, iBox p42 47 K7, iBox p41 47 K20, I32] K21 (pk [0, 11, 1, 2, 3, 4, 5, 6, 7, 8, 9, 10]) (fun _ _ hs => Els.single (tyFinished_join (x := (gt x0.Done k230)) hs)) underlying44 type37 (show (d233.length + 1) * 104 ≤ 140737488355328 from by omega) (fun v311 => ?_)
      refine WM_form (n := 0) rfl ?_
      rintro A312 c313 rfl m314
      refine qn (pk [1, 3, 4, 5, 6, 7]) ?_
      refine qt 8 6 127 rfl (vf underlying47 rfl type44) ?_
      refine qo 8 7 255 rfl ?_
      refine sb 5 [.slice A45 x0.Store.Segments.length c46, .int .i64 x0.Store.Now, .int .i64 x0.Cursor, .slice A50 x0.Order.length c51, .slice A93 d92.length c94, .slice A312 (d233 ++ [(gt x0.Done k230)]).length c313, .slice none 0 0, .int .i64 x0.Steps] [iOwn (tSl tyFinished 37) [.slice A312 (d233 ++ [(gt x0.Done k230)]).length c313] (d233 ++ [(gt x0.Done k230)]), iBox p271 37 K19, I30, I31, iBox p42 47 K7, iBox p41 47 K20, I32] (pk [2, 0, 1, 3, 4, 5, 6, 7]) type44 ?_
      refine qn (pk [2, 3, 4, 5, 6, 7]) ?_
      refine QB_done (by kernel_rfl) ?_
      exact QM_cut_normal (A312, c313) sl6 (fun W hm => hm) trivial
     refine qc 8 13 rfl ?_ ?_
     ·
      refine wcs tyFinished (gt x0.Done k230) (cl_fn cb86 rfl) (fun W hm => impl_copyFinished_c2 W _ (gt x0.Done k230) (tyFinished_mk (x := (gt x0.Done k230)) (hm.rdS0 r260) (hm.rdS0 r265) (hm.rdS0 r270)) (s_0.2.2.2.1.2 _ (gt_mem (show k230 < x0.Done.length from by omega)))) (fun z316 => ?_)
      refine tyFinished_sp ?_
      rintro ⟨v317, v318, v319⟩ rfl
      refine WM_form (n := 0) rfl ?_
      rintro A320 c321 rfl m322
      refine WM_form (n := 1) rfl ?_
      rintro A324 c325 rfl m326
      refine WM_form (n := 2) rfl ?_
      rintro A328 c329 rfl m330
      refine qn (pk [3, 5, 6, 7, 8, 9]) ?_
      refine qa [1, 4] ?_
      refine qc 8 15 rfl ?_ ?_
      ·
       refine wv (vl 4 5 underlying44) ?_
       refine qn (pk [3, 5, 6, 7, 8, 9]) ?_
       refine qo 8 4 31 rfl ?_
       let K22 : List Value := [.int .i64 ((gt x0.Done k230).Query.Id), .int .i64 ((gt x0.Done k230).Query.Tenant), .slice A320 ((gt x0.Done k230).Query.Conds).length c321, .slice A324 ((gt x0.Done k230).Query.Out).length c325, .int .i64 ((gt x0.Done k230).Time), .int .i64 ((gt x0.Done k230).Steps), .slice A328 ((gt x0.Done k230).Rows).length c329]
       refine WM_build (cs := K22) underlying44 type37 rfl (by decide) (by decide) rfl (by kernel_rfl) (Wd_none rfl) (by decide) (fun p332 => ?_)
       refine qn (pk [4, 6, 7, 8, 9, 10]) ?_
       refine qo 8 5 63 rfl ?_
       refine ap1 tyFinished 37 (.slice A234 d233.length c235) d233 (gt x0.Done k230) [iOwn (tSl tyCond 201) [.slice A320 ((gt x0.Done k230).Query.Conds).length c321] ((gt x0.Done k230).Query.Conds), iOwn (tSl tInt 3) [.slice A324 ((gt x0.Done k230).Query.Out).length c325] ((gt x0.Done k230).Query.Out), iOwn (tSl tyRow 73) [.slice A328 ((gt x0.Done k230).Rows).length c329] ((gt x0.Done k230).Rows)] [iBox p271 37 K19, iBox p54 47 K18, I30, I31, iBox p42 47 K7, iBox p41 47 K20, I32] K22 (pk [0, 11, 1, 2, 3, 4, 5, 6, 7, 8, 9, 10]) (fun _ _ hs => Els.single (tyFinished_join (x := (gt x0.Done k230)) hs)) underlying44 type37 (show (d233.length + 1) * 104 ≤ 140737488355328 from by omega) (fun v333 => ?_)
       refine WM_form (n := 0) rfl ?_
       rintro A334 c335 rfl m336
       refine qn (pk [1, 3, 4, 5, 6, 7]) ?_
       refine qt 8 6 127 rfl (vf underlying47 rfl type44) ?_
       refine qo 8 7 255 rfl ?_
       refine sb 5 [.slice A45 x0.Store.Segments.length c46, .int .i64 x0.Store.Now, .int .i64 x0.Cursor, .slice A50 x0.Order.length c51, .slice A93 d92.length c94, .slice A334 (d233 ++ [(gt x0.Done k230)]).length c335, .slice none 0 0, .int .i64 x0.Steps] [iOwn (tSl tyFinished 37) [.slice A334 (d233 ++ [(gt x0.Done k230)]).length c335] (d233 ++ [(gt x0.Done k230)]), iBox p271 37 K19, I30, I31, iBox p42 47 K7, iBox p41 47 K20, I32] (pk [2, 0, 1, 3, 4, 5, 6, 7]) type44 ?_
       refine qn (pk [2, 3, 4, 5, 6, 7]) ?_
       refine QB_done (by kernel_rfl) ?_
       exact QM_cut_normal (A334, c335) sl6 (fun W hm => hm) trivial
      refine qc 8 29 rfl ?_ ?_
      ·
       let K23 : List Value := [.int .i64 ((gt x0.Done k230).Query.Id), .int .i64 ((gt x0.Done k230).Query.Tenant), .slice A320 ((gt x0.Done k230).Query.Conds).length c321, .slice A324 ((gt x0.Done k230).Query.Out).length c325, .int .i64 ((gt x0.Done k230).Time), .int .i64 ((gt x0.Done k230).Steps), .slice A328 ((gt x0.Done k230).Rows).length c329]
       refine WM_build (cs := K23) underlying44 type37 rfl (by decide) (by decide) rfl (by kernel_rfl) (Wd_none rfl) (by decide) (fun p338 => ?_)
       refine qn (pk [4, 6, 7, 8, 9, 10]) ?_
       refine qo 8 1 31 rfl ?_
       refine wv (vl 5 5 underlying44) ?_
       refine qn (pk [4, 6, 7, 8, 9, 10]) ?_
       refine qo 8 5 63 rfl ?_
       refine ap1 tyFinished 37 (.slice A234 d233.length c235) d233 (gt x0.Done k230) [iOwn (tSl tyCond 201) [.slice A320 ((gt x0.Done k230).Query.Conds).length c321] ((gt x0.Done k230).Query.Conds), iOwn (tSl tInt 3) [.slice A324 ((gt x0.Done k230).Query.Out).length c325] ((gt x0.Done k230).Query.Out), iOwn (tSl tyRow 73) [.slice A328 ((gt x0.Done k230).Rows).length c329] ((gt x0.Done k230).Rows)] [iBox p271 37 K19, iBox p54 47 K18, I30, I31, iBox p42 47 K7, iBox p41 47 K20, I32] K23 (pk [0, 11, 1, 2, 3, 4, 5, 6, 7, 8, 9, 10]) (fun _ _ hs => Els.single (tyFinished_join (x := (gt x0.Done k230)) hs)) underlying44 type37 (show (d233.length + 1) * 104 ≤ 140737488355328 from by omega) (fun v339 => ?_)
       refine WM_form (n := 0) rfl ?_
       rintro A340 c341 rfl m342
       refine qn (pk [1, 3, 4, 5, 6, 7]) ?_
       refine qt 8 6 127 rfl (vf underlying47 rfl type44) ?_
       refine qo 8 7 255 rfl ?_
       refine sb 5 [.slice A45 x0.Store.Segments.length c46, .int .i64 x0.Store.Now, .int .i64 x0.Cursor, .slice A50 x0.Order.length c51, .slice A93 d92.length c94, .slice A340 (d233 ++ [(gt x0.Done k230)]).length c341, .slice none 0 0, .int .i64 x0.Steps] [iOwn (tSl tyFinished 37) [.slice A340 (d233 ++ [(gt x0.Done k230)]).length c341] (d233 ++ [(gt x0.Done k230)]), iBox p271 37 K19, I30, I31, iBox p42 47 K7, iBox p41 47 K20, I32] (pk [2, 0, 1, 3, 4, 5, 6, 7]) type44 ?_
       refine qn (pk [2, 3, 4, 5, 6, 7]) ?_
       refine QB_done (by kernel_rfl) ?_
       exact QM_cut_normal (A340, c341) sl6 (fun W hm => hm) trivial
      exact QBs_nil
     exact QBs_nil
    ·
     rintro ⟨A290, c291⟩ -
     show QM 67 _ _ _ .normal [(1, .pointer (some (⟨p41, 0, none⟩ : Addr))), (2, .pointer (some (⟨p42, 0, none⟩ : Addr))), (3, .pointer (some (⟨p54, 0, none⟩ : Addr))), (37, .slice (some a242) x0.Done.length c28), (38, .int .i64 ((x0.Done.length : Nat) : Int)), (39, .int .i64 ((k230 : Nat) : Int))] [iBox p54 47 [.slice A45 x0.Store.Segments.length c46, .int .i64 x0.Store.Now, .int .i64 x0.Cursor, .slice A50 x0.Order.length c51, .slice A93 d92.length c94, .slice A290 (d233 ++ [(gt x0.Done k230)]).length c291, .slice none 0 0, .int .i64 x0.Steps], iOwn (tSl tyFinished 37) [.slice A290 (d233 ++ [(gt x0.Done k230)]).length c291] (d233 ++ [(gt x0.Done k230)]), iBox p271 37 K19, I30, I31, iBox p42 47 K7, iBox p41 47 K20, I32]
     refine QM_len (n := 1) rfl ?_
     intro m344 m345
     refine QM_block_normal (QM_then (CM_region ?_))
     refine wv (vadN k230 1 (by omega)) ?_
     refine wm (WM_nil ?_)
     have hn346 := rng_next (R := DEngine) (body := F2) (k := k230) (s := d233) (s' := (d233 ++ [(gt x0.Done k230)])) (show k230 < x0.Done.length from by omega) (show impl_copyEngine_b2 x0 k230 d233 = Sum.inr (d233 ++ [(gt x0.Done k230)]) from by unfold impl_copyEngine_b2; exact rfl) hF237
     exact QM_round (k230 + 1, (d233 ++ [(gt x0.Done k230)]), (A290, c291)) sl6 (pk [0, 3, 4, 5, 6, 7, 1]) ⟨(by omega), hn346, (show (d233 ++ [(gt x0.Done k230)]).length ≤ 0 + (k230 + 1) from by first | omega | (simp only [List.length_append, List.length_cons, List.length_nil] at *; omega))⟩ (rl (by omega))
   ·have g241 : (decide (((k230 : Nat) : Int) < ((x0.Done.length : Nat) : Int))) = false := decide_eq_false (by omega)
    refine CM_condF rfl g241 ?_
    refine CM_exit (QM_then_exit (QM_then_exit ?_))
    have hE347 : R5 (x0.Done.length - 0) 0 [] = Sum.inr d233 := rng_end hl240 hF237
    refine QM_block_hit (QM_then (CM_seq (sr ?_)))
    refine wv (vf underlying47 rfl type45) ?_
    refine wv (vl 4 6 underlying45) ?_
    refine wv (vlen underlying45) ?_
    refine wm (nt' (CM_block ?_))
    refine CM_items (fun W hm => (hm.addNil (E := tyCharge) (e := 133)).last) ?_
    let F3 := fun k (s : (List DCharge)) => impl_copyEngine_b3 x0 k s
    let R6 := rng (R := DEngine) F3
    refine CM_loop (σ := Nat × ((List DCharge)) × (Option Addr × Nat)) (fun s => [(2, .pointer (some (⟨p42, 0, none⟩ : Addr))), (3, .pointer (some (⟨p54, 0, none⟩ : Addr))), (52, .slice A32 x0.Ledger.length c33), (53, .int .i64 ((x0.Ledger.length : Nat) : Int)), (54, .int .i64 ((s.1 : Nat) : Int))]) (fun s => [iBox p54 47 [.slice A45 x0.Store.Segments.length c46, .int .i64 x0.Store.Now, .int .i64 x0.Cursor, .slice A50 x0.Order.length c51, .slice A93 d92.length c94, .slice A234 d233.length c235, .slice s.2.2.1 s.2.1.length s.2.2.2, .int .i64 x0.Steps], I30, I31, iBox p42 47 K7, iBox p41 47 K8, I32, I33, iOwn (tSl tyCharge 133) [.slice s.2.2.1 s.2.1.length s.2.2.2] s.2.1]) (fun s => s.1 ≤ x0.Ledger.length ∧ R6 (x0.Ledger.length - s.1) s.1 s.2.1 = R6 (x0.Ledger.length - 0) 0 [] ∧ s.2.1.length ≤ 0 + s.1) (fun s => x0.Ledger.length - s.1) (0, [], (none, 0)) sl5 (fun W hm => hm) ⟨(by omega), rfl, Nat.le_refl _⟩ ?_
    rintro ⟨k348, d351, ⟨A352, c353⟩⟩ H356
    obtain ⟨hk354, hF355, hi357⟩ : k348 ≤ x0.Ledger.length ∧ R6 (x0.Ledger.length - k348) k348 d351 = R6 (x0.Ledger.length - 0) 0 [] ∧ d351.length ≤ 0 + k348 := H356
    let K24 : List Value := [.slice A45 x0.Store.Segments.length c46, .int .i64 x0.Store.Now, .int .i64 x0.Cursor, .slice A50 x0.Order.length c51, .slice A93 d92.length c94, .slice A234 d233.length c235, .slice A352 d351.length c353, .int .i64 x0.Steps]
    let I34 : It := iOwn (tSl tyCharge 133) [.slice A352 d351.length c353] d351
    show CM Tryz.prog 67 _ _ _ _ [(2, .pointer (some (⟨p42, 0, none⟩ : Addr))), (3, .pointer (some (⟨p54, 0, none⟩ : Addr))), (52, .slice A32 x0.Ledger.length c33), (53, .int .i64 ((x0.Ledger.length : Nat) : Int)), (54, .int .i64 ((k348 : Nat) : Int))] [iBox p54 47 K24, I30, I31, iBox p42 47 K7, iBox p41 47 K8, I32, I33, I34]
    refine sr ?_
    refine wv vlss ?_
    refine nt' (CM_seq ?_)
    by_cases hl358 : k348 < x0.Ledger.length
    ·have g359 : (decide (((k348 : Nat) : Int) < ((x0.Ledger.length : Nat) : Int))) = true := decide_eq_true (by omega)
     refine CM_condT rfl g359 ?_
     refine CM_skip (QM_then (CM_seq (CM_block (sr ?_))))
     obtain ⟨a360, rfl, hb361, he362⟩ := q34 (by omega)
     refine wv (vix 5 k348 underlying45 type133) ?_
     obtain ⟨_, e370, hc363⟩ := he362 k348 _ (gt_some (show k348 < x0.Ledger.length from by omega))
     obtain ⟨v364, v366, v368, rfl, r365, r367, r369⟩ := tyCharge_rd e370
     have l371 : ((gt x0.Ledger k348).Ids).length ≤ 68719476736 := (s_0.2.2.2.2.2 _ (gt_mem (show k348 < x0.Ledger.length from by omega))).1
     have l372 : ((gt x0.Ledger k348).Tenants).length ≤ 68719476736 := (s_0.2.2.2.2.2 _ (gt_mem (show k348 < x0.Ledger.length from by omega))).2.1
     have l373 : ((gt x0.Ledger k348).Rows).length ≤ 68719476736 := (s_0.2.2.2.2.2 _ (gt_mem (show k348 < x0.Ledger.length from by omega))).2.2
     have r378 := r365
     obtain ⟨m374, A375, c376, rfl, q377⟩ := r365
     have r383 := r367
     obtain ⟨m379, A380, c381, rfl, q382⟩ := r367
     have r388 := r369
     obtain ⟨m384, A385, c386, rfl, q387⟩ := r369
     let K25 : List Value := [.int .i64 ((gt x0.Ledger k348).Segment), .int .i64 ((gt x0.Ledger k348).Base), .slice A375 ((gt x0.Ledger k348).Ids).length c376, .slice A380 ((gt x0.Ledger k348).Tenants).length c381, .slice A385 ((gt x0.Ledger k348).Rows).length c386]
     refine wv (fun W hm => rv_loadN (cs := K25) underlying133 type133 rfl rfl (hm.elCells (show (a360.add (k348 * 5)).block < w.heap.size from by rw [add_block]; exact hb361.1) hc363)) ?_
     refine WM_alloc type133 rfl (Wd_none rfl) (by decide) (fun p389 => ?_)
     let K26 : List Value := [.slice A12 x0.Store.Segments.length c13, .int .i64 x0.Store.Now, .int .i64 x0.Cursor, .slice A17 x0.Order.length c18, .slice A22 x0.Active.length c23, .slice A27 x0.Done.length c28, .slice (some a360) x0.Ledger.length c33, .int .i64 x0.Steps]
     refine sb 0 K25 [iBox p54 47 K24, I30, I31, iBox p42 47 K7, iBox p41 47 K26, I32, I33, I34] (fun W hm => hm) type133 ?_
     refine nt' ?_
     refine CM_cut (σ := Option Addr × Nat) (fun s => [(2, .pointer (some (⟨p42, 0, none⟩ : Addr))), (3, .pointer (some (⟨p54, 0, none⟩ : Addr))), (52, .slice (some a360) x0.Ledger.length c33), (53, .int .i64 ((x0.Ledger.length : Nat) : Int)), (54, .int .i64 ((k348 : Nat) : Int))]) (fun s => [iBox p54 47 [.slice A45 x0.Store.Segments.length c46, .int .i64 x0.Store.Now, .int .i64 x0.Cursor, .slice A50 x0.Order.length c51, .slice A93 d92.length c94, .slice A234 d233.length c235, .slice s.1 (d351 ++ [(gt x0.Ledger k348)]).length s.2, .int .i64 x0.Steps], iOwn (tSl tyCharge 133) [.slice s.1 (d351 ++ [(gt x0.Ledger k348)]).length s.2] (d351 ++ [(gt x0.Ledger k348)]), iBox p389 133 K25, I30, I31, iBox p42 47 K7, iBox p41 47 K26, I32, I33]) (fun _ => True) ?_ ?_
     ·
      refine rb 8 (s := [iBox p389 133 K25, I30, I31, iBox p42 47 K7, iBox p41 47 K26, I32, I33]) (pk [0, 2, 3, 4, 5, 6, 7]) ?_
      refine qt 8 0 1 rfl (vf underlying47 rfl type45) ?_
      refine qt 8 2 5 rfl (fun W hm => rv_loadN (cs := K25) underlying133 type133 rfl rfl (hm.boxCells (n := 0) rfl)) ?_
      refine qa [1, 3] ?_
      refine qc 8 7 rfl ?_ ?_
      ·
       refine wv (vl 1 6 underlying45) ?_
       refine qn (pk [0, 2, 3, 4, 5, 6, 7]) ?_
       refine qo 8 3 15 rfl ?_
       refine wcs tyCharge (gt x0.Ledger k348) (cl_fn cb175 rfl) (fun W hm => impl_copyCharge_c2 W _ (gt x0.Ledger k348) (tyCharge_mk (x := (gt x0.Ledger k348)) (hm.rdS0 r378) (hm.rdS0 r383) (hm.rdS0 r388)) (s_0.2.2.2.2.2 _ (gt_mem (show k348 < x0.Ledger.length from by omega)))) (fun z412 => ?_)
       refine tyCharge_sp ?_
       rintro ⟨v413, v414, v415⟩ rfl
       refine WM_form (n := 0) rfl ?_
       rintro A416 c417 rfl m418
       refine WM_form (n := 1) rfl ?_
       rintro A420 c421 rfl m422
       refine WM_form (n := 2) rfl ?_
       rintro A424 c425 rfl m426
       refine qn (pk [3, 5, 6, 7, 8, 9, 10]) ?_
       refine qo 8 4 31 rfl ?_
       let K27 : List Value := [.int .i64 ((gt x0.Ledger k348).Segment), .int .i64 ((gt x0.Ledger k348).Base), .slice A416 ((gt x0.Ledger k348).Ids).length c417, .slice A420 ((gt x0.Ledger k348).Tenants).length c421, .slice A424 ((gt x0.Ledger k348).Rows).length c425]
       refine WM_build (cs := K27) underlying45 type133 rfl (by decide) (by decide) rfl (by kernel_rfl) (Wd_none rfl) (by decide) (fun p428 => ?_)
       refine qn (pk [4, 6, 7, 8, 9, 10, 11]) ?_
       refine qo 8 5 63 rfl ?_
       refine ap1 tyCharge 133 (.slice A352 d351.length c353) d351 (gt x0.Ledger k348) [iOwn (tSl tInt 3) [.slice A416 ((gt x0.Ledger k348).Ids).length c417] ((gt x0.Ledger k348).Ids), iOwn (tSl tInt 3) [.slice A420 ((gt x0.Ledger k348).Tenants).length c421] ((gt x0.Ledger k348).Tenants), iOwn (tSl tInt 3) [.slice A424 ((gt x0.Ledger k348).Rows).length c425] ((gt x0.Ledger k348).Rows)] [iBox p389 133 K25, iBox p54 47 K24, I30, I31, iBox p42 47 K7, iBox p41 47 K26, I32, I33] K27 (pk [0, 12, 1, 2, 3, 4, 5, 6, 7, 8, 9, 10, 11]) (fun _ _ hs => Els.single (tyCharge_join (x := (gt x0.Ledger k348)) hs)) underlying45 type133 (show (d351.length + 1) * 88 ≤ 140737488355328 from by omega) (fun v429 => ?_)
       refine WM_form (n := 0) rfl ?_
       rintro A430 c431 rfl m432
       refine qn (pk [1, 3, 4, 5, 6, 7, 8]) ?_
       refine qt 8 6 127 rfl (vf underlying47 rfl type45) ?_
       refine qo 8 7 255 rfl ?_
       refine sb 6 [.slice A45 x0.Store.Segments.length c46, .int .i64 x0.Store.Now, .int .i64 x0.Cursor, .slice A50 x0.Order.length c51, .slice A93 d92.length c94, .slice A234 d233.length c235, .slice A430 (d351 ++ [(gt x0.Ledger k348)]).length c431, .int .i64 x0.Steps] [iOwn (tSl tyCharge 133) [.slice A430 (d351 ++ [(gt x0.Ledger k348)]).length c431] (d351 ++ [(gt x0.Ledger k348)]), iBox p389 133 K25, I30, I31, iBox p42 47 K7, iBox p41 47 K26, I32, I33] (pk [2, 0, 1, 3, 4, 5, 6, 7, 8]) type45 ?_
       refine qn (pk [2, 3, 4, 5, 6, 7, 8]) ?_
       refine QB_done (by kernel_rfl) ?_
       exact QM_cut_normal (A430, c431) sl5 (fun W hm => hm) trivial
      refine qc 8 13 rfl ?_ ?_
      ·
       refine wcs tyCharge (gt x0.Ledger k348) (cl_fn cb175 rfl) (fun W hm => impl_copyCharge_c2 W _ (gt x0.Ledger k348) (tyCharge_mk (x := (gt x0.Ledger k348)) (hm.rdS0 r378) (hm.rdS0 r383) (hm.rdS0 r388)) (s_0.2.2.2.2.2 _ (gt_mem (show k348 < x0.Ledger.length from by omega)))) (fun z434 => ?_)
       refine tyCharge_sp ?_
       rintro ⟨v435, v436, v437⟩ rfl
       refine WM_form (n := 0) rfl ?_
       rintro A438 c439 rfl m440
       refine WM_form (n := 1) rfl ?_
       rintro A442 c443 rfl m444
       refine WM_form (n := 2) rfl ?_
       rintro A446 c447 rfl m448
       refine qn (pk [3, 5, 6, 7, 8, 9, 10]) ?_
       refine qa [1, 4] ?_
       refine qc 8 15 rfl ?_ ?_
       ·
        refine wv (vl 4 6 underlying45) ?_
        refine qn (pk [3, 5, 6, 7, 8, 9, 10]) ?_
        refine qo 8 4 31 rfl ?_
        let K28 : List Value := [.int .i64 ((gt x0.Ledger k348).Segment), .int .i64 ((gt x0.Ledger k348).Base), .slice A438 ((gt x0.Ledger k348).Ids).length c439, .slice A442 ((gt x0.Ledger k348).Tenants).length c443, .slice A446 ((gt x0.Ledger k348).Rows).length c447]
        refine WM_build (cs := K28) underlying45 type133 rfl (by decide) (by decide) rfl (by kernel_rfl) (Wd_none rfl) (by decide) (fun p450 => ?_)
        refine qn (pk [4, 6, 7, 8, 9, 10, 11]) ?_
        refine qo 8 5 63 rfl ?_
        refine ap1 tyCharge 133 (.slice A352 d351.length c353) d351 (gt x0.Ledger k348) [iOwn (tSl tInt 3) [.slice A438 ((gt x0.Ledger k348).Ids).length c439] ((gt x0.Ledger k348).Ids), iOwn (tSl tInt 3) [.slice A442 ((gt x0.Ledger k348).Tenants).length c443] ((gt x0.Ledger k348).Tenants), iOwn (tSl tInt 3) [.slice A446 ((gt x0.Ledger k348).Rows).length c447] ((gt x0.Ledger k348).Rows)] [iBox p389 133 K25, iBox p54 47 K24, I30, I31, iBox p42 47 K7, iBox p41 47 K26, I32, I33] K28 (pk [0, 12, 1, 2, 3, 4, 5, 6, 7, 8, 9, 10, 11]) (fun _ _ hs => Els.single (tyCharge_join (x := (gt x0.Ledger k348)) hs)) underlying45 type133 (show (d351.length + 1) * 88 ≤ 140737488355328 from by omega) (fun v451 => ?_)
        refine WM_form (n := 0) rfl ?_
        rintro A452 c453 rfl m454
        refine qn (pk [1, 3, 4, 5, 6, 7, 8]) ?_
        refine qt 8 6 127 rfl (vf underlying47 rfl type45) ?_
        refine qo 8 7 255 rfl ?_
        refine sb 6 [.slice A45 x0.Store.Segments.length c46, .int .i64 x0.Store.Now, .int .i64 x0.Cursor, .slice A50 x0.Order.length c51, .slice A93 d92.length c94, .slice A234 d233.length c235, .slice A452 (d351 ++ [(gt x0.Ledger k348)]).length c453, .int .i64 x0.Steps] [iOwn (tSl tyCharge 133) [.slice A452 (d351 ++ [(gt x0.Ledger k348)]).length c453] (d351 ++ [(gt x0.Ledger k348)]), iBox p389 133 K25, I30, I31, iBox p42 47 K7, iBox p41 47 K26, I32, I33] (pk [2, 0, 1, 3, 4, 5, 6, 7, 8]) type45 ?_
        refine qn (pk [2, 3, 4, 5, 6, 7, 8]) ?_
        refine QB_done (by kernel_rfl) ?_
        exact QM_cut_normal (A452, c453) sl5 (fun W hm => hm) trivial
       refine qc 8 29 rfl ?_ ?_
       ·
        let K29 : List Value := [.int .i64 ((gt x0.Ledger k348).Segment), .int .i64 ((gt x0.Ledger k348).Base), .slice A438 ((gt x0.Ledger k348).Ids).length c439, .slice A442 ((gt x0.Ledger k348).Tenants).length c443, .slice A446 ((gt x0.Ledger k348).Rows).length c447]
        refine WM_build (cs := K29) underlying45 type133 rfl (by decide) (by decide) rfl (by kernel_rfl) (Wd_none rfl) (by decide) (fun p456 => ?_)
        refine qn (pk [4, 6, 7, 8, 9, 10, 11]) ?_
        refine qo 8 1 31 rfl ?_
        refine wv (vl 5 6 underlying45) ?_
        refine qn (pk [4, 6, 7, 8, 9, 10, 11]) ?_
        refine qo 8 5 63 rfl ?_
        refine ap1 tyCharge 133 (.slice A352 d351.length c353) d351 (gt x0.Ledger k348) [iOwn (tSl tInt 3) [.slice A438 ((gt x0.Ledger k348).Ids).length c439] ((gt x0.Ledger k348).Ids), iOwn (tSl tInt 3) [.slice A442 ((gt x0.Ledger k348).Tenants).length c443] ((gt x0.Ledger k348).Tenants), iOwn (tSl tInt 3) [.slice A446 ((gt x0.Ledger k348).Rows).length c447] ((gt x0.Ledger k348).Rows)] [iBox p389 133 K25, iBox p54 47 K24, I30, I31, iBox p42 47 K7, iBox p41 47 K26, I32, I33] K29 (pk [0, 12, 1, 2, 3, 4, 5, 6, 7, 8, 9, 10, 11]) (fun _ _ hs => Els.single (tyCharge_join (x := (gt x0.Ledger k348)) hs)) underlying45 type133 (show (d351.length + 1) * 88 ≤ 140737488355328 from by omega) (fun v457 => ?_)
        refine WM_form (n := 0) rfl ?_
        rintro A458 c459 rfl m460
        refine qn (pk [1, 3, 4, 5, 6, 7, 8]) ?_
        refine qt 8 6 127 rfl (vf underlying47 rfl type45) ?_
        refine qo 8 7 255 rfl ?_
        refine sb 6 [.slice A45 x0.Store.Segments.length c46, .int .i64 x0.Store.Now, .int .i64 x0.Cursor, .slice A50 x0.Order.length c51, .slice A93 d92.length c94, .slice A234 d233.length c235, .slice A458 (d351 ++ [(gt x0.Ledger k348)]).length c459, .int .i64 x0.Steps] [iOwn (tSl tyCharge 133) [.slice A458 (d351 ++ [(gt x0.Ledger k348)]).length c459] (d351 ++ [(gt x0.Ledger k348)]), iBox p389 133 K25, I30, I31, iBox p42 47 K7, iBox p41 47 K26, I32, I33] (pk [2, 0, 1, 3, 4, 5, 6, 7, 8]) type45 ?_
        refine qn (pk [2, 3, 4, 5, 6, 7, 8]) ?_
        refine QB_done (by kernel_rfl) ?_
        exact QM_cut_normal (A458, c459) sl5 (fun W hm => hm) trivial
       exact QBs_nil
      exact QBs_nil
     ·
      rintro ⟨A408, c409⟩ -
      show QM 67 _ _ _ .normal [(2, .pointer (some (⟨p42, 0, none⟩ : Addr))), (3, .pointer (some (⟨p54, 0, none⟩ : Addr))), (52, .slice (some a360) x0.Ledger.length c33), (53, .int .i64 ((x0.Ledger.length : Nat) : Int)), (54, .int .i64 ((k348 : Nat) : Int))] [iBox p54 47 [.slice A45 x0.Store.Segments.length c46, .int .i64 x0.Store.Now, .int .i64 x0.Cursor, .slice A50 x0.Order.length c51, .slice A93 d92.length c94, .slice A234 d233.length c235, .slice A408 (d351 ++ [(gt x0.Ledger k348)]).length c409, .int .i64 x0.Steps], iOwn (tSl tyCharge 133) [.slice A408 (d351 ++ [(gt x0.Ledger k348)]).length c409] (d351 ++ [(gt x0.Ledger k348)]), iBox p389 133 K25, I30, I31, iBox p42 47 K7, iBox p41 47 K26, I32, I33]
      refine QM_len (n := 1) rfl ?_
      intro m462 m463
      refine QM_block_normal (QM_then (CM_region ?_))
      refine wv (vadN k348 1 (by omega)) ?_
      refine wm (WM_nil ?_)
      have hn464 := rng_next (R := DEngine) (body := F3) (k := k348) (s := d351) (s' := (d351 ++ [(gt x0.Ledger k348)])) (show k348 < x0.Ledger.length from by omega) (show impl_copyEngine_b3 x0 k348 d351 = Sum.inr (d351 ++ [(gt x0.Ledger k348)]) from by unfold impl_copyEngine_b3; exact rfl) hF355
      exact QM_round (k348 + 1, (d351 ++ [(gt x0.Ledger k348)]), (A408, c409)) sl5 (pk [0, 3, 4, 5, 6, 7, 8, 1]) ⟨(by omega), hn464, (show (d351 ++ [(gt x0.Ledger k348)]).length ≤ 0 + (k348 + 1) from by first | omega | (simp only [List.length_append, List.length_cons, List.length_nil] at *; omega))⟩ (rl (by omega))
    ·have g359 : (decide (((k348 : Nat) : Int) < ((x0.Ledger.length : Nat) : Int))) = false := decide_eq_false (by omega)
     refine CM_condF rfl g359 ?_
     refine CM_exit (QM_then_exit (QM_then_exit ?_))
     have hE465 : R6 (x0.Ledger.length - 0) 0 [] = Sum.inr d351 := rng_end hl358 hF355
     refine QM_block_hit (QM_then (sr ?_))
     refine wv (fun W hm => rv_loadN (cs := K24) underlying47 type47 rfl rfl (hm.boxCells (n := 0) rfl)) ?_
     refine sb 0 K24 [iBox p54 47 K24, I30, I31, iBox p41 47 K8, I32, I33, I34] (pk [3, 0, 1, 2, 4, 5, 6, 7]) type47 ?_
     refine nt' (CM_ret ?_)
     refine QM_r1 rfl (RR_cell (n := 0) rfl rfl underlying47 type47 rfl) (fun W hm => ⟨K24, ?_, ?_⟩)
     ·first | rw [(show impl_copyEngine_m x0 = (⟨x0.Store, x0.Cursor, x0.Order, d92, d233, d351, x0.Steps⟩ : DEngine) from by unfold impl_copyEngine_m; exact fin_inr hE229 (fin_inr hE347 (fin_inr hE465 (rfl))))] | rfl
     ·rw [(show impl_copyEngine_m x0 = (⟨x0.Store, x0.Cursor, x0.Order, d92, d233, d351, x0.Steps⟩ : DEngine) from by unfold impl_copyEngine_m; exact fin_inr hE229 (fin_inr hE347 (fin_inr hE465 (rfl))))]; exact Mem.join (is := [I31, I30, I32, I33, I34]) (js := []) (fun _ _ hs => tyEngine_join (x := (⟨x0.Store, x0.Cursor, x0.Order, d92, d233, d351, x0.Steps⟩ : DEngine)) hs) (hm.pick [3, 2, 5, 6, 7] (by decide))
theorem impl_copyEngine_eq (x0 : DEngine) : impl_copyEngine_m x0 = x0 := by
 unfold impl_copyEngine_m; rw [rng_app (xs := x0.Active) (b := fun k s => impl_copyEngine_b1 x0 k s) (fun _ _ => rfl), rng_app (xs := x0.Done) (b := fun k s => impl_copyEngine_b2 x0 k s) (fun _ _ => rfl), rng_app (xs := x0.Ledger) (b := fun k s => impl_copyEngine_b3 x0 k s) (fun _ _ => rfl)]; rfl
theorem impl_copyEngine_c2 (w : World) (z0 : List Value) (x0 : DEngine) (r_0 : tyEngine.rd w w.heap.size z0 x0) (s_0 : smEngine 68719476736 x0) :
  Calls Tryz.prog 101 #[.agg z0.toArray] w fun e w' => ∃ v : List Value, e = .returned (.agg v.toArray) ∧ Mem w.heap.size w [iOwn tyEngine v x0] w' := by
 have h := impl_copyEngine_c w z0 x0 r_0 s_0
 rw [impl_copyEngine_eq] at h
 exact h

end Go.Proofs.YtmikmbmdibabmaaGreat
