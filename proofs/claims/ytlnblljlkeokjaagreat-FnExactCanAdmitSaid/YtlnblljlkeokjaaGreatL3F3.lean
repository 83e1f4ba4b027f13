/-
  Contracts of functions, printed by a program of ours.
-/
import Derived.Test.YtlnblljlkeokjaaGreatL3F2
namespace Go.Proofs.YtlnblljlkeokjaaGreat
open Go.RowKit
set_option maxRecDepth 100000
set_option maxHeartbeats 4000000
open _root_.Go.Proofs.Tryz
def spec_IsEngine_b3 (x0 : DEngine) (k188 : Nat) : Bool ⊕ (Unit) :=
 cond (spec_IsCharge_m (gt x0.Ledger k188)) (Sum.inr ()) (Sum.inl false)
def spec_IsEngine_b2 (x0 : DEngine) (k142 : Nat) : Bool ⊕ (Unit) :=
 cond (spec_IsQuery_m ((gt x0.Done k142).Query)) (cond (spec_l1In_m ((gt x0.Done k142).Time) 0 x0.Store.Now) (cond (spec_l1In_m ((gt x0.Done k142).Steps) 0 100000) (cond (spec_l9List_m ((gt x0.Done k142).Rows)) (Sum.inr ()) (Sum.inl false)) (Sum.inl false)) (Sum.inl false)) (Sum.inl false)
def spec_IsEngine_b1 (x0 : DEngine) (k56 : Nat) : Bool ⊕ (Unit) :=
 cond (spec_l9Active_m x0 (gt x0.Active k56)) (cond (decide (0 < ((k56 : Nat) : Int))) (cond (decide (((gt x0.Active k56).Query.Id) ≤ ((gt x0.Active (k56 - 1)).Query.Id))) (Sum.inl false) (Sum.inr ())) (Sum.inr ())) (Sum.inl false)
def spec_IsEngine_m (x0 : DEngine) : Bool :=
 cond (spec_IsStore_m x0.Store) (cond (spec_l1In_m x0.Cursor 0 (IntKind.i64.wrap (((x0.Store.Segments.length : Nat) : Int) - 1))) (cond (spec_l6Order_m x0.Order) (cond (decide (8 < ((x0.Active.length : Nat) : Int))) false (cond (spec_l1In_m x0.Steps 0 100000) (cond (decide (1000 < ((x0.Done.length : Nat) : Int))) false (cond (decide (1000 < ((x0.Ledger.length : Nat) : Int))) false (Sum.elim id (fun (s1_ : Unit) => Sum.elim id (fun (s2_ : Unit) => Sum.elim id (fun (s : Unit) => true) (rng (R := Bool) (fun k (_ : Unit) => spec_IsEngine_b3 x0 k) (x0.Ledger.length - 0) 0 ())) (rng (R := Bool) (fun k (_ : Unit) => spec_IsEngine_b2 x0 k) (x0.Done.length - 0) 0 ())) (rng (R := Bool) (fun k (_ : Unit) => spec_IsEngine_b1 x0 k) (x0.Active.length - 0) 0 ())))) false)) false) false) false
theorem cb39 : Cb Tryz.prog 39 := ⟨f39, _, func39, rfl, by decide⟩
theorem spec_IsEngine_c (w : World) (z0 : List Value) (x0 : DEngine) (r_0 : tyEngine.rd w w.heap.size z0 x0) (s_0 : smEngine 68719476736 x0) :
  Calls Tryz.prog 39 #[.agg z0.toArray] w fun e w' => e = .returned (.bool (spec_IsEngine_m x0)) ∧ Below w.heap.size w w' := by
 obtain ⟨v1, v3, v5, v7, v9, rfl, r2, r4, r6, r8, r10⟩ := tyEngine_rd r_0
 have r15 := r2
 obtain ⟨m11, A12, c13, rfl, q14⟩ := r2
 have r20 := r4
 obtain ⟨m16, A17, c18, rfl, q19⟩ := r4
 have r25 := r6
 obtain ⟨m21, A22, c23, rfl, q24⟩ := r6
 have r30 := r8
 obtain ⟨m26, A27, c28, rfl, q29⟩ := r8
 have r35 := r10
 obtain ⟨m31, A32, c33, rfl, q34⟩ := r10
 have l36 : x0.Store.Segments.length ≤ 68719476736 := s_0.1.1
 have l37 : x0.Order.length ≤ 68719476736 := s_0.2.1
 have l38 : x0.Active.length ≤ 68719476736 := s_0.2.2.1.1
 have l39 : x0.Done.length ≤ 68719476736 := s_0.2.2.2.1.1
 have l40 : x0.Ledger.length ≤ 68719476736 := s_0.2.2.2.2.1
 refine ce1 (L := [(0, .agg #[.slice A12 x0.Store.Segments.length c13, .int .i64 x0.Store.Now, .int .i64 x0.Cursor, .slice A17 x0.Order.length c18, .slice A22 x0.Active.length c23, .slice A27 x0.Done.length c28, .slice A32 x0.Ledger.length c33, .int .i64 x0.Steps])]) (N := 140) func39 ?_
 refine sr ?_
 refine WM_box rfl (Wd_none rfl) (by decide) (fun p41 => ?_)
 refine wa (nt' (CM_seq (sr ?_)))
 refine wv (vf underlying44 rfl type39) ?_
 refine wv (fun W hm => rv_loadN (cs := [.slice A12 x0.Store.Segments.length c13, .int .i64 x0.Store.Now]) underlying39 type39 rfl rfl (hm.boxPart (n := 0) rfl rfl)) ?_
 refine wcv (cl_fn cb65 rfl) (fun W hm => spec_IsStore_c W _ x0.Store (tyStore_mk (x := x0.Store) (hm.rdS0 r15)) s_0.1) ?_
 refine wv vnot ?_
 refine wm ?_
 rcases Bool.eq_false_or_eq_true (spec_IsStore_m x0.Store) with g43 | g43
 ·
  refine wg (vf underlying44 rfl type3) (nt g43) ?_
  refine wg (vl 0 2 underlying3) (nt g43) ?_
  refine wg (vf underlying44 rfl type39) (nt g43) ?_
  refine wg (fun W hm => rv_fieldA (o := 0) underlying39 rfl type37 (by decide) rfl rfl) (nt g43) ?_
  refine wg (vl 0 0 underlying37) (nt g43) ?_
  refine wg (vlen underlying37) (nt g43) ?_
  refine wg (fun W hm => rv_sub rfl rfl) (nt g43) ?_
  refine WM_callV (cl_fn cb41 rfl) (fun W hm => spec_l1In_c W x0.Cursor 0 (IntKind.i64.wrap (((x0.Store.Segments.length : Nat) : Int) - 1))) (Wd_some rfl rfl rfl (bw (nt g43) rfl)) (by decide) ?_
  refine wg vnot (nt g43) ?_
  refine wv (vpF (nt g43)) ?_
  refine wm ?_
  rcases Bool.eq_false_or_eq_true (spec_l1In_m x0.Cursor 0 (IntKind.i64.wrap (((x0.Store.Segments.length : Nat) : Int) - 1))) with g45 | g45
  ·
   have hw := spec_l1In_fact g45
   rw [wrap_pred (by omega)] at hw
   refine wg (vf underlying44 rfl type25) (nt g45) ?_
   refine wg (vl 0 3 underlying25) (nt g45) ?_
   refine WM_callV (cl_fn cb66 rfl) (fun W hm => spec_l6Order_c W _ x0.Order (hm.rdS0 r20)) (Wd_some rfl rfl rfl (bw (nt g45) rfl)) (by decide) ?_
   refine wg vnot (nt g45) ?_
   refine wv (vpF (nt g45)) ?_
   refine wm ?_
   rcases Bool.eq_false_or_eq_true (spec_l6Order_m x0.Order) with g47 | g47
   ·
    refine wg (vf underlying44 rfl type40) (nt g47) ?_
    refine wg (vl 0 4 underlying40) (nt g47) ?_
    refine wg (vlen underlying40) (nt g47) ?_
    refine wg (fun W hm => rv_gtr rfl rfl) (nt g47) ?_
    refine wv (vpF (nt g47)) ?_
    refine wm ?_
    by_cases h48 : 8 < ((x0.Active.length : Nat) : Int)
    ·have g49 : (decide (8 < ((x0.Active.length : Nat) : Int))) = true := decide_eq_true h48
     refine ws g49 ?_
     refine ws g49 ?_
     refine ws g49 ?_
     refine ws g49 ?_
     refine wv (vpT g49) ?_
     refine wm ?_
     refine wk ?_
     refine wk ?_
     refine wk ?_
     refine wk ?_
     refine wv (vpT rfl) ?_
     refine wm ?_
     refine wk ?_
     refine wk ?_
     refine wk ?_
     refine wk ?_
     refine wv (vpT rfl) ?_
     refine nt' ?_
     refine CM_condT rfl rfl ?_
     refine sr (wa (nt' (CM_ret (QM_then_ret ?_))))
     exact rtb (h := by unfold spec_IsEngine_m; exact cond_t g43 (cond_t g45 (cond_t g47 (cond_t g49 (rfl)))))
    ·have g49 : (decide (8 < ((x0.Active.length : Nat) : Int))) = false := decide_eq_false h48
     refine wg (vf underlying44 rfl type3) g49 ?_
     refine wg (vl 0 7 underlying3) g49 ?_
     refine WM_callV (cl_fn cb41 rfl) (fun W hm => spec_l1In_c W x0.Steps 0 100000) (Wd_some rfl rfl rfl (bw g49 rfl)) (by decide) ?_
     refine wg vnot g49 ?_
     refine wv (vpF g49) ?_
     refine wm ?_
     rcases Bool.eq_false_or_eq_true (spec_l1In_m x0.Steps 0 100000) with g51 | g51
     ·
      have hw := spec_l1In_fact g51
      refine wg (vf underlying44 rfl type41) (nt g51) ?_
      refine wg (vl 0 5 underlying41) (nt g51) ?_
      refine wg (vlen underlying41) (nt g51) ?_
      refine wg (fun W hm => rv_gtr rfl rfl) (nt g51) ?_
      refine wv (vpF (nt g51)) ?_
      refine wm ?_
      by_cases h52 : 1000 < ((x0.Done.length : Nat) : Int)
      ·have g53 : (decide (1000 < ((x0.Done.length : Nat) : Int))) = true := decide_eq_true h52
       refine ws g53 ?_
       refine ws g53 ?_
       refine ws g53 ?_
       refine ws g53 ?_
       refine wv (vpT g53) ?_
       refine nt' ?_
       refine CM_condT rfl rfl ?_
       refine sr (wa (nt' (CM_ret (QM_then_ret ?_))))
       exact rtb (h := by unfold spec_IsEngine_m; exact cond_t g43 (cond_t g45 (cond_t g47 (cond_f g49 (cond_t g51 (cond_t g53 (rfl)))))))
      ·have g53 : (decide (1000 < ((x0.Done.length : Nat) : Int))) = false := decide_eq_false h52
       refine wg (vf underlying44 rfl type42) g53 ?_
       refine wg (vl 0 6 underlying42) g53 ?_
       refine wg (vlen underlying42) g53 ?_
       refine wg (fun W hm => rv_gtr rfl rfl) g53 ?_
       refine wv (vpF g53) ?_
       refine nt' ?_
       by_cases h54 : 1000 < ((x0.Ledger.length : Nat) : Int)
       ·have g55 : (decide (1000 < ((x0.Ledger.length : Nat) : Int))) = true := decide_eq_true h54
        refine CM_condT rfl g55 ?_
        refine sr (wa (nt' (CM_ret (QM_then_ret ?_))))
        exact rtb (h := by unfold spec_IsEngine_m; exact cond_t g43 (cond_t g45 (cond_t g47 (cond_f g49 (cond_t g51 (cond_f g53 (cond_t g55 (rfl))))))))
       ·have g55 : (decide (1000 < ((x0.Ledger.length : Nat) : Int))) = false := decide_eq_false h54
        refine CM_condF rfl g55 ?_
        refine CM_skip (QM_then (CM_seq (sr (wa (nt' (CM_block ?_))))))
        let F1 := fun k (_ : Unit) => spec_IsEngine_b1 x0 k
        let R4 := rng (R := Bool) F1
        let K7 : List Value := [.slice A12 x0.Store.Segments.length c13, .int .i64 x0.Store.Now, .int .i64 x0.Cursor, .slice A17 x0.Order.length c18, .slice A22 x0.Active.length c23, .slice A27 x0.Done.length c28, .slice A32 x0.Ledger.length c33, .int .i64 x0.Steps]
        refine CM_loop (σ := Nat × (Unit) × (Unit)) (fun s => [(1, .pointer (some (⟨p41, 0, none⟩ : Addr))), (3, .int .i64 ((s.1 : Nat) : Int))]) (fun s => [iBox p41 44 K7]) (fun s => s.1 ≤ x0.Active.length ∧ R4 (x0.Active.length - s.1) s.1 s.2.1 = R4 (x0.Active.length - 0) 0 ()) (fun s => x0.Active.length - s.1) (0, (), ()) sl2 (fun W hm => hm) ⟨(by omega), rfl⟩ ?_
        rintro ⟨k56, ⟨⟩, ⟨⟩⟩ H59
        obtain ⟨hk57, hF58⟩ : k56 ≤ x0.Active.length ∧ R4 (x0.Active.length - k56) k56 () = R4 (x0.Active.length - 0) 0 () := H59
        show CM Tryz.prog 140 _ _ _ _ [(1, .pointer (some (⟨p41, 0, none⟩ : Addr))), (3, .int .i64 ((k56 : Nat) : Int))] [iBox p41 44 K7]
        refine CM_seq (sr (wm ?_))
        refine wv (vf underlying44 rfl type40) ?_
        refine wv (vl 0 4 underlying40) ?_
        refine wv (vlen underlying40) ?_
        refine wv vlss ?_
        refine nt' ?_
        by_cases hl60 : k56 < x0.Active.length
        ·have g61 : (decide (((k56 : Nat) : Int) < ((x0.Active.length : Nat) : Int))) = true := decide_eq_true (by omega)
         refine CM_condT rfl g61 ?_
         refine CM_skip (QM_then (CM_seq (CM_block (CM_seq ?_))))
         refine CM_regionD (by kernel_rfl) (by kernel_rfl) ?_
         refine qv (fun W hm => rv_loadN (cs := K7) underlying44 type44 rfl rfl (hm.boxCells (n := 0) rfl)) ?_
         refine qv (vf underlying44 rfl type40) ?_
         refine qv (vl 0 4 underlying40) ?_
         refine qm ?_
         obtain ⟨a62, rfl, hb63, he64⟩ := q24 (by omega)
         refine qv (vix 10 k56 underlying40 type93) ?_
         obtain ⟨_, e74, hc65⟩ := he64 k56 _ (gt_some (show k56 < x0.Active.length from by omega))
         obtain ⟨v66, v68, v70, v72, rfl, r67, r69, r71, r73⟩ := tyActive_rd e74
         have l75 : ((gt x0.Active k56).Query.Conds).length ≤ 68719476736 := (s_0.2.2.1.2 _ (gt_mem (show k56 < x0.Active.length from by omega))).1.1
         have l76 : ((gt x0.Active k56).Query.Out).length ≤ 68719476736 := (s_0.2.2.1.2 _ (gt_mem (show k56 < x0.Active.length from by omega))).1.2
         have l77 : ((gt x0.Active k56).Todo).length ≤ 68719476736 := (s_0.2.2.1.2 _ (gt_mem (show k56 < x0.Active.length from by omega))).2.1
         have l78 : ((gt x0.Active k56).Rows).length ≤ 68719476736 := (s_0.2.2.1.2 _ (gt_mem (show k56 < x0.Active.length from by omega))).2.2.1
         have r83 := r67
         obtain ⟨m79, A80, c81, rfl, q82⟩ := r67
         have r88 := r69
         obtain ⟨m84, A85, c86, rfl, q87⟩ := r69
         have r93 := r71
         obtain ⟨m89, A90, c91, rfl, q92⟩ := r71
         have r98 := r73
         obtain ⟨m94, A95, c96, rfl, q97⟩ := r73
         refine qv (fun W hm => rv_loadN (cs := [.int .i64 ((gt x0.Active k56).Query.Id), .int .i64 ((gt x0.Active k56).Query.Tenant), .slice A80 ((gt x0.Active k56).Query.Conds).length c81, .slice A85 ((gt x0.Active k56).Query.Out).length c86, .int .i64 ((gt x0.Active k56).Time), .slice A90 ((gt x0.Active k56).Todo).length c91, .int .i64 ((gt x0.Active k56).Age), .int .i64 ((gt x0.Active k56).Sent), .int .i64 ((gt x0.Active k56).Cap), .slice A95 ((gt x0.Active k56).Rows).length c96]) underlying93 type93 rfl rfl (hm.elCells (show (a62.add (k56 * 10)).block < w.heap.size from by rw [add_block]; exact hb63.1) hc65)) ?_
         refine QR_callV (cl_fn cb67 rfl) (fun W hm => spec_l9Active_c W _ x0 _ (gt x0.Active k56) (tyEngine_mk (x := x0) (hm.rdS0 r15) (hm.rdS0 r20) (hm.rdS0 r25) (hm.rdS0 r30) (hm.rdS0 r35)) (tyActive_mk (x := (gt x0.Active k56)) (hm.rdS0 r83) (hm.rdS0 r88) (hm.rdS0 r93) (hm.rdS0 r98))) (Wd_none rfl) (by decide) ?_
         refine qv vnot ?_
         refine qm ?_
         rcases Bool.eq_false_or_eq_true (spec_l9Active_m x0 (gt x0.Active k56)) with g100 | g100
         ·
          refine qg vmv (nt g100) ?_
          refine qg (fun W hm => rv_gtr rfl rfl) (nt g100) ?_
          refine qg vmv (nt g100) ?_
          by_cases h101 : 0 < ((k56 : Nat) : Int)
          ·have g102 : (decide (0 < ((k56 : Nat) : Int))) = true := decide_eq_true h101
           refine qg (vf underlying44 rfl type40) g102 ?_
           refine qg (vl 0 4 underlying40) g102 ?_
           refine qg vmv g102 ?_
           refine qg (vix 10 k56 underlying40 type93) g102 ?_
           refine qg (vf underlying93 rfl type48) g102 ?_
           refine qg (fun W hm => rv_fieldA (o := 0) underlying48 rfl type3 (by decide) rfl rfl) g102 ?_
           refine qg (fun W hm => rv_load underlying3 rfl rfl ((hm.cell0 (show ((a62.add (k56 * 10)).add 0).block < w.heap.size from by rw [add_block, add_block]; exact hb63.1)).trans (hc65 0 _ rfl))) g102 ?_
           refine qg (vf underlying44 rfl type40) g102 ?_
           refine qg (vl 0 4 underlying40) g102 ?_
           refine qg vmv g102 ?_
           refine qg (fun W hm => rv_subN (p := k56) (q := 1) rfl rfl (by omega) (by omega)) g102 ?_
           refine qg (fun W hm => rv_index (sz := 10) (k := k56 - 1) underlying40 type93 rfl rfl rfl (by omega)) g102 ?_
           refine qg (vf underlying93 rfl type48) g102 ?_
           refine qg (fun W hm => rv_fieldA (o := 0) underlying48 rfl type3 (by decide) rfl rfl) g102 ?_
           obtain ⟨_, e112, hc103⟩ := he64 (k56 - 1) _ (gt_some (show (k56 - 1) < x0.Active.length from by omega))
           obtain ⟨v104, v106, v108, v110, rfl, r105, r107, r109, r111⟩ := tyActive_rd e112
           have l113 : ((gt x0.Active (k56 - 1)).Query.Conds).length ≤ 68719476736 := (s_0.2.2.1.2 _ (gt_mem (show (k56 - 1) < x0.Active.length from by omega))).1.1
           have l114 : ((gt x0.Active (k56 - 1)).Query.Out).length ≤ 68719476736 := (s_0.2.2.1.2 _ (gt_mem (show (k56 - 1) < x0.Active.length from by omega))).1.2
           have l115 : ((gt x0.Active (k56 - 1)).Todo).length ≤ 68719476736 := (s_0.2.2.1.2 _ (gt_mem (show (k56 - 1) < x0.Active.length from by omega))).2.1
           have l116 : ((gt x0.Active (k56 - 1)).Rows).length ≤ 68719476736 := (s_0.2.2.1.2 _ (gt_mem (show (k56 - 1) < x0.Active.length from by omega))).2.2.1
           have r121 := r105
           obtain ⟨m117, A118, c119, rfl, q120⟩ := r105
           have r126 := r107
           obtain ⟨m122, A123, c124, rfl, q125⟩ := r107
           have r131 := r109
           obtain ⟨m127, A128, c129, rfl, q130⟩ := r109
           have r136 := r111
           obtain ⟨m132, A133, c134, rfl, q135⟩ := r111
           refine qg (fun W hm => rv_load underlying3 rfl rfl ((hm.cell0 (show ((a62.add ((k56 - 1) * 10)).add 0).block < w.heap.size from by rw [add_block, add_block]; exact hb63.1)).trans (hc103 0 _ rfl))) g102 ?_
           refine qg (fun W hm => rv_leq rfl rfl) g102 ?_
           refine qg (vpT g102) (nt g100) ?_
           refine qv (vpF (nt g100)) ?_
           refine nq' ?_
           by_cases h137 : ((gt x0.Active k56).Query.Id) ≤ ((gt x0.Active (k56 - 1)).Query.Id)
           ·have g138 : (decide (((gt x0.Active k56).Query.Id) ≤ ((gt x0.Active (k56 - 1)).Query.Id))) = true := decide_eq_true h137
            refine CM_condT rfl g138 ?_
            refine sr (wa (nt' (CM_ret (QM_block_ret (QM_then_ret (QM_then_ret (QM_block_ret (QM_then_ret ?_))))))))
            exact rtb (h := by unfold spec_IsEngine_m; exact cond_t g43 (cond_t g45 (cond_t g47 (cond_f g49 (cond_t g51 (cond_f g53 (cond_f g55 (fin_inl (rng_ret (body := F1) (k := k56) (s := ()) (show k56 < x0.Active.length from by omega) (show spec_IsEngine_b1 x0 k56 = Sum.inl false from by unfold spec_IsEngine_b1; exact cond_t g100 (cond_t g102 (cond_t g138 (rfl)))) hF58) rfl))))))))
           ·have g138 : (decide (((gt x0.Active k56).Query.Id) ≤ ((gt x0.Active (k56 - 1)).Query.Id))) = false := decide_eq_false h137
            refine CM_condF rfl g138 ?_
            refine CM_skip (QM_block_normal (QM_then (CM_region (wm ?_))))
            refine wv (vadN k56 1 (by omega)) ?_
            refine wa (WM_nil ?_)
            have hn139 := rng_next (R := Bool) (body := F1) (k := k56) (s := ()) (s' := ()) (show k56 < x0.Active.length from by omega) (show spec_IsEngine_b1 x0 k56 = Sum.inr () from by unfold spec_IsEngine_b1; exact cond_t g100 (cond_t g102 (cond_f g138 (rfl)))) hF58
            exact QM_round (k56 + 1, (), ()) sl2 (fun W hm => hm) ⟨(by omega), hn139⟩ (rl (by omega))
          ·have g102 : (decide (0 < ((k56 : Nat) : Int))) = false := decide_eq_false h101
           refine qs g102 ?_
           refine qs g102 ?_
           refine qs g102 ?_
           refine qs g102 ?_
           refine qs g102 ?_
           refine qs g102 ?_
           refine qs g102 ?_
           refine qs g102 ?_
           refine qs g102 ?_
           refine qs g102 ?_
           refine qs g102 ?_
           refine qs g102 ?_
           refine qs g102 ?_
           refine qs g102 ?_
           refine qs g102 ?_
           refine qs g102 ?_
           refine qg (vpF g102) (nt g100) ?_
           refine qv (vpF (nt g100)) ?_
           refine nq' ?_
           refine CM_condF rfl rfl ?_
           refine CM_skip (QM_block_normal (QM_then (CM_region (wm ?_))))
           refine wv (vadN k56 1 (by omega)) ?_
           refine wa (WM_nil ?_)
           have hn140 := rng_next (R := Bool) (body := F1) (k := k56) (s := ()) (s' := ()) (show k56 < x0.Active.length from by omega) (show spec_IsEngine_b1 x0 k56 = Sum.inr () from by unfold spec_IsEngine_b1; exact cond_t g100 (cond_f g102 (rfl))) hF58
           exact QM_round (k56 + 1, (), ()) sl2 (fun W hm => hm) ⟨(by omega), hn140⟩ (rl (by omega))
         ·
          refine qs (nf g100) ?_
          refine qs (nf g100) ?_
          refine qs (nf g100) ?_
          refine qu ?_
          refine qu ?_
          refine qu ?_
          refine qu ?_
          refine qu ?_
          refine qu ?_
          refine qu ?_
          refine qu ?_
          refine qu ?_
          refine qu ?_
          refine qu ?_
          refine qu ?_
          refine qu ?_
          refine qu ?_
          refine qu ?_
          refine qu ?_
          refine qs (nf g100) ?_
          refine qv (vpT (nf g100)) ?_
          refine nq' ?_
          refine CM_condT rfl rfl ?_
          refine sr (wa (nt' (CM_ret (QM_block_ret (QM_then_ret (QM_then_ret (QM_block_ret (QM_then_ret ?_))))))))
          exact rtb (h := by unfold spec_IsEngine_m; exact cond_t g43 (cond_t g45 (cond_t g47 (cond_f g49 (cond_t g51 (cond_f g53 (cond_f g55 (fin_inl (rng_ret (body := F1) (k := k56) (s := ()) (show k56 < x0.Active.length from by omega) (show spec_IsEngine_b1 x0 k56 = Sum.inl false from by unfold spec_IsEngine_b1; exact cond_f g100 (rfl)) hF58) rfl))))))))
        ·have g61 : (decide (((k56 : Nat) : Int) < ((x0.Active.length : Nat) : Int))) = false := decide_eq_false (by omega)
         refine CM_condF rfl g61 ?_
         refine CM_exit (QM_then_exit (QM_then_exit ?_))
         have hE141 : R4 (x0.Active.length - 0) 0 () = Sum.inr () := rng_end hl60 hF58
         refine QM_block_hit (QM_then (CM_seq (sr (wa (nt' (CM_block ?_))))))
         let F2 := fun k (_ : Unit) => spec_IsEngine_b2 x0 k
         let R5 := rng (R := Bool) F2
         refine CM_loop (σ := Nat × (Unit) × (Unit)) (fun s => [(1, .pointer (some (⟨p41, 0, none⟩ : Addr))), (4, .int .i64 ((s.1 : Nat) : Int))]) (fun s => [iBox p41 44 K7]) (fun s => s.1 ≤ x0.Done.length ∧ R5 (x0.Done.length - s.1) s.1 s.2.1 = R5 (x0.Done.length - 0) 0 ()) (fun s => x0.Done.length - s.1) (0, (), ()) sl2 (fun W hm => hm) ⟨(by omega), rfl⟩ ?_
         rintro ⟨k142, ⟨⟩, ⟨⟩⟩ H145
         obtain ⟨hk143, hF144⟩ : k142 ≤ x0.Done.length ∧ R5 (x0.Done.length - k142) k142 () = R5 (x0.Done.length - 0) 0 () := H145
         show CM Tryz.prog 140 _ _ _ _ [(1, .pointer (some (⟨p41, 0, none⟩ : Addr))), (4, .int .i64 ((k142 : Nat) : Int))] [iBox p41 44 K7]
         refine CM_seq (sr (wm ?_))
         refine wv (vf underlying44 rfl type41) ?_
         refine wv (vl 0 5 underlying41) ?_
         refine wv (vlen underlying41) ?_
         refine wv vlss ?_
         refine nt' ?_
         by_cases hl146 : k142 < x0.Done.length
         ·have g147 : (decide (((k142 : Nat) : Int) < ((x0.Done.length : Nat) : Int))) = true := decide_eq_true (by omega)
          refine CM_condT rfl g147 ?_
          refine CM_skip (QM_then (CM_seq (CM_block (sr ?_))))
          refine wv (vf underlying44 rfl type41) ?_
          refine wv (vl 0 5 underlying41) ?_
          refine wm ?_
          obtain ⟨a148, rfl, hb149, he150⟩ := q29 (by omega)
          refine wv (vix 7 k142 underlying41 type97) ?_
          obtain ⟨_, e158, hc151⟩ := he150 k142 _ (gt_some (show k142 < x0.Done.length from by omega))
          obtain ⟨v152, v154, v156, rfl, r153, r155, r157⟩ := tyFinished_rd e158
          have l159 : ((gt x0.Done k142).Query.Conds).length ≤ 68719476736 := (s_0.2.2.2.1.2 _ (gt_mem (show k142 < x0.Done.length from by omega))).1.1
          have l160 : ((gt x0.Done k142).Query.Out).length ≤ 68719476736 := (s_0.2.2.2.1.2 _ (gt_mem (show k142 < x0.Done.length from by omega))).1.2
          have l161 : ((gt x0.Done k142).Rows).length ≤ 68719476736 := (s_0.2.2.2.1.2 _ (gt_mem (show k142 < x0.Done.length from by omega))).2.1
          have r166 := r153
          obtain ⟨m162, A163, c164, rfl, q165⟩ := r153
          have r171 := r155
          obtain ⟨m167, A168, c169, rfl, q170⟩ := r155
          have r176 := r157
          obtain ⟨m172, A173, c174, rfl, q175⟩ := r157
          let K8 : List Value := [.int .i64 ((gt x0.Done k142).Query.Id), .int .i64 ((gt x0.Done k142).Query.Tenant), .slice A163 ((gt x0.Done k142).Query.Conds).length c164, .slice A168 ((gt x0.Done k142).Query.Out).length c169, .int .i64 ((gt x0.Done k142).Time), .int .i64 ((gt x0.Done k142).Steps), .slice A173 ((gt x0.Done k142).Rows).length c174]
          refine wv (fun W hm => rv_loadN (cs := K8) underlying97 type97 rfl rfl (hm.elCells (show (a148.add (k142 * 7)).block < w.heap.size from by rw [add_block]; exact hb149.1) hc151)) ?_
          refine WM_alloc type97 rfl (Wd_none rfl) (by decide) (fun p177 => ?_)
          refine sb 0 K8 [iBox p41 44 [.slice A12 x0.Store.Segments.length c13, .int .i64 x0.Store.Now, .int .i64 x0.Cursor, .slice A17 x0.Order.length c18, .slice A22 x0.Active.length c23, .slice (some a148) x0.Done.length c28, .slice A32 x0.Ledger.length c33, .int .i64 x0.Steps]] (fun W hm => hm) type97 ?_
          refine nt' (sr ?_)
          refine wv (vf underlying97 rfl type48) ?_
          refine wv (fun W hm => rv_loadN (cs := [.int .i64 ((gt x0.Done k142).Query.Id), .int .i64 ((gt x0.Done k142).Query.Tenant), .slice A163 ((gt x0.Done k142).Query.Conds).length c164, .slice A168 ((gt x0.Done k142).Query.Out).length c169]) underlying48 type48 rfl rfl (hm.boxPart (n := 0) rfl rfl)) ?_
          refine wcv (cl_fn cb40 rfl) (fun W hm => spec_IsQuery_c W _ ((gt x0.Done k142).Query) (tyQuery_mk (x := ((gt x0.Done k142).Query)) (hm.rdS0 r166) (hm.rdS0 r171))) ?_
          refine wv vnot ?_
          refine wm ?_
          rcases Bool.eq_false_or_eq_true (spec_IsQuery_m ((gt x0.Done k142).Query)) with g179 | g179
          ·
           refine wg (vf underlying97 rfl type3) (nt g179) ?_
           refine wg (vl 0 4 underlying3) (nt g179) ?_
           refine wg (vf underlying44 rfl type39) (nt g179) ?_
           refine wg (fun W hm => rv_fieldA (o := 1) underlying39 rfl type3 (by decide) rfl rfl) (nt g179) ?_
           refine wg (vl 1 1 underlying3) (nt g179) ?_
           refine WM_callV (cl_fn cb41 rfl) (fun W hm => spec_l1In_c W ((gt x0.Done k142).Time) 0 x0.Store.Now) (Wd_some rfl rfl rfl (bw (nt g179) rfl)) (by decide) ?_
           refine wg vnot (nt g179) ?_
           refine wv (vpF (nt g179)) ?_
           refine wm ?_
           rcases Bool.eq_false_or_eq_true (spec_l1In_m ((gt x0.Done k142).Time) 0 x0.Store.Now) with g181 | g181
           ·
            have hw := spec_l1In_fact g181
            refine wg (vf underlying97 rfl type3) (nt g181) ?_
            refine wg (vl 0 5 underlying3) (nt g181) ?_
            refine WM_callV (cl_fn cb41 rfl) (fun W hm => spec_l1In_c W ((gt x0.Done k142).Steps) 0 100000) (Wd_some rfl rfl rfl (bw (nt g181) rfl)) (by decide) ?_
            refine wg vnot (nt g181) ?_
            refine wv (vpF (nt g181)) ?_
            refine wm ?_
            rcases Bool.eq_false_or_eq_true (spec_l1In_m ((gt x0.Done k142).Steps) 0 100000) with g183 | g183
            ·
             have hw := spec_l1In_fact g183
             refine wg (vf underlying97 rfl type91) (nt g183) ?_
             refine wg (vl 0 6 underlying91) (nt g183) ?_
             refine WM_callV (cl_fn cb68 rfl) (fun W hm => spec_l9List_c W _ ((gt x0.Done k142).Rows) (hm.rdS0 r176)) (Wd_some rfl rfl rfl (bw (nt g183) rfl)) (by decide) ?_
             refine wg vnot (nt g183) ?_
             refine wv (vpF (nt g183)) ?_
             refine nt' ?_
             rcases Bool.eq_false_or_eq_true (spec_l9List_m ((gt x0.Done k142).Rows)) with g185 | g185
             ·
              refine CM_condF rfl (nt g185) ?_
              refine CM_skip (QM_block_normal (QM_then (CM_region (wm ?_))))
              refine wv (vadN k142 1 (by omega)) ?_
              refine wa (WM_nil ?_)
              have hn186 := rng_next (R := Bool) (body := F2) (k := k142) (s := ()) (s' := ()) (show k142 < x0.Done.length from by omega) (show spec_IsEngine_b2 x0 k142 = Sum.inr () from by unfold spec_IsEngine_b2; exact cond_t g179 (cond_t g181 (cond_t g183 (cond_t g185 (rfl))))) hF144
              exact QM_round (k142 + 1, (), ()) sl2 (pk [1]) ⟨(by omega), hn186⟩ (rl (by omega))
             ·
              refine CM_condT rfl (nf g185) ?_
              refine sr (wa (nt' (CM_ret (QM_block_ret (QM_then_ret (QM_then_ret (QM_block_ret (QM_then_ret ?_))))))))
              exact rtb (h := by unfold spec_IsEngine_m; exact cond_t g43 (cond_t g45 (cond_t g47 (cond_f g49 (cond_t g51 (cond_f g53 (cond_f g55 (fin_inr hE141 (fin_inl (rng_ret (body := F2) (k := k142) (s := ()) (show k142 < x0.Done.length from by omega) (show spec_IsEngine_b2 x0 k142 = Sum.inl false from by unfold spec_IsEngine_b2; exact cond_t g179 (cond_t g181 (cond_t g183 (cond_f g185 (rfl))))) hF144) rfl)))))))))
            ·
             refine ws (nf g183) ?_
             refine ws (nf g183) ?_
             refine ws (nf g183) ?_
             refine ws (nf g183) ?_
             refine wv (vpT (nf g183)) ?_
             refine nt' ?_
             refine CM_condT rfl rfl ?_
             refine sr (wa (nt' (CM_ret (QM_block_ret (QM_then_ret (QM_then_ret (QM_block_ret (QM_then_ret ?_))))))))
             exact rtb (h := by unfold spec_IsEngine_m; exact cond_t g43 (cond_t g45 (cond_t g47 (cond_f g49 (cond_t g51 (cond_f g53 (cond_f g55 (fin_inr hE141 (fin_inl (rng_ret (body := F2) (k := k142) (s := ()) (show k142 < x0.Done.length from by omega) (show spec_IsEngine_b2 x0 k142 = Sum.inl false from by unfold spec_IsEngine_b2; exact cond_t g179 (cond_t g181 (cond_f g183 (rfl)))) hF144) rfl)))))))))
           ·
            refine ws (nf g181) ?_
            refine ws (nf g181) ?_
            refine ws (nf g181) ?_
            refine ws (nf g181) ?_
            refine wv (vpT (nf g181)) ?_
            refine wm ?_
            refine wk ?_
            refine wk ?_
            refine wk ?_
            refine wk ?_
            refine wv (vpT rfl) ?_
            refine nt' ?_
            refine CM_condT rfl rfl ?_
            refine sr (wa (nt' (CM_ret (QM_block_ret (QM_then_ret (QM_then_ret (QM_block_ret (QM_then_ret ?_))))))))
            exact rtb (h := by unfold spec_IsEngine_m; exact cond_t g43 (cond_t g45 (cond_t g47 (cond_f g49 (cond_t g51 (cond_f g53 (cond_f g55 (fin_inr hE141 (fin_inl (rng_ret (body := F2) (k := k142) (s := ()) (show k142 < x0.Done.length from by omega) (show spec_IsEngine_b2 x0 k142 = Sum.inl false from by unfold spec_IsEngine_b2; exact cond_t g179 (cond_f g181 (rfl))) hF144) rfl)))))))))
          ·
           refine ws (nf g179) ?_
           refine ws (nf g179) ?_
           refine ws (nf g179) ?_
           refine ws (nf g179) ?_
           refine ws (nf g179) ?_
           refine ws (nf g179) ?_
           refine ws (nf g179) ?_
           refine wv (vpT (nf g179)) ?_
           refine wm ?_
           refine wk ?_
           refine wk ?_
           refine wk ?_
           refine wk ?_
           refine wv (vpT rfl) ?_
           refine wm ?_
           refine wk ?_
           refine wk ?_
           refine wk ?_
           refine wk ?_
           refine wv (vpT rfl) ?_
           refine nt' ?_
           refine CM_condT rfl rfl ?_
           refine sr (wa (nt' (CM_ret (QM_block_ret (QM_then_ret (QM_then_ret (QM_block_ret (QM_then_ret ?_))))))))
           exact rtb (h := by unfold spec_IsEngine_m; exact cond_t g43 (cond_t g45 (cond_t g47 (cond_f g49 (cond_t g51 (cond_f g53 (cond_f g55 (fin_inr hE141 (fin_inl (rng_ret (body := F2) (k := k142) (s := ()) (show k142 < x0.Done.length from by omega) (show spec_IsEngine_b2 x0 k142 = Sum.inl false from by unfold spec_IsEngine_b2; exact cond_f g179 (rfl)) hF144) rfl)))))))))
         ·have g147 : (decide (((k142 : Nat) : Int) < ((x0.Done.length : Nat) : Int))) = false := decide_eq_false (by omega)
          refine CM_condF rfl g147 ?_
          refine CM_exit (QM_then_exit (QM_then_exit ?_))
          have hE187 : R5 (x0.Done.length - 0) 0 () = Sum.inr () := rng_end hl146 hF144
          refine QM_block_hit (QM_then (CM_seq (sr (wa (nt' (CM_block ?_))))))
          let F3 := fun k (_ : Unit) => spec_IsEngine_b3 x0 k
          let R6 := rng (R := Bool) F3
          refine CM_loop (σ := Nat × (Unit) × (Unit)) (fun s => [(1, .pointer (some (⟨p41, 0, none⟩ : Addr))), (6, .int .i64 ((s.1 : Nat) : Int))]) (fun s => [iBox p41 44 K7]) (fun s => s.1 ≤ x0.Ledger.length ∧ R6 (x0.Ledger.length - s.1) s.1 s.2.1 = R6 (x0.Ledger.length - 0) 0 ()) (fun s => x0.Ledger.length - s.1) (0, (), ()) sl2 (fun W hm => hm) ⟨(by omega), rfl⟩ ?_
          rintro ⟨k188, ⟨⟩, ⟨⟩⟩ H191
          obtain ⟨hk189, hF190⟩ : k188 ≤ x0.Ledger.length ∧ R6 (x0.Ledger.length - k188) k188 () = R6 (x0.Ledger.length - 0) 0 () := H191
          show CM Tryz.prog 140 _ _ _ _ [(1, .pointer (some (⟨p41, 0, none⟩ : Addr))), (6, .int .i64 ((k188 : Nat) : Int))] [iBox p41 44 K7]
          refine CM_seq (sr (wm ?_))
          refine wv (vf underlying44 rfl type42) ?_
          refine wv (vl 0 6 underlying42) ?_
          refine wv (vlen underlying42) ?_
          refine wv vlss ?_
          refine nt' ?_
          by_cases hl192 : k188 < x0.Ledger.length
          ·have g193 : (decide (((k188 : Nat) : Int) < ((x0.Ledger.length : Nat) : Int))) = true := decide_eq_true (by omega)
           refine CM_condT rfl g193 ?_
           refine CM_skip (QM_then (CM_seq (CM_block (sr ?_))))
           refine wv (vf underlying44 rfl type42) ?_
           refine wv (vl 0 6 underlying42) ?_
           refine wm ?_
           obtain ⟨a194, rfl, hb195, he196⟩ := q34 (by omega)
           refine wv (vix 5 k188 underlying42 type99) ?_
           obtain ⟨_, e204, hc197⟩ := he196 k188 _ (gt_some (show k188 < x0.Ledger.length from by omega))
           obtain ⟨v198, v200, v202, rfl, r199, r201, r203⟩ := tyCharge_rd e204
           have l205 : ((gt x0.Ledger k188).Ids).length ≤ 68719476736 := (s_0.2.2.2.2.2 _ (gt_mem (show k188 < x0.Ledger.length from by omega))).1
           have l206 : ((gt x0.Ledger k188).Tenants).length ≤ 68719476736 := (s_0.2.2.2.2.2 _ (gt_mem (show k188 < x0.Ledger.length from by omega))).2.1
           have l207 : ((gt x0.Ledger k188).Rows).length ≤ 68719476736 := (s_0.2.2.2.2.2 _ (gt_mem (show k188 < x0.Ledger.length from by omega))).2.2
           have r212 := r199
           obtain ⟨m208, A209, c210, rfl, q211⟩ := r199
           have r217 := r201
           obtain ⟨m213, A214, c215, rfl, q216⟩ := r201
           have r222 := r203
           obtain ⟨m218, A219, c220, rfl, q221⟩ := r203
           refine wv (fun W hm => rv_loadN (cs := [.int .i64 ((gt x0.Ledger k188).Segment), .int .i64 ((gt x0.Ledger k188).Base), .slice A209 ((gt x0.Ledger k188).Ids).length c210, .slice A214 ((gt x0.Ledger k188).Tenants).length c215, .slice A219 ((gt x0.Ledger k188).Rows).length c220]) underlying99 type99 rfl rfl (hm.elCells (show (a194.add (k188 * 5)).block < w.heap.size from by rw [add_block]; exact hb195.1) hc197)) ?_
           refine wcv (cl_fn cb69 rfl) (fun W hm => spec_IsCharge_c W _ (gt x0.Ledger k188) (tyCharge_mk (x := (gt x0.Ledger k188)) (hm.rdS0 r212) (hm.rdS0 r217) (hm.rdS0 r222))) ?_
           refine wv vnot ?_
           refine nt' ?_
           rcases Bool.eq_false_or_eq_true (spec_IsCharge_m (gt x0.Ledger k188)) with g224 | g224
           ·
            refine CM_condF rfl (nt g224) ?_
            refine CM_skip (QM_block_normal (QM_then (CM_region (wm ?_))))
            refine wv (vadN k188 1 (by omega)) ?_
            refine wa (WM_nil ?_)
            have hn225 := rng_next (R := Bool) (body := F3) (k := k188) (s := ()) (s' := ()) (show k188 < x0.Ledger.length from by omega) (show spec_IsEngine_b3 x0 k188 = Sum.inr () from by unfold spec_IsEngine_b3; exact cond_t g224 (rfl)) hF190
            exact QM_round (k188 + 1, (), ()) sl2 (fun W hm => hm) ⟨(by omega), hn225⟩ (rl (by omega))
           ·
            refine CM_condT rfl (nf g224) ?_
            refine sr (wa (nt' (CM_ret (QM_block_ret (QM_then_ret (QM_then_ret (QM_block_ret (QM_then_ret ?_))))))))
            exact rtb (h := by unfold spec_IsEngine_m; exact cond_t g43 (cond_t g45 (cond_t g47 (cond_f g49 (cond_t g51 (cond_f g53 (cond_f g55 (fin_inr hE141 (fin_inr hE187 (fin_inl (rng_ret (body := F3) (k := k188) (s := ()) (show k188 < x0.Ledger.length from by omega) (show spec_IsEngine_b3 x0 k188 = Sum.inl false from by unfold spec_IsEngine_b3; exact cond_f g224 (rfl)) hF190) rfl))))))))))
          ·have g193 : (decide (((k188 : Nat) : Int) < ((x0.Ledger.length : Nat) : Int))) = false := decide_eq_false (by omega)
           refine CM_condF rfl g193 ?_
           refine CM_exit (QM_then_exit (QM_then_exit ?_))
           have hE226 : R6 (x0.Ledger.length - 0) 0 () = Sum.inr () := rng_end hl192 hF190
           refine QM_block_hit (QM_then (sr (wa (nt' (CM_ret ?_)))))
           exact rtb (h := by unfold spec_IsEngine_m; exact cond_t g43 (cond_t g45 (cond_t g47 (cond_f g49 (cond_t g51 (cond_f g53 (cond_f g55 (fin_inr hE141 (fin_inr hE187 (fin_inr hE226 (rfl)))))))))))
     ·
      refine ws (nf g51) ?_
      refine ws (nf g51) ?_
      refine ws (nf g51) ?_
      refine ws (nf g51) ?_
      refine wv (vpT (nf g51)) ?_
      refine wm ?_
      refine wk ?_
      refine wk ?_
      refine wk ?_
      refine wk ?_
      refine wv (vpT rfl) ?_
      refine nt' ?_
      refine CM_condT rfl rfl ?_
      refine sr (wa (nt' (CM_ret (QM_then_ret ?_))))
      exact rtb (h := by unfold spec_IsEngine_m; exact cond_t g43 (cond_t g45 (cond_t g47 (cond_f g49 (cond_f g51 (rfl))))))
   ·
    refine ws (nf g47) ?_
    refine ws (nf g47) ?_
    refine ws (nf g47) ?_
    refine ws (nf g47) ?_
    refine wv (vpT (nf g47)) ?_
    refine wm ?_
    refine wk ?_
    refine wk ?_
    refine wk ?_
    refine wk ?_
    refine wv (vpT rfl) ?_
    refine wm ?_
    refine wk ?_
    refine wk ?_
    refine wk ?_
    refine wk ?_
    refine wv (vpT rfl) ?_
    refine wm ?_
    refine wk ?_
    refine wk ?_
    refine wk ?_
    refine wk ?_
    refine wv (vpT rfl) ?_
    refine nt' ?_
    refine CM_condT rfl rfl ?_
    refine sr (wa (nt' (CM_ret (QM_then_ret ?_))))
    exact rtb (h := by unfold spec_IsEngine_m; exact cond_t g43 (cond_t g45 (cond_f g47 (rfl))))
  ·
   refine ws (nf g45) ?_
   refine ws (nf g45) ?_
   refine ws (nf g45) ?_
   refine ws (nf g45) ?_
   refine wv (vpT (nf g45)) ?_
   refine wm ?_
   refine wk ?_
   refine wk ?_
   refine wk ?_
   refine wk ?_
   refine wv (vpT rfl) ?_
   refine wm ?_
   refine wk ?_
   refine wk ?_
   refine wk ?_
   refine wk ?_
   refine wv (vpT rfl) ?_
   refine wm ?_
   refine wk ?_
   refine wk ?_
   refine wk ?_
   refine wk ?_
   refine wv (vpT rfl) ?_
   refine wm ?_
   refine wk ?_
   refine wk ?_
   refine wk ?_
   refine wk ?_
   refine wv (vpT rfl) ?_
   refine nt' ?_
   refine CM_condT rfl rfl ?_
   refine sr (wa (nt' (CM_ret (QM_then_ret ?_))))
   exact rtb (h := by unfold spec_IsEngine_m; exact cond_t g43 (cond_f g45 (rfl)))
 ·
  refine ws (nf g43) ?_
  refine ws (nf g43) ?_
  refine ws (nf g43) ?_
  refine ws (nf g43) ?_
  refine ws (nf g43) ?_
  refine ws (nf g43) ?_
  refine ws (nf g43) ?_
  refine ws (nf g43) ?_
  refine ws (nf g43) ?_
  refine wv (vpT (nf g43)) ?_
  refine wm ?_
  refine wk ?_
  refine wk ?_
  refine wk ?_
  refine wk ?_
  refine wv (vpT rfl) ?_
  refine wm ?_
  refine wk ?_
  refine wk ?_
  refine wk ?_
  refine wk ?_
  refine wv (vpT rfl) ?_
  refine wm ?_
  refine wk ?_
  refine wk ?_
  refine wk ?_
  refine wk ?_
  refine wv (vpT rfl) ?_
  refine wm ?_
  refine wk ?_
  refine wk ?_
  refine wk ?_
  refine wk ?_
  refine wv (vpT rfl) ?_
  refine wm ?_
  refine wk ?_
  refine wk ?_
  refine wk ?_
  refine wk ?_
  refine wv (vpT rfl) ?_
  refine nt' ?_
  refine CM_condT rfl rfl ?_
  refine sr (wa (nt' (CM_ret (QM_then_ret ?_))))
  exact rtb (h := by unfold spec_IsEngine_m; exact cond_f g43 (rfl))

def spec_FindActive_b1 (x0 : DEngine) (x1 : Int) (k37 : Nat) : Int ⊕ (Unit) :=
 cond (((gt x0.Active k37).Query.Id) == x1) (Sum.inl ((k37 : Nat) : Int)) (Sum.inr ())
def spec_FindActive_m (x0 : DEngine) (x1 : Int) : Int :=
 Sum.elim id (fun (s : Unit) => (-1)) (rng (R := Int) (fun k (_ : Unit) => spec_FindActive_b1 x0 x1 k) (x0.Active.length - 0) 0 ())
theorem cb42 : Cb Tryz.prog 42 := ⟨f42, _, func42, rfl, by decide⟩
theorem spec_FindActive_c (w : World) (z0 : List Value) (x0 : DEngine) (x1 : Int) (r_0 : tyEngine.rd w w.heap.size z0 x0) :
  Calls Tryz.prog 42 #[.agg z0.toArray, .int .i64 x1] w fun e w' => e = .returned (.int .i64 (spec_FindActive_m x0 x1)) ∧ Below w.heap.size w w' := by
 obtain ⟨v1, v3, v5, v7, v9, rfl, r2, r4, r6, r8, r10⟩ := tyEngine_rd r_0
 have r15 := r2
 obtain ⟨m11, A12, c13, rfl, q14⟩ := r2
 have r20 := r4
 obtain ⟨m16, A17, c18, rfl, q19⟩ := r4
 have r25 := r6
 obtain ⟨m21, A22, c23, rfl, q24⟩ := r6
 have r30 := r8
 obtain ⟨m26, A27, c28, rfl, q29⟩ := r8
 have r35 := r10
 obtain ⟨m31, A32, c33, rfl, q34⟩ := r10
 refine ce2 (L := [(0, .agg #[.slice A12 x0.Store.Segments.length c13, .int .i64 x0.Store.Now, .int .i64 x0.Cursor, .slice A17 x0.Order.length c18, .slice A22 x0.Active.length c23, .slice A27 x0.Done.length c28, .slice A32 x0.Ledger.length c33, .int .i64 x0.Steps]), (1, .int .i64 x1)]) (N := 23) func42 ?_
 refine sr ?_
 refine WM_box rfl (Wd_none rfl) (by decide) (fun p36 => ?_)
 refine wa (nt' (CM_seq (sr (wa (nt' (CM_block ?_))))))
 let F1 := fun k (_ : Unit) => spec_FindActive_b1 x0 x1 k
 let R2 := rng (R := Int) F1
 let K3 : List Value := [.slice A12 x0.Store.Segments.length c13, .int .i64 x0.Store.Now, .int .i64 x0.Cursor, .slice A17 x0.Order.length c18, .slice A22 x0.Active.length c23, .slice A27 x0.Done.length c28, .slice A32 x0.Ledger.length c33, .int .i64 x0.Steps]
 refine CM_loop (σ := Nat × (Unit) × (Unit)) (fun s => [(1, .int .i64 x1), (2, .pointer (some (⟨p36, 0, none⟩ : Addr))), (5, .int .i64 ((s.1 : Nat) : Int))]) (fun s => [iBox p36 44 K3]) (fun s => s.1 ≤ x0.Active.length ∧ R2 (x0.Active.length - s.1) s.1 s.2.1 = R2 (x0.Active.length - 0) 0 ()) (fun s => x0.Active.length - s.1) (0, (), ()) sl3 (fun W hm => hm) ⟨(by omega), rfl⟩ ?_
 rintro ⟨k37, ⟨⟩, ⟨⟩⟩ H40
 obtain ⟨hk38, hF39⟩ : k37 ≤ x0.Active.length ∧ R2 (x0.Active.length - k37) k37 () = R2 (x0.Active.length - 0) 0 () := H40
 show CM Tryz.prog 23 _ _ _ _ [(1, .int .i64 x1), (2, .pointer (some (⟨p36, 0, none⟩ : Addr))), (5, .int .i64 ((k37 : Nat) : Int))] [iBox p36 44 K3]
 refine CM_seq (sr (wm ?_))
 refine wv (vf underlying44 rfl type40) ?_
 refine wv (vl 0 4 underlying40) ?_
 refine wv (vlen underlying40) ?_
 refine wv vlss ?_
 refine nt' ?_
 by_cases hl41 : k37 < x0.Active.length
 ·have g42 : (decide (((k37 : Nat) : Int) < ((x0.Active.length : Nat) : Int))) = true := decide_eq_true (by omega)
  refine CM_condT rfl g42 ?_
  refine CM_skip (QM_then (CM_seq (CM_block (sr ?_))))
  refine wv (vf underlying44 rfl type40) ?_
  refine wv (vl 0 4 underlying40) ?_
  refine wm ?_
  obtain ⟨a43, rfl, hb44, he45⟩ := q24 (by omega)
  refine wv (vix 10 k37 underlying40 type93) ?_
  refine wv (vf underlying93 rfl type48) ?_
  refine wv (fun W hm => rv_fieldA (o := 0) underlying48 rfl type3 (by decide) rfl rfl) ?_
  obtain ⟨_, e55, hc46⟩ := he45 k37 _ (gt_some (show k37 < x0.Active.length from by omega))
  obtain ⟨v47, v49, v51, v53, rfl, r48, r50, r52, r54⟩ := tyActive_rd e55
  have r60 := r48
  obtain ⟨m56, A57, c58, rfl, q59⟩ := r48
  have r65 := r50
  obtain ⟨m61, A62, c63, rfl, q64⟩ := r50
  have r70 := r52
  obtain ⟨m66, A67, c68, rfl, q69⟩ := r52
  have r75 := r54
  obtain ⟨m71, A72, c73, rfl, q74⟩ := r54
  refine wv (fun W hm => rv_load underlying3 rfl rfl ((hm.cell0 (show ((a43.add (k37 * 10)).add 0).block < w.heap.size from by rw [add_block, add_block]; exact hb44.1)).trans (hc46 0 _ rfl))) ?_
  refine wm ?_
  refine wv (fun W hm => rv_eql rfl rfl) ?_
  refine nt' ?_
  by_cases h76 : ((gt x0.Active k37).Query.Id) = x1
  ·have g77 : (((gt x0.Active k37).Query.Id) == x1) = true := beq_iff_eq.2 h76
   refine CM_condT rfl g77 ?_
   refine sr (wm (wa (nt' (CM_ret (QM_block_ret (QM_then_ret (QM_then_ret (QM_block_ret (QM_then_ret ?_)))))))))
   exact rti (h := by unfold spec_FindActive_m; exact fin_inl (rng_ret (body := F1) (k := k37) (s := ()) (show k37 < x0.Active.length from by omega) (show spec_FindActive_b1 x0 x1 k37 = Sum.inl ((k37 : Nat) : Int) from by unfold spec_FindActive_b1; exact cond_t g77 (rfl)) hF39) rfl)
  ·have g77 : (((gt x0.Active k37).Query.Id) == x1) = false := beq_eq_false_iff_ne.2 h76
   refine CM_condF rfl g77 ?_
   refine CM_skip (QM_block_normal (QM_then (CM_region (wm ?_))))
   refine wv (vadN k37 1 (by omega)) ?_
   refine wa (WM_nil ?_)
   have hn78 := rng_next (R := Int) (body := F1) (k := k37) (s := ()) (s' := ()) (show k37 < x0.Active.length from by omega) (show spec_FindActive_b1 x0 x1 k37 = Sum.inr () from by unfold spec_FindActive_b1; exact cond_f g77 (rfl)) hF39
   exact QM_round (k37 + 1, (), ()) sl3 (fun W hm => hm) ⟨(by omega), hn78⟩ (rl (by omega))
 ·have g42 : (decide (((k37 : Nat) : Int) < ((x0.Active.length : Nat) : Int))) = false := decide_eq_false (by omega)
  refine CM_condF rfl g42 ?_
  refine CM_exit (QM_then_exit (QM_then_exit ?_))
  have hE79 : R2 (x0.Active.length - 0) 0 () = Sum.inr () := rng_end hl41 hF39
  refine QM_block_hit (QM_then (sr (wa (nt' (CM_ret ?_)))))
  exact rti (h := by unfold spec_FindActive_m; exact fin_inr hE79 (rfl))

def admJ (xs : List DActive) (q : Int) : Nat := xs.findIdx (fun a => decide (q < a.Query.Id))
theorem admJ_at {xs : List DActive} {q : Int} (h : admJ xs q < xs.length) : q < (gt xs (admJ xs q)).Query.Id := by
  have h2 : xs.findIdx (fun a => decide (q < a.Query.Id)) < xs.length := h
  have h1 := List.findIdx_getElem (w := h2)
  rw [gt_at h]
  exact of_decide_eq_true h1
theorem admJ_no {xs : List DActive} {q : Int} {j : Nat} (h : j < admJ xs q) : (gt xs j).Query.Id ≤ q := by
  have h1 := List.not_of_lt_findIdx (xs := xs) (p := fun a => decide (q < a.Query.Id)) h
  have h2 : j < xs.length := Nat.lt_of_lt_of_le h List.findIdx_le_length
  have h3 : decide (q < (xs[j]'h2).Query.Id) = false := h1
  have h4 := of_decide_eq_false h3
  rw [gt_at h2]
  omega
def spec_AdmitQuery_b2 (x0 : DEngine) (x1 : DQuery) (k188 : Nat) (s189 : Bool) : (DEngine × Bool) ⊕ (Bool) :=
 cond s189 (Sum.inr s189) (cond (decide (x1.Id < ((gt x0.Active k188).Query.Id))) (Sum.inr true) (Sum.inr s189))
def spec_AdmitQuery_b1 (k137 : Nat) (d140 : (List Int)) : (DEngine × Bool) ⊕ ((List Int)) :=
 Sum.inr (d140 ++ [((k137 : Nat) : Int)])
def spec_AdmitQuery_m (x0 : DEngine) (x1 : DQuery) (x2 : Int) : (DEngine × Bool) :=
 cond (spec_IsEngine_m x0) (cond (spec_IsQuery_m x1) (cond (spec_l1In_m x2 0 32) (cond (decide (0 ≤ (spec_FindActive_m x0 x1.Id))) (x0, false) (cond (decide (8 ≤ ((x0.Active.length : Nat) : Int))) (x0, false) (Sum.elim id (fun (s1_ : (List Int)) => Sum.elim id (fun (s : Bool) => cond s ((⟨x0.Store, x0.Cursor, x0.Order, ((List.take (admJ x0.Active x1.Id) x0.Active ++ [(⟨x1, x0.Store.Now, s1_, 0, 0, x2, []⟩ : DActive)]) ++ List.drop (admJ x0.Active x1.Id) x0.Active), x0.Done, x0.Ledger, x0.Steps⟩ : DEngine), true) ((⟨x0.Store, x0.Cursor, x0.Order, ((List.take x0.Active.length x0.Active ++ [(⟨x1, x0.Store.Now, s1_, 0, 0, x2, []⟩ : DActive)]) ++ List.drop x0.Active.length x0.Active), x0.Done, x0.Ledger, x0.Steps⟩ : DEngine), true)) (rng (R := (DEngine × Bool)) (fun k (s : Bool) => spec_AdmitQuery_b2 x0 x1 k s) (x0.Active.length - 0) 0 false)) (rng (R := (DEngine × Bool)) (fun k (s : (List Int)) => spec_AdmitQuery_b1 k s) (x0.Store.Segments.length - 0) 0 [])))) (x0, false)) (x0, false)) (x0, false)
theorem cb18 : Cb Tryz.prog 18 := ⟨f18, _, func18, rfl, by decide⟩
theorem spec_AdmitQuery_c (w : World) (z0 : List Value) (x0 : DEngine) (z1 : List Value) (x1 : DQuery) (x2 : Int) (r_0 : tyEngine.rd w w.heap.size z0 x0) (r_1 : tyQuery.rd w w.heap.size z1 x1) (s_0 : smEngine 68719476736 x0) (s_1 : smQuery 68719476736 x1) :
  Calls Tryz.prog 18 #[.agg z0.toArray, .agg z1.toArray, .int .i64 x2] w fun e w' => ∃ v : List Value, e = .returned (.tuple #[.agg v.toArray, .bool ((spec_AdmitQuery_m x0 x1 x2).2)]) ∧ Mem w.heap.size w [iOwn tyEngine v (spec_AdmitQuery_m x0 x1 x2).1] w' := by
 obtain ⟨v1, v3, v5, v7, v9, rfl, r2, r4, r6, r8, r10⟩ := tyEngine_rd r_0
 have r15 := r2
 obtain ⟨m11, A12, c13, rfl, q14⟩ := r2
 have r20 := r4
 obtain ⟨m16, A17, c18, rfl, q19⟩ := r4
 have r25 := r6
 obtain ⟨m21, A22, c23, rfl, q24⟩ := r6
 have r30 := r8
 obtain ⟨m26, A27, c28, rfl, q29⟩ := r8
 have r35 := r10
 obtain ⟨m31, A32, c33, rfl, q34⟩ := r10
 obtain ⟨v36, v38, rfl, r37, r39⟩ := tyQuery_rd r_1
 have r44 := r37
 obtain ⟨m40, A41, c42, rfl, q43⟩ := r37
 have r49 := r39
 obtain ⟨m45, A46, c47, rfl, q48⟩ := r39
 have l50 : x0.Store.Segments.length ≤ 68719476736 := s_0.1.1
 have l51 : x0.Order.length ≤ 68719476736 := s_0.2.1
 have l52 : x0.Active.length ≤ 68719476736 := s_0.2.2.1.1
 have l53 : x0.Done.length ≤ 68719476736 := s_0.2.2.2.1.1
 have l54 : x0.Ledger.length ≤ 68719476736 := s_0.2.2.2.2.1
 have l55 : x1.Conds.length ≤ 68719476736 := s_1.1
 have l56 : x1.Out.length ≤ 68719476736 := s_1.2
 refine ce3 (L := [(0, .agg #[.slice A12 x0.Store.Segments.length c13, .int .i64 x0.Store.Now, .int .i64 x0.Cursor, .slice A17 x0.Order.length c18, .slice A22 x0.Active.length c23, .slice A27 x0.Done.length c28, .slice A32 x0.Ledger.length c33, .int .i64 x0.Steps]), (1, .agg #[.int .i64 x1.Id, .int .i64 x1.Tenant, .slice A41 x1.Conds.length c42, .slice A46 x1.Out.length c47]), (2, .int .i64 x2)]) (N := 112) func18 ?_
 refine sr ?_
 refine WM_box rfl (Wd_none rfl) (by decide) (fun p57 => ?_)
 refine WM_box rfl (Wd_none rfl) (by decide) (fun p58 => ?_)
 refine WM_alloc type44 rfl (Wd_none rfl) (by decide) (fun p59 => ?_)
 refine wa (nt' (sr ?_))
 let K5 : List Value := [.slice A12 x0.Store.Segments.length c13, .int .i64 x0.Store.Now, .int .i64 x0.Cursor, .slice A17 x0.Order.length c18, .slice A22 x0.Active.length c23, .slice A27 x0.Done.length c28, .slice A32 x0.Ledger.length c33, .int .i64 x0.Steps]
 refine wv (fun W hm => rv_loadN (cs := K5) underlying44 type44 rfl rfl (hm.boxCells (n := 2) rfl)) ?_
 refine wcs tyEngine x0 (cl_fn cb38 rfl) (fun W hm => spec_l9Copy_c2 W _ x0 (tyEngine_mk (x := x0) (hm.rdS0 r15) (hm.rdS0 r20) (hm.rdS0 r25) (hm.rdS0 r30) (hm.rdS0 r35)) s_0) (fun z60 => ?_)
 refine tyEngine_sp ?_
 rintro ⟨v61, v62, v63, v64, v65⟩ rfl
 refine WM_form (n := 0) rfl ?_
 rintro A66 c67 rfl m68
 refine WM_form (n := 1) rfl ?_
 rintro A70 c71 rfl m72
 refine WM_form (n := 2) rfl ?_
 rintro A74 c75 rfl m76
 refine WM_form (n := 3) rfl ?_
 rintro A78 c79 rfl m80
 refine WM_form (n := 4) rfl ?_
 rintro A82 c83 rfl m84
 refine WM_alloc type44 rfl (Wd_none rfl) (by decide) (fun p86 => ?_)
 let K6 : List Value := [.slice A66 x0.Store.Segments.length c67, .int .i64 x0.Store.Now, .int .i64 x0.Cursor, .slice A70 x0.Order.length c71, .slice A74 x0.Active.length c75, .slice A78 x0.Done.length c79, .slice A82 x0.Ledger.length c83, .int .i64 x0.Steps]
 let K7 : List Value := [.slice none 0 0, .int .i64 0, .int .i64 0, .slice none 0 0, .slice none 0 0, .slice none 0 0, .slice none 0 0, .int .i64 0]
 let K8 : List Value := [.int .i64 x1.Id, .int .i64 x1.Tenant, .slice A41 x1.Conds.length c42, .slice A46 x1.Out.length c47]
 let I16 : It := iOwn (tSl (tSl tyVersion 142) 122) [.slice A66 x0.Store.Segments.length c67] x0.Store.Segments
 let I17 : It := iOwn (tSl tInt 3) [.slice A70 x0.Order.length c71] x0.Order
 let I18 : It := iOwn (tSl tyActive 93) [.slice A74 x0.Active.length c75] x0.Active
 let I19 : It := iOwn (tSl tyFinished 97) [.slice A78 x0.Done.length c79] x0.Done
 let I20 : It := iOwn (tSl tyCharge 99) [.slice A82 x0.Ledger.length c83] x0.Ledger
 refine sb 0 K6 [I16, I17, I18, I19, I20, iBox p59 44 K7, iBox p58 48 K8, iBox p57 44 K5] (fun W hm => hm) type44 ?_
 refine nt' (CM_seq (sr ?_))
 refine wv (fun W hm => rv_loadN (cs := K5) underlying44 type44 rfl rfl (hm.boxCells (n := 8) rfl)) ?_
 refine wcv (cl_fn cb39 rfl) (fun W hm => spec_IsEngine_c W _ x0 (tyEngine_mk (x := x0) (hm.rdS0 r15) (hm.rdS0 r20) (hm.rdS0 r25) (hm.rdS0 r30) (hm.rdS0 r35)) s_0) ?_
 refine wv vnot ?_
 refine wm ?_
 rcases Bool.eq_false_or_eq_true (spec_IsEngine_m x0) with g88 | g88
 ·
  refine wg (fun W hm => rv_loadN (cs := K8) underlying48 type48 rfl rfl (hm.boxCells (n := 7) rfl)) (nt g88) ?_
  refine WM_callV (cl_fn cb40 rfl) (fun W hm => spec_IsQuery_c W _ x1 (tyQuery_mk (x := x1) (hm.rdS0 r44) (hm.rdS0 r49))) (Wd_some rfl rfl rfl (bw (nt g88) rfl)) (by decide) ?_
  refine wg vnot (nt g88) ?_
  refine wv (vpF (nt g88)) ?_
  refine wm ?_
  rcases Bool.eq_false_or_eq_true (spec_IsQuery_m x1) with g90 | g90
  ·
   refine wg vmv (nt g90) ?_
   refine WM_callV (cl_fn cb41 rfl) (fun W hm => spec_l1In_c W x2 0 32) (Wd_some rfl rfl rfl (bw (nt g90) rfl)) (by decide) ?_
   refine wg vnot (nt g90) ?_
   refine wv (vpF (nt g90)) ?_
   refine wm ?_
   rcases Bool.eq_false_or_eq_true (spec_l1In_m x2 0 32) with g92 | g92
   ·
    have hw := spec_l1In_fact g92
    refine wg (fun W hm => rv_loadN (cs := K5) underlying44 type44 rfl rfl (hm.boxCells (n := 8) rfl)) (nt g92) ?_
    refine wg (vf underlying48 rfl type3) (nt g92) ?_
    refine wg (vl 7 0 underlying3) (nt g92) ?_
    refine WM_callV (cl_fn cb42 rfl) (fun W hm => spec_FindActive_c W _ x0 x1.Id (tyEngine_mk (x := x0) (hm.rdS0 r15) (hm.rdS0 r20) (hm.rdS0 r25) (hm.rdS0 r30) (hm.rdS0 r35))) (Wd_some rfl rfl rfl (bw (nt g92) rfl)) (by decide) ?_
    refine wg (fun W hm => rv_geq rfl rfl) (nt g92) ?_
    refine wv (vpF (nt g92)) ?_
    refine wm ?_
    by_cases h93 : 0 ≤ (spec_FindActive_m x0 x1.Id)
    ·have g94 : (decide (0 ≤ (spec_FindActive_m x0 x1.Id))) = true := decide_eq_true h93
     refine ws g94 ?_
     refine ws g94 ?_
     refine ws g94 ?_
     refine ws g94 ?_
     refine wv (vpT g94) ?_
     refine nt' ?_
     refine CM_condT rfl rfl ?_
     refine sr ?_
     refine wv (fun W hm => rv_loadN (cs := K6) underlying44 type44 rfl rfl (hm.boxCells (n := 0) rfl)) ?_
     refine sb 0 K6 [iBox p86 44 K6, I16, I17, I18, I19, I20, iBox p58 48 K8, iBox p57 44 K5] (pk [6, 0, 1, 2, 3, 4, 5, 7, 8]) type44 ?_
     refine wa (nt' (CM_ret (QM_then_ret ?_)))
     refine QM_r2 rfl (RR_cell (n := 0) rfl rfl underlying44 type44 rfl) (RR_tmp rfl) (fun W hm => ⟨K6, ?_, ?_⟩)
     ·first | rw [(show spec_AdmitQuery_m x0 x1 x2 = (x0, false) from by unfold spec_AdmitQuery_m; exact cond_t g88 (cond_t g90 (cond_t g92 (cond_t g94 (rfl)))))] | rfl
      try rfl
     ·rw [(show spec_AdmitQuery_m x0 x1 x2 = (x0, false) from by unfold spec_AdmitQuery_m; exact cond_t g88 (cond_t g90 (cond_t g92 (cond_t g94 (rfl)))))]; exact Mem.join (is := [I16, I17, I18, I19, I20]) (js := []) (fun _ _ hs => tyEngine_join (x := x0) hs) (hm.pick [2, 3, 4, 5, 6] (by decide))
    ·have g94 : (decide (0 ≤ (spec_FindActive_m x0 x1.Id))) = false := decide_eq_false h93
     refine wg (vf underlying44 rfl type40) g94 ?_
     refine wg (vl 8 4 underlying40) g94 ?_
     refine wg (vlen underlying40) g94 ?_
     refine wg (fun W hm => rv_geq rfl rfl) g94 ?_
     refine wv (vpF g94) ?_
     refine nt' ?_
     by_cases h95 : 8 ≤ ((x0.Active.length : Nat) : Int)
     ·have g96 : (decide (8 ≤ ((x0.Active.length : Nat) : Int))) = true := decide_eq_true h95
      refine CM_condT rfl g96 ?_
      refine sr ?_
      refine wv (fun W hm => rv_loadN (cs := K6) underlying44 type44 rfl rfl (hm.boxCells (n := 0) rfl)) ?_
      refine sb 0 K6 [iBox p86 44 K6, I16, I17, I18, I19, I20, iBox p58 48 K8, iBox p57 44 K5] (pk [6, 0, 1, 2, 3, 4, 5, 7, 8]) type44 ?_
      refine wa (nt' (CM_ret (QM_then_ret ?_)))
      refine QM_r2 rfl (RR_cell (n := 0) rfl rfl underlying44 type44 rfl) (RR_tmp rfl) (fun W hm => ⟨K6, ?_, ?_⟩)
      ·first | rw [(show spec_AdmitQuery_m x0 x1 x2 = (x0, false) from by unfold spec_AdmitQuery_m; exact cond_t g88 (cond_t g90 (cond_t g92 (cond_f g94 (cond_t g96 (rfl))))))] | rfl
       try rfl
      ·rw [(show spec_AdmitQuery_m x0 x1 x2 = (x0, false) from by unfold spec_AdmitQuery_m; exact cond_t g88 (cond_t g90 (cond_t g92 (cond_f g94 (cond_t g96 (rfl))))))]; exact Mem.join (is := [I16, I17, I18, I19, I20]) (js := []) (fun _ _ hs => tyEngine_join (x := x0) hs) (hm.pick [2, 3, 4, 5, 6] (by decide))
     ·have g96 : (decide (8 ≤ ((x0.Active.length : Nat) : Int))) = false := decide_eq_false h95
      refine CM_condF rfl g96 ?_
      refine CM_skip (QM_then (CM_seq ?_))
      refine CM_cut (σ := Nat × Option Addr × Nat × Option Addr × Nat) (fun s => [(3, .pointer (some (⟨p57, 0, none⟩ : Addr))), (4, .pointer (some (⟨p58, 0, none⟩ : Addr))), (6, .pointer (some (⟨p59, 0, none⟩ : Addr))), (8, .pointer (some (⟨p86, 0, none⟩ : Addr))), (9, .pointer (some (⟨s.1, 0, none⟩ : Addr)))]) (fun s => [iBox s.1 93 [.int .i64 x1.Id, .int .i64 x1.Tenant, .slice s.2.1 x1.Conds.length s.2.2.1, .slice s.2.2.2.1 x1.Out.length s.2.2.2.2, .int .i64 x0.Store.Now, .slice none 0 0, .int .i64 0, .int .i64 0, .int .i64 x2, .slice none 0 0], iOwn (tSl tyCond 102) [.slice s.2.1 x1.Conds.length s.2.2.1] x1.Conds, iOwn (tSl tInt 3) [.slice s.2.2.2.1 x1.Out.length s.2.2.2.2] x1.Out, iBox p86 44 K6, I16, I17, I18, I19, I20, iBox p59 44 K7, iBox p58 48 K8, iBox p57 44 K5]) (fun _ => True) ?_ ?_
      ·
       refine rb 9 (s := [iBox p86 44 K6, I16, I17, I18, I19, I20, iBox p59 44 K7, iBox p58 48 K8, iBox p57 44 K5]) (fun W hm => hm) ?_
       refine qt 9 0 1 rfl (fun W hm => rv_loadN (cs := K8) underlying48 type48 rfl rfl (hm.boxCells (n := 7) rfl)) ?_
       refine qt 9 2 5 rfl (vf underlying44 rfl type39) ?_
       refine qt 9 3 13 rfl (fun W hm => rv_fieldA (o := 1) underlying39 rfl type3 (by decide) rfl rfl) ?_
       refine qt 9 4 29 rfl (vl 8 1 underlying3) ?_
       refine qt 9 5 61 rfl vmv ?_
       refine qa [1, 7] ?_
       refine qc 9 63 rfl ?_ ?_
       ·
        refine wcs tyQuery x1 (cl_fn cb43 rfl) (fun W hm => spec_l6Query_c2 W _ x1 (tyQuery_mk (x := x1) (hm.rdS0 r44) (hm.rdS0 r49)) s_1) (fun z109 => ?_)
        refine tyQuery_sp ?_
        rintro ⟨v110, v111⟩ rfl
        refine WM_form (n := 0) rfl ?_
        rintro A112 c113 rfl m114
        refine WM_form (n := 1) rfl ?_
        rintro A116 c117 rfl m118
        refine qn (pk [2, 3, 4, 5, 6, 7, 8, 9, 10]) ?_
        let K9 : List Value := [.int .i64 x1.Id, .int .i64 x1.Tenant, .slice A112 x1.Conds.length c113, .slice A116 x1.Out.length c117, .int .i64 x0.Store.Now, .slice none 0 0, .int .i64 0, .int .i64 0, .int .i64 x2, .slice none 0 0]
        refine qt 9 6 127 rfl (fun W hm => rv_build (cs := K9) rfl (by kernel_rfl)) ?_
        refine qo 9 7 255 rfl ?_
        refine WM_alloc type93 rfl (Wd_none rfl) (by decide) (fun p120 => ?_)
        refine qn (pk [3, 4, 5, 6, 7, 8, 9, 10, 11]) ?_
        refine qo 9 8 511 rfl ?_
        refine sb 0 K9 [iOwn (tSl tyCond 102) [.slice A112 x1.Conds.length c113] x1.Conds, iOwn (tSl tInt 3) [.slice A116 x1.Out.length c117] x1.Out, iBox p86 44 K6, I16, I17, I18, I19, I20, iBox p59 44 K7, iBox p58 48 K8, iBox p57 44 K5] (fun W hm => hm) type93 ?_
        refine qn (pk [3, 4, 5, 6, 7, 8, 9, 10, 11]) ?_
        refine QB_done (by kernel_rfl) ?_
        exact QM_cut_normal (p120, A112, c113, A116, c117) sl5 (fun W hm => hm) trivial
       refine qc 9 189 rfl ?_ ?_
       ·
        refine WM_alloc type93 rfl (Wd_none rfl) (by decide) (fun p121 => ?_)
        refine qn (pk [1, 2, 3, 4, 5, 6, 7, 8, 9]) ?_
        refine qo 9 1 191 rfl ?_
        refine wcs tyQuery x1 (cl_fn cb43 rfl) (fun W hm => spec_l6Query_c2 W _ x1 (tyQuery_mk (x := x1) (hm.rdS0 r44) (hm.rdS0 r49)) s_1) (fun z122 => ?_)
        refine tyQuery_sp ?_
        rintro ⟨v123, v124⟩ rfl
        refine WM_form (n := 0) rfl ?_
        rintro A125 c126 rfl m127
        refine WM_form (n := 1) rfl ?_
        rintro A129 c130 rfl m131
        refine qn (pk [3, 4, 5, 6, 7, 8, 9, 10, 11]) ?_
        let K10 : List Value := [.int .i64 x1.Id, .int .i64 x1.Tenant, .slice A125 x1.Conds.length c126, .slice A129 x1.Out.length c130, .int .i64 x0.Store.Now, .slice none 0 0, .int .i64 0, .int .i64 0, .int .i64 x2, .slice none 0 0]
        refine qt 9 6 255 rfl (fun W hm => rv_build (cs := K10) rfl (by kernel_rfl)) ?_
        refine qo 9 8 511 rfl ?_
        refine sb 0 K10 [iOwn (tSl tyCond 102) [.slice A125 x1.Conds.length c126] x1.Conds, iOwn (tSl tInt 3) [.slice A129 x1.Out.length c130] x1.Out, iBox p86 44 K6, I16, I17, I18, I19, I20, iBox p59 44 K7, iBox p58 48 K8, iBox p57 44 K5] (pk [2, 0, 1, 3, 4, 5, 6, 7, 8, 9, 10, 11]) type93 ?_
        refine qn (pk [3, 4, 5, 6, 7, 8, 9, 10, 11]) ?_
        refine QB_done (by kernel_rfl) ?_
        exact QM_cut_normal (p121, A125, c126, A129, c130) sl5 (fun W hm => hm) trivial
       exact QBs_nil
      ·
       rintro ⟨p108, A100, c101, A104, c105⟩ -
       let I21 : It := iOwn (tSl tyCond 102) [.slice A100 x1.Conds.length c101] x1.Conds
       let I22 : It := iOwn (tSl tInt 3) [.slice A104 x1.Out.length c105] x1.Out
       show QM 112 _ _ _ .normal [(3, .pointer (some (⟨p57, 0, none⟩ : Addr))), (4, .pointer (some (⟨p58, 0, none⟩ : Addr))), (6, .pointer (some (⟨p59, 0, none⟩ : Addr))), (8, .pointer (some (⟨p86, 0, none⟩ : Addr))), (9, .pointer (some (⟨p108, 0, none⟩ : Addr)))] [iBox p108 93 [.int .i64 x1.Id, .int .i64 x1.Tenant, .slice A100 x1.Conds.length c101, .slice A104 x1.Out.length c105, .int .i64 x0.Store.Now, .slice none 0 0, .int .i64 0, .int .i64 0, .int .i64 x2, .slice none 0 0], I21, I22, iBox p86 44 K6, I16, I17, I18, I19, I20, iBox p59 44 K7, iBox p58 48 K8, iBox p57 44 K5]
       refine QM_len (n := 1) rfl ?_
       intro m133 m134
       refine QM_len (n := 2) rfl ?_
       intro m135 m136
       refine QM_then (CM_seq (sr (wa (nt' (CM_block ?_)))))
       refine CM_items (fun W hm => (hm.addNil (E := tInt) (e := 3)).last) ?_
       let F1 := fun k (s : (List Int)) => spec_AdmitQuery_b1 k s
       let R3 := rng (R := (DEngine × Bool)) F1
       refine CM_loop (σ := Nat × ((List Int)) × (Option Addr × Nat)) (fun s => [(3, .pointer (some (⟨p57, 0, none⟩ : Addr))), (4, .pointer (some (⟨p58, 0, none⟩ : Addr))), (6, .pointer (some (⟨p59, 0, none⟩ : Addr))), (8, .pointer (some (⟨p86, 0, none⟩ : Addr))), (9, .pointer (some (⟨p108, 0, none⟩ : Addr))), (10, .int .i64 ((s.1 : Nat) : Int))]) (fun s => [iBox p108 93 [.int .i64 x1.Id, .int .i64 x1.Tenant, .slice A100 x1.Conds.length c101, .slice A104 x1.Out.length c105, .int .i64 x0.Store.Now, .slice s.2.2.1 s.2.1.length s.2.2.2, .int .i64 0, .int .i64 0, .int .i64 x2, .slice none 0 0], I21, I22, iBox p86 44 K6, I16, I17, I18, I19, I20, iBox p59 44 K7, iBox p58 48 K8, iBox p57 44 K5, iOwn (tSl tInt 3) [.slice s.2.2.1 s.2.1.length s.2.2.2] s.2.1]) (fun s => s.1 ≤ x0.Store.Segments.length ∧ R3 (x0.Store.Segments.length - s.1) s.1 s.2.1 = R3 (x0.Store.Segments.length - 0) 0 [] ∧ s.2.1.length ≤ 0 + s.1) (fun s => x0.Store.Segments.length - s.1) (0, [], (none, 0)) sl6 (fun W hm => hm) ⟨(by omega), rfl, Nat.le_refl _⟩ ?_
       rintro ⟨k137, d140, ⟨A141, c142⟩⟩ H145
       obtain ⟨hk143, hF144, hi146⟩ : k137 ≤ x0.Store.Segments.length ∧ R3 (x0.Store.Segments.length - k137) k137 d140 = R3 (x0.Store.Segments.length - 0) 0 [] ∧ d140.length ≤ 0 + k137 := H145
       let K11 : List Value := [.int .i64 x1.Id, .int .i64 x1.Tenant, .slice A100 x1.Conds.length c101, .slice A104 x1.Out.length c105, .int .i64 x0.Store.Now, .slice A141 d140.length c142, .int .i64 0, .int .i64 0, .int .i64 x2, .slice none 0 0]
       let I23 : It := iOwn (tSl tInt 3) [.slice A141 d140.length c142] d140
       show CM Tryz.prog 112 _ _ _ _ [(3, .pointer (some (⟨p57, 0, none⟩ : Addr))), (4, .pointer (some (⟨p58, 0, none⟩ : Addr))), (6, .pointer (some (⟨p59, 0, none⟩ : Addr))), (8, .pointer (some (⟨p86, 0, none⟩ : Addr))), (9, .pointer (some (⟨p108, 0, none⟩ : Addr))), (10, .int .i64 ((k137 : Nat) : Int))] [iBox p108 93 K11, I21, I22, iBox p86 44 K6, I16, I17, I18, I19, I20, iBox p59 44 K7, iBox p58 48 K8, iBox p57 44 K5, I23]
       refine CM_seq (sr (wm ?_))
       refine wv (vf underlying44 rfl type39) ?_
       refine wv (fun W hm => rv_fieldA (o := 0) underlying39 rfl type37 (by decide) rfl rfl) ?_
       refine wv (vl 11 0 underlying37) ?_
       refine wv (vlen underlying37) ?_
       refine wv vlss ?_
       refine nt' ?_
       by_cases hl147 : k137 < x0.Store.Segments.length
       ·have g148 : (decide (((k137 : Nat) : Int) < ((x0.Store.Segments.length : Nat) : Int))) = true := decide_eq_true (by omega)
        refine CM_condT rfl g148 ?_
        refine CM_skip (QM_then (CM_seq (CM_block (CM_region ?_))))
        refine wv (vf underlying93 rfl type25) ?_
        refine wv (vl 0 5 underlying25) ?_
        refine wm ?_
        refine WM_build (cs := [.int .i64 ((k137 : Nat) : Int)]) underlying25 type3 rfl (by decide) (by decide) rfl (by kernel_rfl) (Wd_none rfl) (by decide) (fun p149 => ?_)
        refine ap1 tInt 3 (.slice A141 d140.length c142) d140 ((k137 : Nat) : Int) [] [iBox p108 93 K11, I21, I22, iBox p86 44 K6, I16, I17, I18, I19, I20, iBox p59 44 K7, iBox p58 48 K8, iBox p57 44 K5] [.int .i64 ((k137 : Nat) : Int)] (pk [0, 13, 1, 2, 3, 4, 5, 6, 7, 8, 9, 10, 11, 12]) (fun _ _ hs => by cases (Sep.nil hs); exact (els_cons tInt_own els_nil)) underlying25 type3 (show (d140.length + 1) * 8 ≤ 140737488355328 from by first | omega | (simp only [List.length_append, List.length_cons, List.length_nil, List.length_take] at *; omega)) (fun v150 => ?_)
        refine WM_form (n := 0) rfl ?_
        rintro A151 c152 rfl m153
        refine wv (vf underlying93 rfl type25) ?_
        refine sb 5 [.int .i64 x1.Id, .int .i64 x1.Tenant, .slice A100 x1.Conds.length c101, .slice A104 x1.Out.length c105, .int .i64 x0.Store.Now, .slice A151 (d140 ++ [((k137 : Nat) : Int)]).length c152, .int .i64 0, .int .i64 0, .int .i64 x2, .slice none 0 0] [iOwn (tSl tInt 3) [.slice A151 (d140 ++ [((k137 : Nat) : Int)]).length c152] (d140 ++ [((k137 : Nat) : Int)]), I21, I22, iBox p86 44 K6, I16, I17, I18, I19, I20, iBox p59 44 K7, iBox p58 48 K8, iBox p57 44 K5] (pk [1, 0, 2, 3, 4, 5, 6, 7, 8, 9, 10, 11, 12]) type25 ?_
        refine WM_nil (QM_block_normal (QM_then (CM_region (wm ?_))))
        refine wv (vadN k137 1 (by omega)) ?_
        refine wa (WM_nil ?_)
        have hn155 := rng_next (R := (DEngine × Bool)) (body := F1) (k := k137) (s := d140) (s' := (d140 ++ [((k137 : Nat) : Int)])) (show k137 < x0.Store.Segments.length from by omega) (show spec_AdmitQuery_b1 k137 d140 = Sum.inr (d140 ++ [((k137 : Nat) : Int)]) from by unfold spec_AdmitQuery_b1; exact rfl) hF144
        exact QM_round (k137 + 1, (d140 ++ [((k137 : Nat) : Int)]), (A151, c152)) sl6 (pk [0, 2, 3, 4, 5, 6, 7, 8, 9, 10, 11, 12, 1]) ⟨(by omega), hn155, (show (d140 ++ [((k137 : Nat) : Int)]).length ≤ 0 + (k137 + 1) from by first | omega | (simp only [List.length_append, List.length_cons, List.length_nil] at *; omega))⟩ (rl (by omega))
       ·have g148 : (decide (((k137 : Nat) : Int) < ((x0.Store.Segments.length : Nat) : Int))) = false := decide_eq_false (by omega)
        refine CM_condF rfl g148 ?_
        refine CM_exit (QM_then_exit (QM_then_exit ?_))
        have hE156 : R3 (x0.Store.Segments.length - 0) 0 [] = Sum.inr d140 := rng_end hl147 hF144
        refine QM_block_hit (QM_then (sr ?_))
        refine WM_build0 (E := tyActive) underlying40 type93 (Wd_none rfl) (by decide) (fun p157 => ?_)
        refine wv (vf underlying44 rfl type40) ?_
        let K12 : List Value := [.slice A66 x0.Store.Segments.length c67, .int .i64 x0.Store.Now, .int .i64 x0.Cursor, .slice A70 x0.Order.length c71, .slice (some ⟨p157, 0, none⟩) 0 0, .slice A78 x0.Done.length c79, .slice A82 x0.Ledger.length c83, .int .i64 x0.Steps]
        let I24 : It := iOwn (tSl tyActive 93) [.slice (some ⟨p157, 0, none⟩) 0 0] []
        refine sb 4 K12 [I24, iBox p108 93 K11, I21, I22, I16, I17, I18, I19, I20, iBox p59 44 K7, iBox p58 48 K8, iBox p57 44 K5, I23] (pk [4, 0, 1, 2, 3, 5, 6, 7, 8, 9, 10, 11, 12, 13]) type40 ?_
        refine nt' (sr (wa (nt' (sr ?_))))
        refine wv (fun W hm => rv_loadN (cs := K5) underlying44 type44 rfl rfl (hm.boxCells (n := 12) rfl)) ?_
        refine wcs tyEngine x0 (cl_fn cb38 rfl) (fun W hm => spec_l9Copy_c2 W _ x0 (tyEngine_mk (x := x0) (hm.rdS0 r15) (hm.rdS0 r20) (hm.rdS0 r25) (hm.rdS0 r30) (hm.rdS0 r35)) s_0) (fun z159 => ?_)
        refine tyEngine_sp ?_
        rintro ⟨v160, v161, v162, v163, v164⟩ rfl
        refine WM_form (n := 0) rfl ?_
        rintro A165 c166 rfl m167
        refine WM_form (n := 1) rfl ?_
        rintro A169 c170 rfl m171
        refine WM_form (n := 2) rfl ?_
        rintro A173 c174 rfl m175
        refine WM_form (n := 3) rfl ?_
        rintro A177 c178 rfl m179
        refine WM_form (n := 4) rfl ?_
        rintro A181 c182 rfl m183
        refine wv (fun W hm => rv_fld1 underlying44 rfl underlying40 rfl rfl rfl) ?_
        refine wa (nt' (CM_seq (CM_seq ?_)))
        refine CM_items (pk [2, 5, 6, 7, 8, 9, 10, 11, 13, 14, 15, 16, 18]) ?_
        refine CM_region (wa (nt' (CM_block ?_)))
        refine CM_toCk (E := tyActive) (e := 93) (v := .slice A173 x0.Active.length c174) (xs := x0.Active) (js := [iBox p86 44 K12, I24, iBox p108 93 K11, I21, I22, I16, I17, I19, I20, iBox p59 44 K7, iBox p58 48 K8, I23]) (fun W hm => hm) (fun ps185 hps186 => ?_)
        have hl187 : ps185.length = x0.Active.length := by rw [← hps186, List.length_map]
        refine CM_items (fun W hm => Mem.emptyAs (E := tyActive) (F := (tCk (ckA tyActive))) rfl (hm.pick [3, 0, 1, 2, 4, 5, 6, 7, 8, 9, 10, 11, 12, 13] (by decide))) ?_
        let F2 := fun k (s : Bool) => spec_AdmitQuery_b2 x0 x1 k s
        let R4 := rng (R := (DEngine × Bool)) F2
        let I25 : It := iOwn (tSl (tCk (ckA tyActive)) 93) [.slice A173 x0.Active.length c174] ps185
        refine CM_loop (σ := Nat × (Bool) × (Option Addr × Nat)) (fun s => [(4, .pointer (some (⟨p58, 0, none⟩ : Addr))), (6, .pointer (some (⟨p59, 0, none⟩ : Addr))), (8, .pointer (some (⟨p86, 0, none⟩ : Addr))), (9, .pointer (some (⟨p108, 0, none⟩ : Addr))), (11, .bool s.2.1), (12, .slice A173 x0.Active.length c174), (13, .int .i64 ((s.1 : Nat) : Int))]) (fun s => [iOwn (tSl (tCk (ckA tyActive)) 93) [.slice s.2.2.1 (admP (admJ x0.Active x1.Id) ps185 ((K11, (⟨x1, x0.Store.Now, d140, 0, 0, x2, []⟩ : DActive)) : List Value × DActive) s.1).length s.2.2.2] (admP (admJ x0.Active x1.Id) ps185 ((K11, (⟨x1, x0.Store.Now, d140, 0, 0, x2, []⟩ : DActive)) : List Value × DActive) s.1), I25, iCk tyActive ps185, iBox p86 44 [.slice A66 x0.Store.Segments.length c67, .int .i64 x0.Store.Now, .int .i64 x0.Cursor, .slice A70 x0.Order.length c71, .slice s.2.2.1 (admP (admJ x0.Active x1.Id) ps185 ((K11, (⟨x1, x0.Store.Now, d140, 0, 0, x2, []⟩ : DActive)) : List Value × DActive) s.1).length s.2.2.2, .slice A78 x0.Done.length c79, .slice A82 x0.Ledger.length c83, .int .i64 x0.Steps], iBox p108 93 K11, I21, I22, I16, I17, I19, I20, iBox p59 44 K7, iBox p58 48 K8, I23]) (fun s => s.1 ≤ x0.Active.length ∧ R4 (x0.Active.length - s.1) s.1 s.2.1 = R4 (x0.Active.length - 0) 0 false ∧ s.2.1 = decide (admJ x0.Active x1.Id < s.1)) (fun s => x0.Active.length - s.1) (0, false, ((some ⟨p157, 0, none⟩), 0)) sl7 (fun W hm => hm) ⟨(by omega), rfl, (decide_eq_false (Nat.not_lt_zero _)).symm⟩ ?_
        rintro ⟨k188, s189, ⟨A191, c192⟩⟩ H195
        obtain ⟨hk193, hF194, hi196⟩ : k188 ≤ x0.Active.length ∧ R4 (x0.Active.length - k188) k188 s189 = R4 (x0.Active.length - 0) 0 false ∧ s189 = decide (admJ x0.Active x1.Id < k188) := H195
        show CM Tryz.prog 112 _ _ _ _ [(4, .pointer (some (⟨p58, 0, none⟩ : Addr))), (6, .pointer (some (⟨p59, 0, none⟩ : Addr))), (8, .pointer (some (⟨p86, 0, none⟩ : Addr))), (9, .pointer (some (⟨p108, 0, none⟩ : Addr))), (11, .bool s189), (12, .slice A173 x0.Active.length c174), (13, .int .i64 ((k188 : Nat) : Int))] [iOwn (tSl (tCk (ckA tyActive)) 93) [.slice A191 (admP (admJ x0.Active x1.Id) ps185 ((K11, (⟨x1, x0.Store.Now, d140, 0, 0, x2, []⟩ : DActive)) : List Value × DActive) k188).length c192] (admP (admJ x0.Active x1.Id) ps185 ((K11, (⟨x1, x0.Store.Now, d140, 0, 0, x2, []⟩ : DActive)) : List Value × DActive) k188), I25, iCk tyActive ps185, iBox p86 44 [.slice A66 x0.Store.Segments.length c67, .int .i64 x0.Store.Now, .int .i64 x0.Cursor, .slice A70 x0.Order.length c71, .slice A191 (admP (admJ x0.Active x1.Id) ps185 ((K11, (⟨x1, x0.Store.Now, d140, 0, 0, x2, []⟩ : DActive)) : List Value × DActive) k188).length c192, .slice A78 x0.Done.length c79, .slice A82 x0.Ledger.length c83, .int .i64 x0.Steps], iBox p108 93 K11, I21, I22, I16, I17, I19, I20, iBox p59 44 K7, iBox p58 48 K8, I23]
        refine CM_seq (sr (wm (wm ?_)))
        refine wv (vlen underlying40) ?_
        refine wv vlss ?_
        refine nt' ?_
        by_cases hl197 : k188 < x0.Active.length
        ·have g198 : (decide (((k188 : Nat) : Int) < ((x0.Active.length : Nat) : Int))) = true := decide_eq_true (by omega)
         have hat := @admJ_at x0.Active x1.Id
         have hno := @admJ_no x0.Active x1.Id k188
         refine CM_formO (n := 1) rfl (by omega) ?_
         rintro g199 rfl
         refine CM_ckRd (E := tyActive) (k := k188) hps186 (show k188 < x0.Active.length from by omega) (pk [2, 0, 1, 3, 4, 5, 6, 7, 8, 9, 10, 11, 12, 13]) (fun _ _ r200 => ?_)
         obtain ⟨v204, v208, v212, v216, hcs201, r205, r209, r213, r217⟩ := tyActive_rd r200
         obtain ⟨_, A202, c203, rfl, _⟩ := r205
         obtain ⟨_, A206, c207, rfl, _⟩ := r209
         obtain ⟨_, A210, c211, rfl, _⟩ := r213
         obtain ⟨_, A214, c215, rfl, _⟩ := r217
         refine CM_ckOpen (E := tyActive) (e := 93) hcs201 (show k188 < x0.Active.length from by omega) (pk [1, 0, 2, 3, 4, 5, 6, 7, 8, 9, 10, 11, 12, 13]) ?_
         have hal218 : (admP (admJ x0.Active x1.Id) ps185 ((K11, (⟨x1, x0.Store.Now, d140, 0, 0, x2, []⟩ : DActive)) : List Value × DActive) k188).length ≤ k188 + 1 := admP_len _
         refine CM_condT rfl g198 ?_
         refine CM_skip (QM_then (CM_seq (CM_block (CM_seq (CM_seq ?_)))))
         refine CM_regionD (by kernel_rfl) (by kernel_rfl) ?_
         refine qm ?_
         refine qv vnot ?_
         refine qm ?_
         rcases Bool.eq_false_or_eq_true s189 with g220 | g220
         ·
          have hpl := g220
          refine qs (nt g220) ?_
          refine qs (nt g220) ?_
          refine qs (nt g220) ?_
          refine qs (nt g220) ?_
          refine qs (nt g220) ?_
          refine qs (nt g220) ?_
          refine qs (nt g220) ?_
          refine qs (nt g220) ?_
          refine qs (nt g220) ?_
          refine qv (vpF (nt g220)) ?_
          refine nq' ?_
          refine CM_condF rfl rfl ?_
          refine CM_skip (QM_then ?_)
          let K13 : List Value := [.int .i64 ((gt x0.Active k188).Query.Id), .int .i64 ((gt x0.Active k188).Query.Tenant), .slice A202 (gt x0.Active k188).Query.Conds.length c203, .slice A206 (gt x0.Active k188).Query.Out.length c207, .int .i64 ((gt x0.Active k188).Time), .slice A210 (gt x0.Active k188).Todo.length c211, .int .i64 ((gt x0.Active k188).Age), .int .i64 ((gt x0.Active k188).Sent), .int .i64 ((gt x0.Active k188).Cap), .slice A214 (gt x0.Active k188).Rows.length c215]
          refine CM_cut (σ := Option Addr × Nat) (fun s => [(4, .pointer (some (⟨p58, 0, none⟩ : Addr))), (6, .pointer (some (⟨p59, 0, none⟩ : Addr))), (8, .pointer (some (⟨p86, 0, none⟩ : Addr))), (9, .pointer (some (⟨p108, 0, none⟩ : Addr))), (11, .bool s189), (12, .slice (some ⟨g199, 0, none⟩) x0.Active.length c174), (13, .int .i64 ((k188 : Nat) : Int))]) (fun s => [iBox p86 44 [.slice A66 x0.Store.Segments.length c67, .int .i64 x0.Store.Now, .int .i64 x0.Cursor, .slice A70 x0.Order.length c71, .slice s.1 ((admP (admJ x0.Active x1.Id) ps185 ((K11, (⟨x1, x0.Store.Now, d140, 0, 0, x2, []⟩ : DActive)) : List Value × DActive) k188) ++ [((K13, (gt x0.Active k188)) : List Value × DActive)]).length s.2, .slice A78 x0.Done.length c79, .slice A82 x0.Ledger.length c83, .int .i64 x0.Steps], iOwn (tSl (tCk (ckA tyActive)) 93) [.slice s.1 ((admP (admJ x0.Active x1.Id) ps185 ((K11, (⟨x1, x0.Store.Now, d140, 0, 0, x2, []⟩ : DActive)) : List Value × DActive) k188) ++ [((K13, (gt x0.Active k188)) : List Value × DActive)]).length s.2] ((admP (admJ x0.Active x1.Id) ps185 ((K11, (⟨x1, x0.Store.Now, d140, 0, 0, x2, []⟩ : DActive)) : List Value × DActive) k188) ++ [((K13, (gt x0.Active k188)) : List Value × DActive)]), iFoc (tCk (ckA tyActive)) 93 (some ⟨g199, 0, none⟩) x0.Active.length c174 ps185 k188 K13, iCk tyActive ps185, iBox p108 93 K11, I21, I22, I16, I17, I19, I20, iBox p59 44 K7, iBox p58 48 K8, I23]) (fun _ => True) ?_ ?_
          ·
           refine rb 10 (s := [iFoc (tCk (ckA tyActive)) 93 (some ⟨g199, 0, none⟩) x0.Active.length c174 ps185 k188 K13, iCk tyActive ps185, iBox p108 93 K11, I21, I22, I16, I17, I19, I20, iBox p59 44 K7, iBox p58 48 K8, I23]) (pk [0, 2, 4, 5, 6, 7, 8, 9, 10, 11, 12, 13]) ?_
           refine qt 10 0 1 rfl (vf underlying44 rfl type40) ?_
           refine qt 10 2 5 rfl vmv ?_
           refine qt 10 3 13 rfl vmv ?_
           refine qt 10 4 29 rfl (vix 10 k188 underlying40 type93) ?_
           refine qt 10 5 61 rfl (fun W hm => rv_loadN (cs := K13) underlying93 type93 rfl rfl (hm.focCells (i := 0) rfl rfl)) ?_
           refine qa [1, 6] ?_
           refine qc 10 63 rfl ?_ ?_
           ·
            refine wv (vl 3 4 underlying40) ?_
            refine qn (pk [0, 2, 4, 5, 6, 7, 8, 9, 10, 11, 12, 13]) ?_
            refine qo 10 6 127 rfl ?_
            refine WM_build (cs := K13) underlying40 type93 rfl (by decide) (by decide) rfl (by kernel_rfl) (Wd_none rfl) (by decide) (fun p227 => ?_)
            refine qn (pk [1, 3, 5, 6, 7, 8, 9, 10, 11, 12, 13, 14]) ?_
            refine qo 10 7 255 rfl ?_
            refine ap1 (tCk (ckA tyActive)) 93 (.slice A191 (admP (admJ x0.Active x1.Id) ps185 ((K11, (⟨x1, x0.Store.Now, d140, 0, 0, x2, []⟩ : DActive)) : List Value × DActive) k188).length c192) (admP (admJ x0.Active x1.Id) ps185 ((K11, (⟨x1, x0.Store.Now, d140, 0, 0, x2, []⟩ : DActive)) : List Value × DActive) k188) ((K13, (gt x0.Active k188)) : List Value × DActive) [] [iFoc (tCk (ckA tyActive)) 93 (some ⟨g199, 0, none⟩) x0.Active.length c174 ps185 k188 K13, iCk tyActive ps185, iBox p86 44 [.slice A66 x0.Store.Segments.length c67, .int .i64 x0.Store.Now, .int .i64 x0.Cursor, .slice A70 x0.Order.length c71, .slice A191 (admP (admJ x0.Active x1.Id) ps185 ((K11, (⟨x1, x0.Store.Now, d140, 0, 0, x2, []⟩ : DActive)) : List Value × DActive) k188).length c192, .slice A78 x0.Done.length c79, .slice A82 x0.Ledger.length c83, .int .i64 x0.Steps], iBox p108 93 K11, I21, I22, I16, I17, I19, I20, iBox p59 44 K7, iBox p58 48 K8, I23] K13 (pk [0, 2, 1, 3, 4, 5, 6, 7, 8, 9, 10, 11, 12, 13, 14]) (fun _ _ hs => by cases (Sep.nil hs); exact (els_ck1 rfl rfl)) underlying40 type93 (show ((admP (admJ x0.Active x1.Id) ps185 ((K11, (⟨x1, x0.Store.Now, d140, 0, 0, x2, []⟩ : DActive)) : List Value × DActive) k188).length + 1) * 144 ≤ 140737488355328 from by first | omega | (simp only [List.length_append, List.length_cons, List.length_nil, List.length_take] at *; omega)) (fun v228 => ?_)
            refine WM_form (n := 0) rfl ?_
            rintro A229 c230 rfl m231
            refine qn (pk [1, 2, 4, 5, 6, 7, 8, 9, 10, 11, 12, 13]) ?_
            refine qt 10 8 511 rfl (vf underlying44 rfl type40) ?_
            refine qo 10 9 1023 rfl ?_
            refine sb 4 [.slice A66 x0.Store.Segments.length c67, .int .i64 x0.Store.Now, .int .i64 x0.Cursor, .slice A70 x0.Order.length c71, .slice A229 ((admP (admJ x0.Active x1.Id) ps185 ((K11, (⟨x1, x0.Store.Now, d140, 0, 0, x2, []⟩ : DActive)) : List Value × DActive) k188) ++ [((K13, (gt x0.Active k188)) : List Value × DActive)]).length c230, .slice A78 x0.Done.length c79, .slice A82 x0.Ledger.length c83, .int .i64 x0.Steps] [iOwn (tSl (tCk (ckA tyActive)) 93) [.slice A229 ((admP (admJ x0.Active x1.Id) ps185 ((K11, (⟨x1, x0.Store.Now, d140, 0, 0, x2, []⟩ : DActive)) : List Value × DActive) k188) ++ [((K13, (gt x0.Active k188)) : List Value × DActive)]).length c230] ((admP (admJ x0.Active x1.Id) ps185 ((K11, (⟨x1, x0.Store.Now, d140, 0, 0, x2, []⟩ : DActive)) : List Value × DActive) k188) ++ [((K13, (gt x0.Active k188)) : List Value × DActive)]), iFoc (tCk (ckA tyActive)) 93 (some ⟨g199, 0, none⟩) x0.Active.length c174 ps185 k188 K13, iCk tyActive ps185, iBox p108 93 K11, I21, I22, I16, I17, I19, I20, iBox p59 44 K7, iBox p58 48 K8, I23] (pk [3, 0, 1, 2, 4, 5, 6, 7, 8, 9, 10, 11, 12, 13]) type40 ?_
            refine qn (pk [2, 3, 4, 5, 6, 7, 8, 9, 10, 11, 12, 13]) ?_
            refine QB_done (by kernel_rfl) ?_
            exact QM_cut_normal (A229, c230) sl7 (fun W hm => hm) trivial
           refine qc 10 125 rfl ?_ ?_
           ·
            refine WM_build (cs := K13) underlying40 type93 rfl (by decide) (by decide) rfl (by kernel_rfl) (Wd_none rfl) (by decide) (fun p233 => ?_)
            refine qn (pk [1, 3, 5, 6, 7, 8, 9, 10, 11, 12, 13, 14]) ?_
            refine qo 10 1 127 rfl ?_
            refine wv (vl 4 4 underlying40) ?_
            refine qn (pk [1, 3, 5, 6, 7, 8, 9, 10, 11, 12, 13, 14]) ?_
            refine qo 10 7 255 rfl ?_
            refine ap1 (tCk (ckA tyActive)) 93 (.slice A191 (admP (admJ x0.Active x1.Id) ps185 ((K11, (⟨x1, x0.Store.Now, d140, 0, 0, x2, []⟩ : DActive)) : List Value × DActive) k188).length c192) (admP (admJ x0.Active x1.Id) ps185 ((K11, (⟨x1, x0.Store.Now, d140, 0, 0, x2, []⟩ : DActive)) : List Value × DActive) k188) ((K13, (gt x0.Active k188)) : List Value × DActive) [] [iFoc (tCk (ckA tyActive)) 93 (some ⟨g199, 0, none⟩) x0.Active.length c174 ps185 k188 K13, iCk tyActive ps185, iBox p86 44 [.slice A66 x0.Store.Segments.length c67, .int .i64 x0.Store.Now, .int .i64 x0.Cursor, .slice A70 x0.Order.length c71, .slice A191 (admP (admJ x0.Active x1.Id) ps185 ((K11, (⟨x1, x0.Store.Now, d140, 0, 0, x2, []⟩ : DActive)) : List Value × DActive) k188).length c192, .slice A78 x0.Done.length c79, .slice A82 x0.Ledger.length c83, .int .i64 x0.Steps], iBox p108 93 K11, I21, I22, I16, I17, I19, I20, iBox p59 44 K7, iBox p58 48 K8, I23] K13 (pk [0, 2, 1, 3, 4, 5, 6, 7, 8, 9, 10, 11, 12, 13, 14]) (fun _ _ hs => by cases (Sep.nil hs); exact (els_ck1 rfl rfl)) underlying40 type93 (show ((admP (admJ x0.Active x1.Id) ps185 ((K11, (⟨x1, x0.Store.Now, d140, 0, 0, x2, []⟩ : DActive)) : List Value × DActive) k188).length + 1) * 144 ≤ 140737488355328 from by first | omega | (simp only [List.length_append, List.length_cons, List.length_nil, List.length_take] at *; omega)) (fun v234 => ?_)
            refine WM_form (n := 0) rfl ?_
            rintro A235 c236 rfl m237
            refine qn (pk [1, 2, 4, 5, 6, 7, 8, 9, 10, 11, 12, 13]) ?_
            refine qt 10 8 511 rfl (vf underlying44 rfl type40) ?_
            refine qo 10 9 1023 rfl ?_
            refine sb 4 [.slice A66 x0.Store.Segments.length c67, .int .i64 x0.Store.Now, .int .i64 x0.Cursor, .slice A70 x0.Order.length c71, .slice A235 ((admP (admJ x0.Active x1.Id) ps185 ((K11, (⟨x1, x0.Store.Now, d140, 0, 0, x2, []⟩ : DActive)) : List Value × DActive) k188) ++ [((K13, (gt x0.Active k188)) : List Value × DActive)]).length c236, .slice A78 x0.Done.length c79, .slice A82 x0.Ledger.length c83, .int .i64 x0.Steps] [iOwn (tSl (tCk (ckA tyActive)) 93) [.slice A235 ((admP (admJ x0.Active x1.Id) ps185 ((K11, (⟨x1, x0.Store.Now, d140, 0, 0, x2, []⟩ : DActive)) : List Value × DActive) k188) ++ [((K13, (gt x0.Active k188)) : List Value × DActive)]).length c236] ((admP (admJ x0.Active x1.Id) ps185 ((K11, (⟨x1, x0.Store.Now, d140, 0, 0, x2, []⟩ : DActive)) : List Value × DActive) k188) ++ [((K13, (gt x0.Active k188)) : List Value × DActive)]), iFoc (tCk (ckA tyActive)) 93 (some ⟨g199, 0, none⟩) x0.Active.length c174 ps185 k188 K13, iCk tyActive ps185, iBox p108 93 K11, I21, I22, I16, I17, I19, I20, iBox p59 44 K7, iBox p58 48 K8, I23] (pk [3, 0, 1, 2, 4, 5, 6, 7, 8, 9, 10, 11, 12, 13]) type40 ?_
            refine qn (pk [2, 3, 4, 5, 6, 7, 8, 9, 10, 11, 12, 13]) ?_
            refine QB_done (by kernel_rfl) ?_
            exact QM_cut_normal (A235, c236) sl7 (fun W hm => hm) trivial
           exact QBs_nil
          ·
           rintro ⟨A223, c224⟩ -
           show QM 112 _ _ _ .normal [(4, .pointer (some (⟨p58, 0, none⟩ : Addr))), (6, .pointer (some (⟨p59, 0, none⟩ : Addr))), (8, .pointer (some (⟨p86, 0, none⟩ : Addr))), (9, .pointer (some (⟨p108, 0, none⟩ : Addr))), (11, .bool s189), (12, .slice (some ⟨g199, 0, none⟩) x0.Active.length c174), (13, .int .i64 ((k188 : Nat) : Int))] [iBox p86 44 [.slice A66 x0.Store.Segments.length c67, .int .i64 x0.Store.Now, .int .i64 x0.Cursor, .slice A70 x0.Order.length c71, .slice A223 ((admP (admJ x0.Active x1.Id) ps185 ((K11, (⟨x1, x0.Store.Now, d140, 0, 0, x2, []⟩ : DActive)) : List Value × DActive) k188) ++ [((K13, (gt x0.Active k188)) : List Value × DActive)]).length c224, .slice A78 x0.Done.length c79, .slice A82 x0.Ledger.length c83, .int .i64 x0.Steps], iOwn (tSl (tCk (ckA tyActive)) 93) [.slice A223 ((admP (admJ x0.Active x1.Id) ps185 ((K11, (⟨x1, x0.Store.Now, d140, 0, 0, x2, []⟩ : DActive)) : List Value × DActive) k188) ++ [((K13, (gt x0.Active k188)) : List Value × DActive)]).length c224] ((admP (admJ x0.Active x1.Id) ps185 ((K11, (⟨x1, x0.Store.Now, d140, 0, 0, x2, []⟩ : DActive)) : List Value × DActive) k188) ++ [((K13, (gt x0.Active k188)) : List Value × DActive)]), iFoc (tCk (ckA tyActive)) 93 (some ⟨g199, 0, none⟩) x0.Active.length c174 ps185 k188 K13, iCk tyActive ps185, iBox p108 93 K11, I21, I22, I16, I17, I19, I20, iBox p59 44 K7, iBox p58 48 K8, I23]
           refine QM_len (n := 1) rfl ?_
           intro m239 m240
           refine QM_block_normal (QM_then (CM_region (wm ?_)))
           refine wv (vadN k188 1 (by omega)) ?_
           refine wa (WM_nil ?_)
           refine QM_items (fun W hm => Mem.ckClose hcs201 rfl rfl (hm.pick [2, 0, 1, 3, 4, 5, 6, 7, 8, 9, 10, 11, 12, 13] (by decide))) ?_
           have hn0241 : admJ x0.Active x1.Id ≠ k188 := by first | (have h1 : admJ x0.Active x1.Id < k188 := of_decide_eq_true (hi196.symm.trans hpl); omega) | (intro hh; have := hat (by omega); rw [hh] at this; omega)
           rw [admP_miss hn0241 hps186 hcs201]
           have hn242 := rng_next (R := (DEngine × Bool)) (body := F2) (k := k188) (s := s189) (s' := s189) (show k188 < x0.Active.length from by omega) (show spec_AdmitQuery_b2 x0 x1 k188 s189 = Sum.inr s189 from by unfold spec_AdmitQuery_b2; exact cond_t g220 (rfl)) hF194
           exact QM_round (k188 + 1, s189, (A223, c224)) sl7 (pk [2, 0, 3, 1, 4, 5, 6, 7, 8, 9, 10, 11, 12, 13]) ⟨(by omega), hn242, (show s189 = decide (admJ x0.Active x1.Id < (k188 + 1)) from by first | exact (decide_eq_true (by omega)).symm | (rw [hi196]; exact decide_eq_decide.2 (by omega)))⟩ (rl (by omega))
         ·
          have hpl := g220
          refine qg vmv (nf g220) ?_
          refine qg vmv (nf g220) ?_
          refine qg (vix 10 k188 underlying40 type93) (nf g220) ?_
          refine qg (vf underlying93 rfl type48) (nf g220) ?_
          refine qg (fun W hm => rv_fieldA (o := 0) underlying48 rfl type3 (by decide) rfl rfl) (nf g220) ?_
          refine qg (fun W hm => rv_load underlying3 rfl rfl (hm.focCells (i := 0) rfl rfl 0 _ rfl)) (nf g220) ?_
          refine qg (vf underlying48 rfl type3) (nf g220) ?_
          refine qg (vl 12 0 underlying3) (nf g220) ?_
          refine qg (fun W hm => rv_gtr rfl rfl) (nf g220) ?_
          refine qv (vpT (nf g220)) ?_
          refine nq' ?_
          by_cases h243 : x1.Id < ((gt x0.Active k188).Query.Id)
          ·have g244 : (decide (x1.Id < ((gt x0.Active k188).Query.Id))) = true := decide_eq_true h243
           refine CM_condT rfl g244 ?_
           refine sr ?_
           refine wv (vf underlying44 rfl type40) ?_
           refine wv (vl 3 4 underlying40) ?_
           refine wv (fun W hm => rv_loadN (cs := K11) underlying93 type93 rfl rfl (hm.boxCells (n := 4) rfl)) ?_
           refine WM_build (cs := K11) underlying40 type93 rfl (by decide) (by decide) rfl (by kernel_rfl) (Wd_none rfl) (by decide) (fun p245 => ?_)
           let K14 : List Value := [.int .i64 ((gt x0.Active k188).Query.Id), .int .i64 ((gt x0.Active k188).Query.Tenant), .slice A202 (gt x0.Active k188).Query.Conds.length c203, .slice A206 (gt x0.Active k188).Query.Out.length c207, .int .i64 ((gt x0.Active k188).Time), .slice A210 (gt x0.Active k188).Todo.length c211, .int .i64 ((gt x0.Active k188).Age), .int .i64 ((gt x0.Active k188).Sent), .int .i64 ((gt x0.Active k188).Cap), .slice A214 (gt x0.Active k188).Rows.length c215]
           refine ap1 (tCk (ckA tyActive)) 93 (.slice A191 (admP (admJ x0.Active x1.Id) ps185 ((K11, (⟨x1, x0.Store.Now, d140, 0, 0, x2, []⟩ : DActive)) : List Value × DActive) k188).length c192) (admP (admJ x0.Active x1.Id) ps185 ((K11, (⟨x1, x0.Store.Now, d140, 0, 0, x2, []⟩ : DActive)) : List Value × DActive) k188) ((K11, (⟨x1, x0.Store.Now, d140, 0, 0, x2, []⟩ : DActive)) : List Value × DActive) [] [iFoc (tCk (ckA tyActive)) 93 (some ⟨g199, 0, none⟩) x0.Active.length c174 ps185 k188 K14, iCk tyActive ps185, iBox p86 44 [.slice A66 x0.Store.Segments.length c67, .int .i64 x0.Store.Now, .int .i64 x0.Cursor, .slice A70 x0.Order.length c71, .slice A191 (admP (admJ x0.Active x1.Id) ps185 ((K11, (⟨x1, x0.Store.Now, d140, 0, 0, x2, []⟩ : DActive)) : List Value × DActive) k188).length c192, .slice A78 x0.Done.length c79, .slice A82 x0.Ledger.length c83, .int .i64 x0.Steps], iBox p108 93 K11, I21, I22, I16, I17, I19, I20, iBox p59 44 K7, iBox p58 48 K8, I23] K11 (pk [0, 2, 1, 3, 4, 5, 6, 7, 8, 9, 10, 11, 12, 13, 14]) (fun _ _ hs => by cases (Sep.nil hs); exact (els_ck1 rfl rfl)) underlying40 type93 (show ((admP (admJ x0.Active x1.Id) ps185 ((K11, (⟨x1, x0.Store.Now, d140, 0, 0, x2, []⟩ : DActive)) : List Value × DActive) k188).length + 1) * 144 ≤ 140737488355328 from by first | omega | (simp only [List.length_append, List.length_cons, List.length_nil, List.length_take] at *; omega)) (fun v246 => ?_)
           refine WM_form (n := 0) rfl ?_
           rintro A247 c248 rfl m249
           refine wv (vf underlying44 rfl type40) ?_
           refine sb 4 [.slice A66 x0.Store.Segments.length c67, .int .i64 x0.Store.Now, .int .i64 x0.Cursor, .slice A70 x0.Order.length c71, .slice A247 ((admP (admJ x0.Active x1.Id) ps185 ((K11, (⟨x1, x0.Store.Now, d140, 0, 0, x2, []⟩ : DActive)) : List Value × DActive) k188) ++ [((K11, (⟨x1, x0.Store.Now, d140, 0, 0, x2, []⟩ : DActive)) : List Value × DActive)]).length c248, .slice A78 x0.Done.length c79, .slice A82 x0.Ledger.length c83, .int .i64 x0.Steps] [iOwn (tSl (tCk (ckA tyActive)) 93) [.slice A247 ((admP (admJ x0.Active x1.Id) ps185 ((K11, (⟨x1, x0.Store.Now, d140, 0, 0, x2, []⟩ : DActive)) : List Value × DActive) k188) ++ [((K11, (⟨x1, x0.Store.Now, d140, 0, 0, x2, []⟩ : DActive)) : List Value × DActive)]).length c248] ((admP (admJ x0.Active x1.Id) ps185 ((K11, (⟨x1, x0.Store.Now, d140, 0, 0, x2, []⟩ : DActive)) : List Value × DActive) k188) ++ [((K11, (⟨x1, x0.Store.Now, d140, 0, 0, x2, []⟩ : DActive)) : List Value × DActive)]), iFoc (tCk (ckA tyActive)) 93 (some ⟨g199, 0, none⟩) x0.Active.length c174 ps185 k188 K14, iCk tyActive ps185, iBox p108 93 K11, I21, I22, I16, I17, I19, I20, iBox p59 44 K7, iBox p58 48 K8, I23] (pk [3, 0, 1, 2, 4, 5, 6, 7, 8, 9, 10, 11, 12, 13]) type40 ?_
           refine nt' (CM_region (wa (nt' ?_)))
           refine CM_cut (σ := Option Addr × Nat) (fun s => [(4, .pointer (some (⟨p58, 0, none⟩ : Addr))), (6, .pointer (some (⟨p59, 0, none⟩ : Addr))), (8, .pointer (some (⟨p86, 0, none⟩ : Addr))), (9, .pointer (some (⟨p108, 0, none⟩ : Addr))), (11, .bool true), (12, .slice (some ⟨g199, 0, none⟩) x0.Active.length c174), (13, .int .i64 ((k188 : Nat) : Int))]) (fun s => [iBox p86 44 [.slice A66 x0.Store.Segments.length c67, .int .i64 x0.Store.Now, .int .i64 x0.Cursor, .slice A70 x0.Order.length c71, .slice s.1 (((admP (admJ x0.Active x1.Id) ps185 ((K11, (⟨x1, x0.Store.Now, d140, 0, 0, x2, []⟩ : DActive)) : List Value × DActive) k188) ++ [((K11, (⟨x1, x0.Store.Now, d140, 0, 0, x2, []⟩ : DActive)) : List Value × DActive)]) ++ [((K14, (gt x0.Active k188)) : List Value × DActive)]).length s.2, .slice A78 x0.Done.length c79, .slice A82 x0.Ledger.length c83, .int .i64 x0.Steps], iOwn (tSl (tCk (ckA tyActive)) 93) [.slice s.1 (((admP (admJ x0.Active x1.Id) ps185 ((K11, (⟨x1, x0.Store.Now, d140, 0, 0, x2, []⟩ : DActive)) : List Value × DActive) k188) ++ [((K11, (⟨x1, x0.Store.Now, d140, 0, 0, x2, []⟩ : DActive)) : List Value × DActive)]) ++ [((K14, (gt x0.Active k188)) : List Value × DActive)]).length s.2] (((admP (admJ x0.Active x1.Id) ps185 ((K11, (⟨x1, x0.Store.Now, d140, 0, 0, x2, []⟩ : DActive)) : List Value × DActive) k188) ++ [((K11, (⟨x1, x0.Store.Now, d140, 0, 0, x2, []⟩ : DActive)) : List Value × DActive)]) ++ [((K14, (gt x0.Active k188)) : List Value × DActive)]), iFoc (tCk (ckA tyActive)) 93 (some ⟨g199, 0, none⟩) x0.Active.length c174 ps185 k188 K14, iCk tyActive ps185, iBox p108 93 K11, I21, I22, I16, I17, I19, I20, iBox p59 44 K7, iBox p58 48 K8, I23]) (fun _ => True) ?_ ?_
           ·
            refine rb 10 (s := [iFoc (tCk (ckA tyActive)) 93 (some ⟨g199, 0, none⟩) x0.Active.length c174 ps185 k188 K14, iCk tyActive ps185, iBox p108 93 K11, I21, I22, I16, I17, I19, I20, iBox p59 44 K7, iBox p58 48 K8, I23]) (pk [2, 3, 4, 5, 6, 7, 8, 9, 10, 11, 12, 13]) ?_
            refine qt 10 0 1 rfl (vf underlying44 rfl type40) ?_
            refine qt 10 2 5 rfl vmv ?_
            refine qt 10 3 13 rfl vmv ?_
            refine qt 10 4 29 rfl (vix 10 k188 underlying40 type93) ?_
            refine qt 10 5 61 rfl (fun W hm => rv_loadN (cs := K14) underlying93 type93 rfl rfl (hm.focCells (i := 0) rfl rfl)) ?_
            refine qa [1, 6] ?_
            refine qc 10 63 rfl ?_ ?_
            ·
             refine wv (vl 0 4 underlying40) ?_
             refine qn (pk [2, 3, 4, 5, 6, 7, 8, 9, 10, 11, 12, 13]) ?_
             refine qo 10 6 127 rfl ?_
             refine WM_build (cs := K14) underlying40 type93 rfl (by decide) (by decide) rfl (by kernel_rfl) (Wd_none rfl) (by decide) (fun p257 => ?_)
             refine qn (pk [3, 4, 5, 6, 7, 8, 9, 10, 11, 12, 13, 14]) ?_
             refine qo 10 7 255 rfl ?_
             refine ap1 (tCk (ckA tyActive)) 93 (.slice A247 ((admP (admJ x0.Active x1.Id) ps185 ((K11, (⟨x1, x0.Store.Now, d140, 0, 0, x2, []⟩ : DActive)) : List Value × DActive) k188) ++ [((K11, (⟨x1, x0.Store.Now, d140, 0, 0, x2, []⟩ : DActive)) : List Value × DActive)]).length c248) ((admP (admJ x0.Active x1.Id) ps185 ((K11, (⟨x1, x0.Store.Now, d140, 0, 0, x2, []⟩ : DActive)) : List Value × DActive) k188) ++ [((K11, (⟨x1, x0.Store.Now, d140, 0, 0, x2, []⟩ : DActive)) : List Value × DActive)]) ((K14, (gt x0.Active k188)) : List Value × DActive) [] [iBox p86 44 [.slice A66 x0.Store.Segments.length c67, .int .i64 x0.Store.Now, .int .i64 x0.Cursor, .slice A70 x0.Order.length c71, .slice A247 ((admP (admJ x0.Active x1.Id) ps185 ((K11, (⟨x1, x0.Store.Now, d140, 0, 0, x2, []⟩ : DActive)) : List Value × DActive) k188) ++ [((K11, (⟨x1, x0.Store.Now, d140, 0, 0, x2, []⟩ : DActive)) : List Value × DActive)]).length c248, .slice A78 x0.Done.length c79, .slice A82 x0.Ledger.length c83, .int .i64 x0.Steps], iFoc (tCk (ckA tyActive)) 93 (some ⟨g199, 0, none⟩) x0.Active.length c174 ps185 k188 K14, iCk tyActive ps185, iBox p108 93 K11, I21, I22, I16, I17, I19, I20, iBox p59 44 K7, iBox p58 48 K8, I23] K14 (pk [0, 2, 1, 3, 4, 5, 6, 7, 8, 9, 10, 11, 12, 13, 14]) (fun _ _ hs => by cases (Sep.nil hs); exact (els_ck1 rfl rfl)) underlying40 type93 (show (((admP (admJ x0.Active x1.Id) ps185 ((K11, (⟨x1, x0.Store.Now, d140, 0, 0, x2, []⟩ : DActive)) : List Value × DActive) k188) ++ [((K11, (⟨x1, x0.Store.Now, d140, 0, 0, x2, []⟩ : DActive)) : List Value × DActive)]).length + 1) * 144 ≤ 140737488355328 from by first | omega | (simp only [List.length_append, List.length_cons, List.length_nil, List.length_take] at *; omega)) (fun v258 => ?_)
             refine WM_form (n := 0) rfl ?_
             rintro A259 c260 rfl m261
             refine qn (pk [2, 3, 4, 5, 6, 7, 8, 9, 10, 11, 12, 13]) ?_
             refine qt 10 8 511 rfl (vf underlying44 rfl type40) ?_
             refine qo 10 9 1023 rfl ?_
             refine sb 4 [.slice A66 x0.Store.Segments.length c67, .int .i64 x0.Store.Now, .int .i64 x0.Cursor, .slice A70 x0.Order.length c71, .slice A259 (((admP (admJ x0.Active x1.Id) ps185 ((K11, (⟨x1, x0.Store.Now, d140, 0, 0, x2, []⟩ : DActive)) : List Value × DActive) k188) ++ [((K11, (⟨x1, x0.Store.Now, d140, 0, 0, x2, []⟩ : DActive)) : List Value × DActive)]) ++ [((K14, (gt x0.Active k188)) : List Value × DActive)]).length c260, .slice A78 x0.Done.length c79, .slice A82 x0.Ledger.length c83, .int .i64 x0.Steps] [iOwn (tSl (tCk (ckA tyActive)) 93) [.slice A259 (((admP (admJ x0.Active x1.Id) ps185 ((K11, (⟨x1, x0.Store.Now, d140, 0, 0, x2, []⟩ : DActive)) : List Value × DActive) k188) ++ [((K11, (⟨x1, x0.Store.Now, d140, 0, 0, x2, []⟩ : DActive)) : List Value × DActive)]) ++ [((K14, (gt x0.Active k188)) : List Value × DActive)]).length c260] (((admP (admJ x0.Active x1.Id) ps185 ((K11, (⟨x1, x0.Store.Now, d140, 0, 0, x2, []⟩ : DActive)) : List Value × DActive) k188) ++ [((K11, (⟨x1, x0.Store.Now, d140, 0, 0, x2, []⟩ : DActive)) : List Value × DActive)]) ++ [((K14, (gt x0.Active k188)) : List Value × DActive)]), iFoc (tCk (ckA tyActive)) 93 (some ⟨g199, 0, none⟩) x0.Active.length c174 ps185 k188 K14, iCk tyActive ps185, iBox p108 93 K11, I21, I22, I16, I17, I19, I20, iBox p59 44 K7, iBox p58 48 K8, I23] (pk [1, 0, 2, 3, 4, 5, 6, 7, 8, 9, 10, 11, 12, 13]) type40 ?_
             refine qn (pk [2, 3, 4, 5, 6, 7, 8, 9, 10, 11, 12, 13]) ?_
             refine QB_done (by kernel_rfl) ?_
             exact QM_cut_normal (A259, c260) sl7 (fun W hm => hm) trivial
            refine qc 10 125 rfl ?_ ?_
            ·
             refine WM_build (cs := K14) underlying40 type93 rfl (by decide) (by decide) rfl (by kernel_rfl) (Wd_none rfl) (by decide) (fun p263 => ?_)
             refine qn (pk [3, 4, 5, 6, 7, 8, 9, 10, 11, 12, 13, 14]) ?_
             refine qo 10 1 127 rfl ?_
             refine wv (vl 1 4 underlying40) ?_
             refine qn (pk [3, 4, 5, 6, 7, 8, 9, 10, 11, 12, 13, 14]) ?_
             refine qo 10 7 255 rfl ?_
             refine ap1 (tCk (ckA tyActive)) 93 (.slice A247 ((admP (admJ x0.Active x1.Id) ps185 ((K11, (⟨x1, x0.Store.Now, d140, 0, 0, x2, []⟩ : DActive)) : List Value × DActive) k188) ++ [((K11, (⟨x1, x0.Store.Now, d140, 0, 0, x2, []⟩ : DActive)) : List Value × DActive)]).length c248) ((admP (admJ x0.Active x1.Id) ps185 ((K11, (⟨x1, x0.Store.Now, d140, 0, 0, x2, []⟩ : DActive)) : List Value × DActive) k188) ++ [((K11, (⟨x1, x0.Store.Now, d140, 0, 0, x2, []⟩ : DActive)) : List Value × DActive)]) ((K14, (gt x0.Active k188)) : List Value × DActive) [] [iBox p86 44 [.slice A66 x0.Store.Segments.length c67, .int .i64 x0.Store.Now, .int .i64 x0.Cursor, .slice A70 x0.Order.length c71, .slice A247 ((admP (admJ x0.Active x1.Id) ps185 ((K11, (⟨x1, x0.Store.Now, d140, 0, 0, x2, []⟩ : DActive)) : List Value × DActive) k188) ++ [((K11, (⟨x1, x0.Store.Now, d140, 0, 0, x2, []⟩ : DActive)) : List Value × DActive)]).length c248, .slice A78 x0.Done.length c79, .slice A82 x0.Ledger.length c83, .int .i64 x0.Steps], iFoc (tCk (ckA tyActive)) 93 (some ⟨g199, 0, none⟩) x0.Active.length c174 ps185 k188 K14, iCk tyActive ps185, iBox p108 93 K11, I21, I22, I16, I17, I19, I20, iBox p59 44 K7, iBox p58 48 K8, I23] K14 (pk [0, 2, 1, 3, 4, 5, 6, 7, 8, 9, 10, 11, 12, 13, 14]) (fun _ _ hs => by cases (Sep.nil hs); exact (els_ck1 rfl rfl)) underlying40 type93 (show (((admP (admJ x0.Active x1.Id) ps185 ((K11, (⟨x1, x0.Store.Now, d140, 0, 0, x2, []⟩ : DActive)) : List Value × DActive) k188) ++ [((K11, (⟨x1, x0.Store.Now, d140, 0, 0, x2, []⟩ : DActive)) : List Value × DActive)]).length + 1) * 144 ≤ 140737488355328 from by first | omega | (simp only [List.length_append, List.length_cons, List.length_nil, List.length_take] at *; omega)) (fun v264 => ?_)
             refine WM_form (n := 0) rfl ?_
             rintro A265 c266 rfl m267
             refine qn (pk [2, 3, 4, 5, 6, 7, 8, 9, 10, 11, 12, 13]) ?_
             refine qt 10 8 511 rfl (vf underlying44 rfl type40) ?_
             refine qo 10 9 1023 rfl ?_
             refine sb 4 [.slice A66 x0.Store.Segments.length c67, .int .i64 x0.Store.Now, .int .i64 x0.Cursor, .slice A70 x0.Order.length c71, .slice A265 (((admP (admJ x0.Active x1.Id) ps185 ((K11, (⟨x1, x0.Store.Now, d140, 0, 0, x2, []⟩ : DActive)) : List Value × DActive) k188) ++ [((K11, (⟨x1, x0.Store.Now, d140, 0, 0, x2, []⟩ : DActive)) : List Value × DActive)]) ++ [((K14, (gt x0.Active k188)) : List Value × DActive)]).length c266, .slice A78 x0.Done.length c79, .slice A82 x0.Ledger.length c83, .int .i64 x0.Steps] [iOwn (tSl (tCk (ckA tyActive)) 93) [.slice A265 (((admP (admJ x0.Active x1.Id) ps185 ((K11, (⟨x1, x0.Store.Now, d140, 0, 0, x2, []⟩ : DActive)) : List Value × DActive) k188) ++ [((K11, (⟨x1, x0.Store.Now, d140, 0, 0, x2, []⟩ : DActive)) : List Value × DActive)]) ++ [((K14, (gt x0.Active k188)) : List Value × DActive)]).length c266] (((admP (admJ x0.Active x1.Id) ps185 ((K11, (⟨x1, x0.Store.Now, d140, 0, 0, x2, []⟩ : DActive)) : List Value × DActive) k188) ++ [((K11, (⟨x1, x0.Store.Now, d140, 0, 0, x2, []⟩ : DActive)) : List Value × DActive)]) ++ [((K14, (gt x0.Active k188)) : List Value × DActive)]), iFoc (tCk (ckA tyActive)) 93 (some ⟨g199, 0, none⟩) x0.Active.length c174 ps185 k188 K14, iCk tyActive ps185, iBox p108 93 K11, I21, I22, I16, I17, I19, I20, iBox p59 44 K7, iBox p58 48 K8, I23] (pk [1, 0, 2, 3, 4, 5, 6, 7, 8, 9, 10, 11, 12, 13]) type40 ?_
             refine qn (pk [2, 3, 4, 5, 6, 7, 8, 9, 10, 11, 12, 13]) ?_
             refine QB_done (by kernel_rfl) ?_
             exact QM_cut_normal (A265, c266) sl7 (fun W hm => hm) trivial
            exact QBs_nil
           ·
            rintro ⟨A253, c254⟩ -
            show QM 112 _ _ _ .normal [(4, .pointer (some (⟨p58, 0, none⟩ : Addr))), (6, .pointer (some (⟨p59, 0, none⟩ : Addr))), (8, .pointer (some (⟨p86, 0, none⟩ : Addr))), (9, .pointer (some (⟨p108, 0, none⟩ : Addr))), (11, .bool true), (12, .slice (some ⟨g199, 0, none⟩) x0.Active.length c174), (13, .int .i64 ((k188 : Nat) : Int))] [iBox p86 44 [.slice A66 x0.Store.Segments.length c67, .int .i64 x0.Store.Now, .int .i64 x0.Cursor, .slice A70 x0.Order.length c71, .slice A253 (((admP (admJ x0.Active x1.Id) ps185 ((K11, (⟨x1, x0.Store.Now, d140, 0, 0, x2, []⟩ : DActive)) : List Value × DActive) k188) ++ [((K11, (⟨x1, x0.Store.Now, d140, 0, 0, x2, []⟩ : DActive)) : List Value × DActive)]) ++ [((K14, (gt x0.Active k188)) : List Value × DActive)]).length c254, .slice A78 x0.Done.length c79, .slice A82 x0.Ledger.length c83, .int .i64 x0.Steps], iOwn (tSl (tCk (ckA tyActive)) 93) [.slice A253 (((admP (admJ x0.Active x1.Id) ps185 ((K11, (⟨x1, x0.Store.Now, d140, 0, 0, x2, []⟩ : DActive)) : List Value × DActive) k188) ++ [((K11, (⟨x1, x0.Store.Now, d140, 0, 0, x2, []⟩ : DActive)) : List Value × DActive)]) ++ [((K14, (gt x0.Active k188)) : List Value × DActive)]).length c254] (((admP (admJ x0.Active x1.Id) ps185 ((K11, (⟨x1, x0.Store.Now, d140, 0, 0, x2, []⟩ : DActive)) : List Value × DActive) k188) ++ [((K11, (⟨x1, x0.Store.Now, d140, 0, 0, x2, []⟩ : DActive)) : List Value × DActive)]) ++ [((K14, (gt x0.Active k188)) : List Value × DActive)]), iFoc (tCk (ckA tyActive)) 93 (some ⟨g199, 0, none⟩) x0.Active.length c174 ps185 k188 K14, iCk tyActive ps185, iBox p108 93 K11, I21, I22, I16, I17, I19, I20, iBox p59 44 K7, iBox p58 48 K8, I23]
            refine QM_len (n := 1) rfl ?_
            intro m269 m270
            refine QM_block_normal (QM_then (CM_region (wm ?_)))
            refine wv (vadN k188 1 (by omega)) ?_
            refine wa (WM_nil ?_)
            refine QM_items (fun W hm => Mem.ckClose hcs201 rfl rfl (hm.pick [2, 0, 1, 3, 4, 5, 6, 7, 8, 9, 10, 11, 12, 13] (by decide))) ?_
            have hn0271 : admJ x0.Active x1.Id = k188 := by have h1 : ¬ admJ x0.Active x1.Id < k188 := of_decide_eq_false (hi196.symm.trans hpl); exact Classical.byContradiction fun hh => (by have := hno (by omega); omega)
            rw [admP_hit hn0271 hps186 hcs201]
            have hn272 := rng_next (R := (DEngine × Bool)) (body := F2) (k := k188) (s := s189) (s' := true) (show k188 < x0.Active.length from by omega) (show spec_AdmitQuery_b2 x0 x1 k188 s189 = Sum.inr true from by unfold spec_AdmitQuery_b2; exact cond_f g220 (cond_t g244 (rfl))) hF194
            exact QM_round (k188 + 1, true, (A253, c254)) sl7 (pk [2, 0, 3, 1, 4, 5, 6, 7, 8, 9, 10, 11, 12, 13]) ⟨(by omega), hn272, (show true = decide (admJ x0.Active x1.Id < (k188 + 1)) from by first | exact (decide_eq_true (by omega)).symm | (rw [hi196]; exact decide_eq_decide.2 (by omega)))⟩ (rl (by omega))
          ·have g244 : (decide (x1.Id < ((gt x0.Active k188).Query.Id))) = false := decide_eq_false h243
           refine CM_condF rfl g244 ?_
           refine CM_skip (QM_then ?_)
           let K15 : List Value := [.int .i64 ((gt x0.Active k188).Query.Id), .int .i64 ((gt x0.Active k188).Query.Tenant), .slice A202 (gt x0.Active k188).Query.Conds.length c203, .slice A206 (gt x0.Active k188).Query.Out.length c207, .int .i64 ((gt x0.Active k188).Time), .slice A210 (gt x0.Active k188).Todo.length c211, .int .i64 ((gt x0.Active k188).Age), .int .i64 ((gt x0.Active k188).Sent), .int .i64 ((gt x0.Active k188).Cap), .slice A214 (gt x0.Active k188).Rows.length c215]
           refine CM_cut (σ := Option Addr × Nat) (fun s => [(4, .pointer (some (⟨p58, 0, none⟩ : Addr))), (6, .pointer (some (⟨p59, 0, none⟩ : Addr))), (8, .pointer (some (⟨p86, 0, none⟩ : Addr))), (9, .pointer (some (⟨p108, 0, none⟩ : Addr))), (11, .bool s189), (12, .slice (some ⟨g199, 0, none⟩) x0.Active.length c174), (13, .int .i64 ((k188 : Nat) : Int))]) (fun s => [iBox p86 44 [.slice A66 x0.Store.Segments.length c67, .int .i64 x0.Store.Now, .int .i64 x0.Cursor, .slice A70 x0.Order.length c71, .slice s.1 ((admP (admJ x0.Active x1.Id) ps185 ((K11, (⟨x1, x0.Store.Now, d140, 0, 0, x2, []⟩ : DActive)) : List Value × DActive) k188) ++ [((K15, (gt x0.Active k188)) : List Value × DActive)]).length s.2, .slice A78 x0.Done.length c79, .slice A82 x0.Ledger.length c83, .int .i64 x0.Steps], iOwn (tSl (tCk (ckA tyActive)) 93) [.slice s.1 ((admP (admJ x0.Active x1.Id) ps185 ((K11, (⟨x1, x0.Store.Now, d140, 0, 0, x2, []⟩ : DActive)) : List Value × DActive) k188) ++ [((K15, (gt x0.Active k188)) : List Value × DActive)]).length s.2] ((admP (admJ x0.Active x1.Id) ps185 ((K11, (⟨x1, x0.Store.Now, d140, 0, 0, x2, []⟩ : DActive)) : List Value × DActive) k188) ++ [((K15, (gt x0.Active k188)) : List Value × DActive)]), iFoc (tCk (ckA tyActive)) 93 (some ⟨g199, 0, none⟩) x0.Active.length c174 ps185 k188 K15, iCk tyActive ps185, iBox p108 93 K11, I21, I22, I16, I17, I19, I20, iBox p59 44 K7, iBox p58 48 K8, I23]) (fun _ => True) ?_ ?_
           ·
            refine rb 10 (s := [iFoc (tCk (ckA tyActive)) 93 (some ⟨g199, 0, none⟩) x0.Active.length c174 ps185 k188 K15, iCk tyActive ps185, iBox p108 93 K11, I21, I22, I16, I17, I19, I20, iBox p59 44 K7, iBox p58 48 K8, I23]) (pk [0, 2, 4, 5, 6, 7, 8, 9, 10, 11, 12, 13]) ?_
            refine qt 10 0 1 rfl (vf underlying44 rfl type40) ?_
            refine qt 10 2 5 rfl vmv ?_
            refine qt 10 3 13 rfl vmv ?_
            refine qt 10 4 29 rfl (vix 10 k188 underlying40 type93) ?_
            refine qt 10 5 61 rfl (fun W hm => rv_loadN (cs := K15) underlying93 type93 rfl rfl (hm.focCells (i := 0) rfl rfl)) ?_
            refine qa [1, 6] ?_
            refine qc 10 63 rfl ?_ ?_
            ·
             refine wv (vl 3 4 underlying40) ?_
             refine qn (pk [0, 2, 4, 5, 6, 7, 8, 9, 10, 11, 12, 13]) ?_
             refine qo 10 6 127 rfl ?_
             refine WM_build (cs := K15) underlying40 type93 rfl (by decide) (by decide) rfl (by kernel_rfl) (Wd_none rfl) (by decide) (fun p279 => ?_)
             refine qn (pk [1, 3, 5, 6, 7, 8, 9, 10, 11, 12, 13, 14]) ?_
             refine qo 10 7 255 rfl ?_
             refine ap1 (tCk (ckA tyActive)) 93 (.slice A191 (admP (admJ x0.Active x1.Id) ps185 ((K11, (⟨x1, x0.Store.Now, d140, 0, 0, x2, []⟩ : DActive)) : List Value × DActive) k188).length c192) (admP (admJ x0.Active x1.Id) ps185 ((K11, (⟨x1, x0.Store.Now, d140, 0, 0, x2, []⟩ : DActive)) : List Value × DActive) k188) ((K15, (gt x0.Active k188)) : List Value × DActive) [] [iFoc (tCk (ckA tyActive)) 93 (some ⟨g199, 0, none⟩) x0.Active.length c174 ps185 k188 K15, iCk tyActive ps185, iBox p86 44 [.slice A66 x0.Store.Segments.length c67, .int .i64 x0.Store.Now, .int .i64 x0.Cursor, .slice A70 x0.Order.length c71, .slice A191 (admP (admJ x0.Active x1.Id) ps185 ((K11, (⟨x1, x0.Store.Now, d140, 0, 0, x2, []⟩ : DActive)) : List Value × DActive) k188).length c192, .slice A78 x0.Done.length c79, .slice A82 x0.Ledger.length c83, .int .i64 x0.Steps], iBox p108 93 K11, I21, I22, I16, I17, I19, I20, iBox p59 44 K7, iBox p58 48 K8, I23] K15 (pk [0, 2, 1, 3, 4, 5, 6, 7, 8, 9, 10, 11, 12, 13, 14]) (fun _ _ hs => by cases (Sep.nil hs); exact (els_ck1 rfl rfl)) underlying40 type93 (show ((admP (admJ x0.Active x1.Id) ps185 ((K11, (⟨x1, x0.Store.Now, d140, 0, 0, x2, []⟩ : DActive)) : List Value × DActive) k188).length + 1) * 144 ≤ 140737488355328 from by first | omega | (simp only [List.length_append, List.length_cons, List.length_nil, List.length_take] at *; omega)) (fun v280 => ?_)
             refine WM_form (n := 0) rfl ?_
             rintro A281 c282 rfl m283
             refine qn (pk [1, 2, 4, 5, 6, 7, 8, 9, 10, 11, 12, 13]) ?_
             refine qt 10 8 511 rfl (vf underlying44 rfl type40) ?_
             refine qo 10 9 1023 rfl ?_
             refine sb 4 [.slice A66 x0.Store.Segments.length c67, .int .i64 x0.Store.Now, .int .i64 x0.Cursor, .slice A70 x0.Order.length c71, .slice A281 ((admP (admJ x0.Active x1.Id) ps185 ((K11, (⟨x1, x0.Store.Now, d140, 0, 0, x2, []⟩ : DActive)) : List Value × DActive) k188) ++ [((K15, (gt x0.Active k188)) : List Value × DActive)]).length c282, .slice A78 x0.Done.length c79, .slice A82 x0.Ledger.length c83, .int .i64 x0.Steps] [iOwn (tSl (tCk (ckA tyActive)) 93) [.slice A281 ((admP (admJ x0.Active x1.Id) ps185 ((K11, (⟨x1, x0.Store.Now, d140, 0, 0, x2, []⟩ : DActive)) : List Value × DActive) k188) ++ [((K15, (gt x0.Active k188)) : List Value × DActive)]).length c282] ((admP (admJ x0.Active x1.Id) ps185 ((K11, (⟨x1, x0.Store.Now, d140, 0, 0, x2, []⟩ : DActive)) : List Value × DActive) k188) ++ [((K15, (gt x0.Active k188)) : List Value × DActive)]), iFoc (tCk (ckA tyActive)) 93 (some ⟨g199, 0, none⟩) x0.Active.length c174 ps185 k188 K15, iCk tyActive ps185, iBox p108 93 K11, I21, I22, I16, I17, I19, I20, iBox p59 44 K7, iBox p58 48 K8, I23] (pk [3, 0, 1, 2, 4, 5, 6, 7, 8, 9, 10, 11, 12, 13]) type40 ?_
             refine qn (pk [2, 3, 4, 5, 6, 7, 8, 9, 10, 11, 12, 13]) ?_
             refine QB_done (by kernel_rfl) ?_
             exact QM_cut_normal (A281, c282) sl7 (fun W hm => hm) trivial
            refine qc 10 125 rfl ?_ ?_
            ·
             refine WM_build (cs := K15) underlying40 type93 rfl (by decide) (by decide) rfl (by kernel_rfl) (Wd_none rfl) (by decide) (fun p285 => ?_)
             refine qn (pk [1, 3, 5, 6, 7, 8, 9, 10, 11, 12, 13, 14]) ?_
             refine qo 10 1 127 rfl ?_
             refine wv (vl 4 4 underlying40) ?_
             refine qn (pk [1, 3, 5, 6, 7, 8, 9, 10, 11, 12, 13, 14]) ?_
             refine qo 10 7 255 rfl ?_
             refine ap1 (tCk (ckA tyActive)) 93 (.slice A191 (admP (admJ x0.Active x1.Id) ps185 ((K11, (⟨x1, x0.Store.Now, d140, 0, 0, x2, []⟩ : DActive)) : List Value × DActive) k188).length c192) (admP (admJ x0.Active x1.Id) ps185 ((K11, (⟨x1, x0.Store.Now, d140, 0, 0, x2, []⟩ : DActive)) : List Value × DActive) k188) ((K15, (gt x0.Active k188)) : List Value × DActive) [] [iFoc (tCk (ckA tyActive)) 93 (some ⟨g199, 0, none⟩) x0.Active.length c174 ps185 k188 K15, iCk tyActive ps185, iBox p86 44 [.slice A66 x0.Store.Segments.length c67, .int .i64 x0.Store.Now, .int .i64 x0.Cursor, .slice A70 x0.Order.length c71, .slice A191 (admP (admJ x0.Active x1.Id) ps185 ((K11, (⟨x1, x0.Store.Now, d140, 0, 0, x2, []⟩ : DActive)) : List Value × DActive) k188).length c192, .slice A78 x0.Done.length c79, .slice A82 x0.Ledger.length c83, .int .i64 x0.Steps], iBox p108 93 K11, I21, I22, I16, I17, I19, I20, iBox p59 44 K7, iBox p58 48 K8, I23] K15 (pk [0, 2, 1, 3, 4, 5, 6, 7, 8, 9, 10, 11, 12, 13, 14]) (fun _ _ hs => by cases (Sep.nil hs); exact (els_ck1 rfl rfl)) underlying40 type93 (show ((admP (admJ x0.Active x1.Id) ps185 ((K11, (⟨x1, x0.Store.Now, d140, 0, 0, x2, []⟩ : DActive)) : List Value × DActive) k188).length + 1) * 144 ≤ 140737488355328 from by first | omega | (simp only [List.length_append, List.length_cons, List.length_nil, List.length_take] at *; omega)) (fun v286 => ?_)
             refine WM_form (n := 0) rfl ?_
             rintro A287 c288 rfl m289
             refine qn (pk [1, 2, 4, 5, 6, 7, 8, 9, 10, 11, 12, 13]) ?_
             refine qt 10 8 511 rfl (vf underlying44 rfl type40) ?_
             refine qo 10 9 1023 rfl ?_
             refine sb 4 [.slice A66 x0.Store.Segments.length c67, .int .i64 x0.Store.Now, .int .i64 x0.Cursor, .slice A70 x0.Order.length c71, .slice A287 ((admP (admJ x0.Active x1.Id) ps185 ((K11, (⟨x1, x0.Store.Now, d140, 0, 0, x2, []⟩ : DActive)) : List Value × DActive) k188) ++ [((K15, (gt x0.Active k188)) : List Value × DActive)]).length c288, .slice A78 x0.Done.length c79, .slice A82 x0.Ledger.length c83, .int .i64 x0.Steps] [iOwn (tSl (tCk (ckA tyActive)) 93) [.slice A287 ((admP (admJ x0.Active x1.Id) ps185 ((K11, (⟨x1, x0.Store.Now, d140, 0, 0, x2, []⟩ : DActive)) : List Value × DActive) k188) ++ [((K15, (gt x0.Active k188)) : List Value × DActive)]).length c288] ((admP (admJ x0.Active x1.Id) ps185 ((K11, (⟨x1, x0.Store.Now, d140, 0, 0, x2, []⟩ : DActive)) : List Value × DActive) k188) ++ [((K15, (gt x0.Active k188)) : List Value × DActive)]), iFoc (tCk (ckA tyActive)) 93 (some ⟨g199, 0, none⟩) x0.Active.length c174 ps185 k188 K15, iCk tyActive ps185, iBox p108 93 K11, I21, I22, I16, I17, I19, I20, iBox p59 44 K7, iBox p58 48 K8, I23] (pk [3, 0, 1, 2, 4, 5, 6, 7, 8, 9, 10, 11, 12, 13]) type40 ?_
             refine qn (pk [2, 3, 4, 5, 6, 7, 8, 9, 10, 11, 12, 13]) ?_
             refine QB_done (by kernel_rfl) ?_
             exact QM_cut_normal (A287, c288) sl7 (fun W hm => hm) trivial
            exact QBs_nil
           ·
            rintro ⟨A275, c276⟩ -
            show QM 112 _ _ _ .normal [(4, .pointer (some (⟨p58, 0, none⟩ : Addr))), (6, .pointer (some (⟨p59, 0, none⟩ : Addr))), (8, .pointer (some (⟨p86, 0, none⟩ : Addr))), (9, .pointer (some (⟨p108, 0, none⟩ : Addr))), (11, .bool s189), (12, .slice (some ⟨g199, 0, none⟩) x0.Active.length c174), (13, .int .i64 ((k188 : Nat) : Int))] [iBox p86 44 [.slice A66 x0.Store.Segments.length c67, .int .i64 x0.Store.Now, .int .i64 x0.Cursor, .slice A70 x0.Order.length c71, .slice A275 ((admP (admJ x0.Active x1.Id) ps185 ((K11, (⟨x1, x0.Store.Now, d140, 0, 0, x2, []⟩ : DActive)) : List Value × DActive) k188) ++ [((K15, (gt x0.Active k188)) : List Value × DActive)]).length c276, .slice A78 x0.Done.length c79, .slice A82 x0.Ledger.length c83, .int .i64 x0.Steps], iOwn (tSl (tCk (ckA tyActive)) 93) [.slice A275 ((admP (admJ x0.Active x1.Id) ps185 ((K11, (⟨x1, x0.Store.Now, d140, 0, 0, x2, []⟩ : DActive)) : List Value × DActive) k188) ++ [((K15, (gt x0.Active k188)) : List Value × DActive)]).length c276] ((admP (admJ x0.Active x1.Id) ps185 ((K11, (⟨x1, x0.Store.Now, d140, 0, 0, x2, []⟩ : DActive)) : List Value × DActive) k188) ++ [((K15, (gt x0.Active k188)) : List Value × DActive)]), iFoc (tCk (ckA tyActive)) 93 (some ⟨g199, 0, none⟩) x0.Active.length c174 ps185 k188 K15, iCk tyActive ps185, iBox p108 93 K11, I21, I22, I16, I17, I19, I20, iBox p59 44 K7, iBox p58 48 K8, I23]
            refine QM_len (n := 1) rfl ?_
            intro m291 m292
            refine QM_block_normal (QM_then (CM_region (wm ?_)))
            refine wv (vadN k188 1 (by omega)) ?_
            refine wa (WM_nil ?_)
            refine QM_items (fun W hm => Mem.ckClose hcs201 rfl rfl (hm.pick [2, 0, 1, 3, 4, 5, 6, 7, 8, 9, 10, 11, 12, 13] (by decide))) ?_
            have hn0293 : admJ x0.Active x1.Id ≠ k188 := by first | (have h1 : admJ x0.Active x1.Id < k188 := of_decide_eq_true (hi196.symm.trans hpl); omega) | (intro hh; have := hat (by omega); rw [hh] at this; omega)
            rw [admP_miss hn0293 hps186 hcs201]
            have hn294 := rng_next (R := (DEngine × Bool)) (body := F2) (k := k188) (s := s189) (s' := s189) (show k188 < x0.Active.length from by omega) (show spec_AdmitQuery_b2 x0 x1 k188 s189 = Sum.inr s189 from by unfold spec_AdmitQuery_b2; exact cond_f g220 (cond_f g244 (rfl))) hF194
            exact QM_round (k188 + 1, s189, (A275, c276)) sl7 (pk [2, 0, 3, 1, 4, 5, 6, 7, 8, 9, 10, 11, 12, 13]) ⟨(by omega), hn294, (show s189 = decide (admJ x0.Active x1.Id < (k188 + 1)) from by first | exact (decide_eq_true (by omega)).symm | (rw [hi196]; exact decide_eq_decide.2 (by omega)))⟩ (rl (by omega))
        ·have g198 : (decide (((k188 : Nat) : Int) < ((x0.Active.length : Nat) : Int))) = false := decide_eq_false (by omega)
         refine CM_condF rfl g198 ?_
         refine CM_exit (QM_then_exit (QM_then_exit ?_))
         have hE295 : R4 (x0.Active.length - 0) 0 false = Sum.inr s189 := rng_end hl197 hF194
         have hkl296 : k188 = ps185.length := by omega
         refine QM_block_hit (QM_then (CM_seq (sr (wm ?_))))
         refine wv vnot ?_
         refine nt' ?_
         rcases Bool.eq_false_or_eq_true s189 with g298 | g298
         ·
          have hpl := g298
          have hin299 : (admJ x0.Active x1.Id) < k188 := of_decide_eq_true (by rw [← hi196]; exact g298)
          rw [admP_in hkl296 hin299]
          refine CM_condF rfl (nt g298) ?_
          refine CM_skip (QM_then (CM_seq ?_))
          refine CM_items (pk [0, 2, 3, 5, 6, 7, 8, 9, 10, 11, 13]) ?_
          refine CM_region ?_
          refine wv (fun W hm => rv_loadN (cs := [.slice A66 x0.Store.Segments.length c67, .int .i64 x0.Store.Now, .int .i64 x0.Cursor, .slice A70 x0.Order.length c71, .slice A191 (List.take (admJ x0.Active x1.Id) ps185 ++ [((K11, (⟨x1, x0.Store.Now, d140, 0, 0, x2, []⟩ : DActive)) : List Value × DActive)] ++ List.drop (admJ x0.Active x1.Id) ps185).length c192, .slice A78 x0.Done.length c79, .slice A82 x0.Ledger.length c83, .int .i64 x0.Steps]) underlying44 type44 rfl rfl (hm.boxCells (n := 2) rfl)) ?_
          refine sb 0 [.slice A66 x0.Store.Segments.length c67, .int .i64 x0.Store.Now, .int .i64 x0.Cursor, .slice A70 x0.Order.length c71, .slice A191 (List.take (admJ x0.Active x1.Id) ps185 ++ [((K11, (⟨x1, x0.Store.Now, d140, 0, 0, x2, []⟩ : DActive)) : List Value × DActive)] ++ List.drop (admJ x0.Active x1.Id) ps185).length c192, .slice A78 x0.Done.length c79, .slice A82 x0.Ledger.length c83, .int .i64 x0.Steps] [iOwn (tSl (tCk (ckA tyActive)) 93) [.slice A191 (List.take (admJ x0.Active x1.Id) ps185 ++ [((K11, (⟨x1, x0.Store.Now, d140, 0, 0, x2, []⟩ : DActive)) : List Value × DActive)] ++ List.drop (admJ x0.Active x1.Id) ps185).length c192] (List.take (admJ x0.Active x1.Id) ps185 ++ [((K11, (⟨x1, x0.Store.Now, d140, 0, 0, x2, []⟩ : DActive)) : List Value × DActive)] ++ List.drop (admJ x0.Active x1.Id) ps185), iCk tyActive ps185, iBox p86 44 [.slice A66 x0.Store.Segments.length c67, .int .i64 x0.Store.Now, .int .i64 x0.Cursor, .slice A70 x0.Order.length c71, .slice A191 (List.take (admJ x0.Active x1.Id) ps185 ++ [((K11, (⟨x1, x0.Store.Now, d140, 0, 0, x2, []⟩ : DActive)) : List Value × DActive)] ++ List.drop (admJ x0.Active x1.Id) ps185).length c192, .slice A78 x0.Done.length c79, .slice A82 x0.Ledger.length c83, .int .i64 x0.Steps], I21, I22, I16, I17, I19, I20, I23] (pk [9, 0, 1, 2, 3, 4, 5, 6, 7, 8, 10]) type44 ?_
          refine wa (nt' (CM_ret ?_))
          refine QM_items (fun W hm => hm.addNil (E := tyRow) (e := 138)) ?_
          refine QM_items (fun W hm => Mem.ckInsert hps186 (Mem.join (is := [I21, I22, I23, iOwn (tSl tyRow 138) [.slice none 0 0] []]) (js := (iOwn (tSl (tCk (ckA tyActive)) 93) [.slice A191 (List.take (admJ x0.Active x1.Id) ps185 ++ [((K11, (⟨x1, x0.Store.Now, d140, 0, 0, x2, []⟩ : DActive)) : List Value × DActive)] ++ List.drop (admJ x0.Active x1.Id) ps185).length c192] (List.take (admJ x0.Active x1.Id) ps185 ++ [((K11, (⟨x1, x0.Store.Now, d140, 0, 0, x2, []⟩ : DActive)) : List Value × DActive)] ++ List.drop (admJ x0.Active x1.Id) ps185) :: iCk tyActive ps185 :: [iBox p59 44 [.slice A66 x0.Store.Segments.length c67, .int .i64 x0.Store.Now, .int .i64 x0.Cursor, .slice A70 x0.Order.length c71, .slice A191 (List.take (admJ x0.Active x1.Id) ps185 ++ [((K11, (⟨x1, x0.Store.Now, d140, 0, 0, x2, []⟩ : DActive)) : List Value × DActive)] ++ List.drop (admJ x0.Active x1.Id) ps185).length c192, .slice A78 x0.Done.length c79, .slice A82 x0.Ledger.length c83, .int .i64 x0.Steps], iBox p86 44 [.slice A66 x0.Store.Segments.length c67, .int .i64 x0.Store.Now, .int .i64 x0.Cursor, .slice A70 x0.Order.length c71, .slice A191 (List.take (admJ x0.Active x1.Id) ps185 ++ [((K11, (⟨x1, x0.Store.Now, d140, 0, 0, x2, []⟩ : DActive)) : List Value × DActive)] ++ List.drop (admJ x0.Active x1.Id) ps185).length c192, .slice A78 x0.Done.length c79, .slice A82 x0.Ledger.length c83, .int .i64 x0.Steps], I16, I17, I19, I20])) (fun _ _ hs => tyActive_join (x := (⟨x1, x0.Store.Now, d140, 0, 0, x2, []⟩ : DActive)) hs) (hm.pick [5, 6, 11, 0, 2, 3, 1, 4, 7, 8, 9, 10] (by decide)))) ?_
          have hl301 : (List.take (admJ x0.Active x1.Id) ps185 ++ [((K11, (⟨x1, x0.Store.Now, d140, 0, 0, x2, []⟩ : DActive)) : List Value × DActive)] ++ List.drop (admJ x0.Active x1.Id) ps185).length = ((List.take (admJ x0.Active x1.Id) x0.Active ++ [(⟨x1, x0.Store.Now, d140, 0, 0, x2, []⟩ : DActive)]) ++ List.drop (admJ x0.Active x1.Id) x0.Active).length := by rw [← hps186]; simp only [List.length_append, List.length_take, List.length_drop, List.length_map, List.length_cons, List.length_nil]
          rw [hl301]
          refine QM_r2 rfl (RR_cell (n := 1) rfl rfl underlying44 type44 rfl) (RR_tmp rfl) (fun W hm => ⟨[.slice A66 x0.Store.Segments.length c67, .int .i64 x0.Store.Now, .int .i64 x0.Cursor, .slice A70 x0.Order.length c71, .slice A191 ((List.take (admJ x0.Active x1.Id) x0.Active ++ [(⟨x1, x0.Store.Now, d140, 0, 0, x2, []⟩ : DActive)]) ++ List.drop (admJ x0.Active x1.Id) x0.Active).length c192, .slice A78 x0.Done.length c79, .slice A82 x0.Ledger.length c83, .int .i64 x0.Steps], ?_, ?_⟩)
          ·first | rw [(show spec_AdmitQuery_m x0 x1 x2 = ((⟨x0.Store, x0.Cursor, x0.Order, ((List.take (admJ x0.Active x1.Id) x0.Active ++ [(⟨x1, x0.Store.Now, d140, 0, 0, x2, []⟩ : DActive)]) ++ List.drop (admJ x0.Active x1.Id) x0.Active), x0.Done, x0.Ledger, x0.Steps⟩ : DEngine), true) from by unfold spec_AdmitQuery_m; exact cond_t g88 (cond_t g90 (cond_t g92 (cond_f g94 (cond_f g96 (fin_inr hE156 (fin_inr hE295 (cond_t g298 (rfl)))))))))] | rfl
           try rfl
          ·rw [(show spec_AdmitQuery_m x0 x1 x2 = ((⟨x0.Store, x0.Cursor, x0.Order, ((List.take (admJ x0.Active x1.Id) x0.Active ++ [(⟨x1, x0.Store.Now, d140, 0, 0, x2, []⟩ : DActive)]) ++ List.drop (admJ x0.Active x1.Id) x0.Active), x0.Done, x0.Ledger, x0.Steps⟩ : DEngine), true) from by unfold spec_AdmitQuery_m; exact cond_t g88 (cond_t g90 (cond_t g92 (cond_f g94 (cond_f g96 (fin_inr hE156 (fin_inr hE295 (cond_t g298 (rfl)))))))))]; exact Mem.join (is := [I16, I17, iOwn (tSl tyActive 93) [.slice A191 ((List.take (admJ x0.Active x1.Id) x0.Active ++ [(⟨x1, x0.Store.Now, d140, 0, 0, x2, []⟩ : DActive)]) ++ List.drop (admJ x0.Active x1.Id) x0.Active).length c192] ((List.take (admJ x0.Active x1.Id) x0.Active ++ [(⟨x1, x0.Store.Now, d140, 0, 0, x2, []⟩ : DActive)]) ++ List.drop (admJ x0.Active x1.Id) x0.Active), I19, I20]) (js := []) (fun _ _ hs => tyEngine_join (x := (⟨x0.Store, x0.Cursor, x0.Order, ((List.take (admJ x0.Active x1.Id) x0.Active ++ [(⟨x1, x0.Store.Now, d140, 0, 0, x2, []⟩ : DActive)]) ++ List.drop (admJ x0.Active x1.Id) x0.Active), x0.Done, x0.Ledger, x0.Steps⟩ : DEngine)) hs) (hm.pick [3, 4, 0, 5, 6] (by decide))
         ·
          have hpl := g298
          have hin302 : ¬ (admJ x0.Active x1.Id) < k188 := of_decide_eq_false (by rw [← hi196]; exact g298)
          have hx303 : k188 = x0.Active.length := by omega
          rw [admP_out hkl296 hin302, hx303]
          refine CM_condT rfl (nf g298) ?_
          refine CM_region ?_
          refine wv (vf underlying44 rfl type40) ?_
          refine wv (vl 3 4 underlying40) ?_
          refine wv (fun W hm => rv_loadN (cs := K11) underlying93 type93 rfl rfl (hm.boxCells (n := 4) rfl)) ?_
          refine WM_build (cs := K11) underlying40 type93 rfl (by decide) (by decide) rfl (by kernel_rfl) (Wd_none rfl) (by decide) (fun p304 => ?_)
          refine ap1 (tCk (ckA tyActive)) 93 (.slice A191 (List.take x0.Active.length ps185).length c192) (List.take x0.Active.length ps185) ((K11, (⟨x1, x0.Store.Now, d140, 0, 0, x2, []⟩ : DActive)) : List Value × DActive) [] [I25, iCk tyActive ps185, iBox p86 44 [.slice A66 x0.Store.Segments.length c67, .int .i64 x0.Store.Now, .int .i64 x0.Cursor, .slice A70 x0.Order.length c71, .slice A191 (List.take x0.Active.length ps185).length c192, .slice A78 x0.Done.length c79, .slice A82 x0.Ledger.length c83, .int .i64 x0.Steps], iBox p108 93 K11, I21, I22, I16, I17, I19, I20, iBox p59 44 K7, iBox p58 48 K8, I23] K11 (fun W hm => hm) (fun _ _ hs => by cases (Sep.nil hs); exact (els_ck1 rfl rfl)) underlying40 type93 (show ((List.take x0.Active.length ps185).length + 1) * 144 ≤ 140737488355328 from by first | omega | (simp only [List.length_append, List.length_cons, List.length_nil, List.length_take] at *; omega)) (fun v305 => ?_)
          refine WM_form (n := 0) rfl ?_
          rintro A306 c307 rfl m308
          refine wv (vf underlying44 rfl type40) ?_
          refine sb 4 [.slice A66 x0.Store.Segments.length c67, .int .i64 x0.Store.Now, .int .i64 x0.Cursor, .slice A70 x0.Order.length c71, .slice A306 ((List.take x0.Active.length ps185) ++ [((K11, (⟨x1, x0.Store.Now, d140, 0, 0, x2, []⟩ : DActive)) : List Value × DActive)]).length c307, .slice A78 x0.Done.length c79, .slice A82 x0.Ledger.length c83, .int .i64 x0.Steps] [iOwn (tSl (tCk (ckA tyActive)) 93) [.slice A306 ((List.take x0.Active.length ps185) ++ [((K11, (⟨x1, x0.Store.Now, d140, 0, 0, x2, []⟩ : DActive)) : List Value × DActive)]).length c307] ((List.take x0.Active.length ps185) ++ [((K11, (⟨x1, x0.Store.Now, d140, 0, 0, x2, []⟩ : DActive)) : List Value × DActive)]), I25, iCk tyActive ps185, iBox p108 93 K11, I21, I22, I16, I17, I19, I20, iBox p59 44 K7, iBox p58 48 K8, I23] (pk [3, 0, 1, 2, 4, 5, 6, 7, 8, 9, 10, 11, 12, 13]) type40 ?_
          refine nt' (CM_seq ?_)
          refine CM_items (pk [0, 1, 3, 5, 6, 7, 8, 9, 10, 11, 13]) ?_
          refine CM_region ?_
          refine wv (fun W hm => rv_loadN (cs := [.slice A66 x0.Store.Segments.length c67, .int .i64 x0.Store.Now, .int .i64 x0.Cursor, .slice A70 x0.Order.length c71, .slice A306 ((List.take x0.Active.length ps185) ++ [((K11, (⟨x1, x0.Store.Now, d140, 0, 0, x2, []⟩ : DActive)) : List Value × DActive)]).length c307, .slice A78 x0.Done.length c79, .slice A82 x0.Ledger.length c83, .int .i64 x0.Steps]) underlying44 type44 rfl rfl (hm.boxCells (n := 0) rfl)) ?_
          refine sb 0 [.slice A66 x0.Store.Segments.length c67, .int .i64 x0.Store.Now, .int .i64 x0.Cursor, .slice A70 x0.Order.length c71, .slice A306 ((List.take x0.Active.length ps185) ++ [((K11, (⟨x1, x0.Store.Now, d140, 0, 0, x2, []⟩ : DActive)) : List Value × DActive)]).length c307, .slice A78 x0.Done.length c79, .slice A82 x0.Ledger.length c83, .int .i64 x0.Steps] [iBox p86 44 [.slice A66 x0.Store.Segments.length c67, .int .i64 x0.Store.Now, .int .i64 x0.Cursor, .slice A70 x0.Order.length c71, .slice A306 ((List.take x0.Active.length ps185) ++ [((K11, (⟨x1, x0.Store.Now, d140, 0, 0, x2, []⟩ : DActive)) : List Value × DActive)]).length c307, .slice A78 x0.Done.length c79, .slice A82 x0.Ledger.length c83, .int .i64 x0.Steps], iOwn (tSl (tCk (ckA tyActive)) 93) [.slice A306 ((List.take x0.Active.length ps185) ++ [((K11, (⟨x1, x0.Store.Now, d140, 0, 0, x2, []⟩ : DActive)) : List Value × DActive)]).length c307] ((List.take x0.Active.length ps185) ++ [((K11, (⟨x1, x0.Store.Now, d140, 0, 0, x2, []⟩ : DActive)) : List Value × DActive)]), iCk tyActive ps185, I21, I22, I16, I17, I19, I20, I23] (pk [9, 0, 1, 2, 3, 4, 5, 6, 7, 8, 10]) type44 ?_
          refine wa (nt' (CM_ret ?_))
          rw [take_drop0 (show x0.Active.length = ps185.length from by omega)]
          refine QM_items (fun W hm => hm.addNil (E := tyRow) (e := 138)) ?_
          refine QM_items (fun W hm => Mem.ckInsert hps186 (Mem.join (is := [I21, I22, I23, iOwn (tSl tyRow 138) [.slice none 0 0] []]) (js := (iOwn (tSl (tCk (ckA tyActive)) 93) [.slice A306 (((List.take x0.Active.length ps185) ++ [((K11, (⟨x1, x0.Store.Now, d140, 0, 0, x2, []⟩ : DActive)) : List Value × DActive)]) ++ List.drop x0.Active.length ps185).length c307] (((List.take x0.Active.length ps185) ++ [((K11, (⟨x1, x0.Store.Now, d140, 0, 0, x2, []⟩ : DActive)) : List Value × DActive)]) ++ List.drop x0.Active.length ps185) :: iCk tyActive ps185 :: [iBox p59 44 [.slice A66 x0.Store.Segments.length c67, .int .i64 x0.Store.Now, .int .i64 x0.Cursor, .slice A70 x0.Order.length c71, .slice A306 (((List.take x0.Active.length ps185) ++ [((K11, (⟨x1, x0.Store.Now, d140, 0, 0, x2, []⟩ : DActive)) : List Value × DActive)]) ++ List.drop x0.Active.length ps185).length c307, .slice A78 x0.Done.length c79, .slice A82 x0.Ledger.length c83, .int .i64 x0.Steps], iBox p86 44 [.slice A66 x0.Store.Segments.length c67, .int .i64 x0.Store.Now, .int .i64 x0.Cursor, .slice A70 x0.Order.length c71, .slice A306 (((List.take x0.Active.length ps185) ++ [((K11, (⟨x1, x0.Store.Now, d140, 0, 0, x2, []⟩ : DActive)) : List Value × DActive)]) ++ List.drop x0.Active.length ps185).length c307, .slice A78 x0.Done.length c79, .slice A82 x0.Ledger.length c83, .int .i64 x0.Steps], I16, I17, I19, I20])) (fun _ _ hs => tyActive_join (x := (⟨x1, x0.Store.Now, d140, 0, 0, x2, []⟩ : DActive)) hs) (hm.pick [5, 6, 11, 0, 3, 4, 1, 2, 7, 8, 9, 10] (by decide)))) ?_
          have hl311 : (((List.take x0.Active.length ps185) ++ [((K11, (⟨x1, x0.Store.Now, d140, 0, 0, x2, []⟩ : DActive)) : List Value × DActive)]) ++ List.drop x0.Active.length ps185).length = ((List.take x0.Active.length x0.Active ++ [(⟨x1, x0.Store.Now, d140, 0, 0, x2, []⟩ : DActive)]) ++ List.drop x0.Active.length x0.Active).length := by rw [← hps186]; simp only [List.length_append, List.length_take, List.length_drop, List.length_map, List.length_cons, List.length_nil]
          rw [hl311]
          refine QM_r2 rfl (RR_cell (n := 1) rfl rfl underlying44 type44 rfl) (RR_tmp rfl) (fun W hm => ⟨[.slice A66 x0.Store.Segments.length c67, .int .i64 x0.Store.Now, .int .i64 x0.Cursor, .slice A70 x0.Order.length c71, .slice A306 ((List.take x0.Active.length x0.Active ++ [(⟨x1, x0.Store.Now, d140, 0, 0, x2, []⟩ : DActive)]) ++ List.drop x0.Active.length x0.Active).length c307, .slice A78 x0.Done.length c79, .slice A82 x0.Ledger.length c83, .int .i64 x0.Steps], ?_, ?_⟩)
          ·first | rw [(show spec_AdmitQuery_m x0 x1 x2 = ((⟨x0.Store, x0.Cursor, x0.Order, ((List.take x0.Active.length x0.Active ++ [(⟨x1, x0.Store.Now, d140, 0, 0, x2, []⟩ : DActive)]) ++ List.drop x0.Active.length x0.Active), x0.Done, x0.Ledger, x0.Steps⟩ : DEngine), true) from by unfold spec_AdmitQuery_m; exact cond_t g88 (cond_t g90 (cond_t g92 (cond_f g94 (cond_f g96 (fin_inr hE156 (fin_inr hE295 (cond_f g298 (rfl)))))))))] | rfl
           try rfl
          ·rw [(show spec_AdmitQuery_m x0 x1 x2 = ((⟨x0.Store, x0.Cursor, x0.Order, ((List.take x0.Active.length x0.Active ++ [(⟨x1, x0.Store.Now, d140, 0, 0, x2, []⟩ : DActive)]) ++ List.drop x0.Active.length x0.Active), x0.Done, x0.Ledger, x0.Steps⟩ : DEngine), true) from by unfold spec_AdmitQuery_m; exact cond_t g88 (cond_t g90 (cond_t g92 (cond_f g94 (cond_f g96 (fin_inr hE156 (fin_inr hE295 (cond_f g298 (rfl)))))))))]; exact Mem.join (is := [I16, I17, iOwn (tSl tyActive 93) [.slice A306 ((List.take x0.Active.length x0.Active ++ [(⟨x1, x0.Store.Now, d140, 0, 0, x2, []⟩ : DActive)]) ++ List.drop x0.Active.length x0.Active).length c307] ((List.take x0.Active.length x0.Active ++ [(⟨x1, x0.Store.Now, d140, 0, 0, x2, []⟩ : DActive)]) ++ List.drop x0.Active.length x0.Active), I19, I20]) (js := []) (fun _ _ hs => tyEngine_join (x := (⟨x0.Store, x0.Cursor, x0.Order, ((List.take x0.Active.length x0.Active ++ [(⟨x1, x0.Store.Now, d140, 0, 0, x2, []⟩ : DActive)]) ++ List.drop x0.Active.length x0.Active), x0.Done, x0.Ledger, x0.Steps⟩ : DEngine)) hs) (hm.pick [3, 4, 0, 5, 6] (by decide))
   ·
    refine ws (nf g92) ?_
    refine ws (nf g92) ?_
    refine ws (nf g92) ?_
    refine ws (nf g92) ?_
    refine ws (nf g92) ?_
    refine wv (vpT (nf g92)) ?_
    refine wm ?_
    refine wk ?_
    refine wk ?_
    refine wk ?_
    refine wk ?_
    refine wv (vpT rfl) ?_
    refine nt' ?_
    refine CM_condT rfl rfl ?_
    refine sr ?_
    refine wv (fun W hm => rv_loadN (cs := K6) underlying44 type44 rfl rfl (hm.boxCells (n := 0) rfl)) ?_
    refine sb 0 K6 [iBox p86 44 K6, I16, I17, I18, I19, I20, iBox p58 48 K8, iBox p57 44 K5] (pk [6, 0, 1, 2, 3, 4, 5, 7, 8]) type44 ?_
    refine wa (nt' (CM_ret (QM_then_ret ?_)))
    refine QM_r2 rfl (RR_cell (n := 0) rfl rfl underlying44 type44 rfl) (RR_tmp rfl) (fun W hm => ⟨K6, ?_, ?_⟩)
    ·first | rw [(show spec_AdmitQuery_m x0 x1 x2 = (x0, false) from by unfold spec_AdmitQuery_m; exact cond_t g88 (cond_t g90 (cond_f g92 (rfl))))] | rfl
     try rfl
    ·rw [(show spec_AdmitQuery_m x0 x1 x2 = (x0, false) from by unfold spec_AdmitQuery_m; exact cond_t g88 (cond_t g90 (cond_f g92 (rfl))))]; exact Mem.join (is := [I16, I17, I18, I19, I20]) (js := []) (fun _ _ hs => tyEngine_join (x := x0) hs) (hm.pick [2, 3, 4, 5, 6] (by decide))
  ·
   refine ws (nf g90) ?_
   refine ws (nf g90) ?_
   refine ws (nf g90) ?_
   refine wv (vpT (nf g90)) ?_
   refine wm ?_
   refine wk ?_
   refine wk ?_
   refine wk ?_
   refine wk ?_
   refine wk ?_
   refine wv (vpT rfl) ?_
   refine wm ?_
   refine wk ?_
   refine wk ?_
   refine wk ?_
   refine wk ?_
   refine wv (vpT rfl) ?_
   refine nt' ?_
   refine CM_condT rfl rfl ?_
   refine sr ?_
   refine wv (fun W hm => rv_loadN (cs := K6) underlying44 type44 rfl rfl (hm.boxCells (n := 0) rfl)) ?_
   refine sb 0 K6 [iBox p86 44 K6, I16, I17, I18, I19, I20, iBox p58 48 K8, iBox p57 44 K5] (pk [6, 0, 1, 2, 3, 4, 5, 7, 8]) type44 ?_
   refine wa (nt' (CM_ret (QM_then_ret ?_)))
   refine QM_r2 rfl (RR_cell (n := 0) rfl rfl underlying44 type44 rfl) (RR_tmp rfl) (fun W hm => ⟨K6, ?_, ?_⟩)
   ·first | rw [(show spec_AdmitQuery_m x0 x1 x2 = (x0, false) from by unfold spec_AdmitQuery_m; exact cond_t g88 (cond_f g90 (rfl)))] | rfl
    try rfl
   ·rw [(show spec_AdmitQuery_m x0 x1 x2 = (x0, false) from by unfold spec_AdmitQuery_m; exact cond_t g88 (cond_f g90 (rfl)))]; exact Mem.join (is := [I16, I17, I18, I19, I20]) (js := []) (fun _ _ hs => tyEngine_join (x := x0) hs) (hm.pick [2, 3, 4, 5, 6] (by decide))
 ·
  refine ws (nf g88) ?_
  refine ws (nf g88) ?_
  refine ws (nf g88) ?_
  refine wv (vpT (nf g88)) ?_
  refine wm ?_
  refine wk ?_
  refine wk ?_
  refine wk ?_
  refine wv (vpT rfl) ?_
  refine wm ?_
  refine wk ?_
  refine wk ?_
  refine wk ?_
  refine wk ?_
  refine wk ?_
  refine wv (vpT rfl) ?_
  refine wm ?_
  refine wk ?_
  refine wk ?_
  refine wk ?_
  refine wk ?_
  refine wv (vpT rfl) ?_
  refine nt' ?_
  refine CM_condT rfl rfl ?_
  refine sr ?_
  refine wv (fun W hm => rv_loadN (cs := K6) underlying44 type44 rfl rfl (hm.boxCells (n := 0) rfl)) ?_
  refine sb 0 K6 [iBox p86 44 K6, I16, I17, I18, I19, I20, iBox p58 48 K8, iBox p57 44 K5] (pk [6, 0, 1, 2, 3, 4, 5, 7, 8]) type44 ?_
  refine wa (nt' (CM_ret (QM_then_ret ?_)))
  refine QM_r2 rfl (RR_cell (n := 0) rfl rfl underlying44 type44 rfl) (RR_tmp rfl) (fun W hm => ⟨K6, ?_, ?_⟩)
  ·first | rw [(show spec_AdmitQuery_m x0 x1 x2 = (x0, false) from by unfold spec_AdmitQuery_m; exact cond_f g88 (rfl))] | rfl
   try rfl
  ·rw [(show spec_AdmitQuery_m x0 x1 x2 = (x0, false) from by unfold spec_AdmitQuery_m; exact cond_f g88 (rfl))]; exact Mem.join (is := [I16, I17, I18, I19, I20]) (js := []) (fun _ _ hs => tyEngine_join (x := x0) hs) (hm.pick [2, 3, 4, 5, 6] (by decide))

def spec_StepBound_m (x0 : Int) : Int :=
 cond (spec_l1In_m x0 1 8) (IntKind.i64.wrap (4 * (IntKind.i64.wrap (1 + x0)))) 0
theorem cb19 : Cb Tryz.prog 19 := ⟨f19, _, func19, rfl, by decide⟩
theorem spec_StepBound_c (w : World) (x0 : Int) :
  Calls Tryz.prog 19 #[.int .i64 x0] w fun e w' => e = .returned (.int .i64 (spec_StepBound_m x0)) ∧ Below w.heap.size w w' := by
 refine ce1 (L := [(0, .int .i64 x0)]) (N := 9) func19 ?_
 refine sr (wa (nt' (CM_seq (sr (wm ?_)))))
 refine wcv (cl_fn cb41 rfl) (fun W hm => spec_l1In_c W x0 1 8) ?_
 refine wv vnot ?_
 refine nt' ?_
 rcases Bool.eq_false_or_eq_true (spec_l1In_m x0 1 8) with g2 | g2
 ·
  have hw := spec_l1In_fact g2
  refine CM_condF rfl (nt g2) ?_
  refine CM_skip (QM_then (sr (wm ?_)))
  refine wv vadd ?_
  refine wv (fun W hm => rv_mul rfl rfl) ?_
  refine wa (nt' (CM_ret ?_))
  exact rti (h := by unfold spec_StepBound_m; exact cond_t g2 (rfl))
 ·
  refine CM_condT rfl (nf g2) ?_
  refine sr (wa (nt' (CM_ret (QM_then_ret ?_))))
  exact rti (h := by unfold spec_StepBound_m; exact cond_f g2 (rfl))

def spec_CanAdmit_m (x0 : DEngine) (x1 : DQuery) (x2 : Int) (x3 : Int) : Bool :=
 cond ((spec_AdmitQuery_m x0 x1 x2).2) (decide ((spec_StepBound_m ((x0.Active.length + 1 : Nat) : Int)) ≤ x3)) false
theorem cb6 : Cb Tryz.prog 6 := ⟨f6, _, func6, rfl, by decide⟩
theorem spec_CanAdmit_c (w : World) (z0 : List Value) (x0 : DEngine) (z1 : List Value) (x1 : DQuery) (x2 : Int) (x3 : Int) (r_0 : tyEngine.rd w w.heap.size z0 x0) (r_1 : tyQuery.rd w w.heap.size z1 x1) (s_0 : smEngine 68719476736 x0) (s_1 : smQuery 68719476736 x1) :
  Calls Tryz.prog 6 #[.agg z0.toArray, .agg z1.toArray, .int .i64 x2, .int .i64 x3] w fun e w' => e = .returned (.bool (spec_CanAdmit_m x0 x1 x2 x3)) ∧ Below w.heap.size w w' := by
 obtain ⟨v1, v3, v5, v7, v9, rfl, r2, r4, r6, r8, r10⟩ := tyEngine_rd r_0
 have r15 := r2
 obtain ⟨m11, A12, c13, rfl, q14⟩ := r2
 have r20 := r4
 obtain ⟨m16, A17, c18, rfl, q19⟩ := r4
 have r25 := r6
 obtain ⟨m21, A22, c23, rfl, q24⟩ := r6
 have r30 := r8
 obtain ⟨m26, A27, c28, rfl, q29⟩ := r8
 have r35 := r10
 obtain ⟨m31, A32, c33, rfl, q34⟩ := r10
 obtain ⟨v36, v38, rfl, r37, r39⟩ := tyQuery_rd r_1
 have r44 := r37
 obtain ⟨m40, A41, c42, rfl, q43⟩ := r37
 have r49 := r39
 obtain ⟨m45, A46, c47, rfl, q48⟩ := r39
 have l50 : x0.Store.Segments.length ≤ 68719476736 := s_0.1.1
 have l51 : x0.Order.length ≤ 68719476736 := s_0.2.1
 have l52 : x0.Active.length ≤ 68719476736 := s_0.2.2.1.1
 have l53 : x0.Done.length ≤ 68719476736 := s_0.2.2.2.1.1
 have l54 : x0.Ledger.length ≤ 68719476736 := s_0.2.2.2.2.1
 have l55 : x1.Conds.length ≤ 68719476736 := s_1.1
 have l56 : x1.Out.length ≤ 68719476736 := s_1.2
 refine ce4 (L := [(0, .agg #[.slice A12 x0.Store.Segments.length c13, .int .i64 x0.Store.Now, .int .i64 x0.Cursor, .slice A17 x0.Order.length c18, .slice A22 x0.Active.length c23, .slice A27 x0.Done.length c28, .slice A32 x0.Ledger.length c33, .int .i64 x0.Steps]), (1, .agg #[.int .i64 x1.Id, .int .i64 x1.Tenant, .slice A41 x1.Conds.length c42, .slice A46 x1.Out.length c47]), (2, .int .i64 x2), (3, .int .i64 x3)]) (N := 28) func6 ?_
 refine sr ?_
 refine WM_box rfl (Wd_none rfl) (by decide) (fun p57 => ?_)
 refine WM_box rfl (Wd_none rfl) (by decide) (fun p58 => ?_)
 refine wa (nt' (sr ?_))
 let K1 : List Value := [.slice A12 x0.Store.Segments.length c13, .int .i64 x0.Store.Now, .int .i64 x0.Cursor, .slice A17 x0.Order.length c18, .slice A22 x0.Active.length c23, .slice A27 x0.Done.length c28, .slice A32 x0.Ledger.length c33, .int .i64 x0.Steps]
 refine wv (fun W hm => rv_loadN (cs := K1) underlying44 type44 rfl rfl (hm.boxCells (n := 1) rfl)) ?_
 let K2 : List Value := [.int .i64 x1.Id, .int .i64 x1.Tenant, .slice A41 x1.Conds.length c42, .slice A46 x1.Out.length c47]
 refine wv (fun W hm => rv_loadN (cs := K2) underlying48 type48 rfl rfl (hm.boxCells (n := 0) rfl)) ?_
 refine wm ?_
 refine WM_call (χ := List Value) (val := fun x => .tuple #[.agg x.toArray, .bool ((spec_AdmitQuery_m x0 x1 x2).2)]) (js := fun x => [iOwn tyEngine x ((spec_AdmitQuery_m x0 x1 x2).1)]) (cl_fn cb18 rfl) (fun W hm => spec_AdmitQuery_c W _ x0 _ x1 x2 (tyEngine_mk (x := x0) (hm.rdS0 r15) (hm.rdS0 r20) (hm.rdS0 r25) (hm.rdS0 r30) (hm.rdS0 r35)) (tyQuery_mk (x := x1) (hm.rdS0 r44) (hm.rdS0 r49)) s_0 s_1) (Wd_none rfl) (by decide) (fun z59 => ?_)
 refine tyEngine_sp ?_
 rintro ⟨v60, v61, v62, v63, v64⟩ rfl
 refine WM_form (n := 0) rfl ?_
 rintro A65 c66 rfl m67
 refine WM_form (n := 1) rfl ?_
 rintro A69 c70 rfl m71
 refine WM_form (n := 2) rfl ?_
 rintro A73 c74 rfl m75
 refine WM_form (n := 3) rfl ?_
 rintro A77 c78 rfl m79
 refine WM_form (n := 4) rfl ?_
 rintro A81 c82 rfl m83
 refine wm ?_
 refine wv (fun W hm => rv_extract rfl rfl) ?_
 refine wv (fun W hm => rv_extract rfl rfl) ?_
 refine WM_alloc type44 rfl (Wd_none rfl) (by decide) (fun p85 => ?_)
 refine sb 0 [.slice A65 (((spec_AdmitQuery_m x0 x1 x2).1).Store.Segments).length c66, .int .i64 (((spec_AdmitQuery_m x0 x1 x2).1).Store.Now), .int .i64 (((spec_AdmitQuery_m x0 x1 x2).1).Cursor), .slice A69 (((spec_AdmitQuery_m x0 x1 x2).1).Order).length c70, .slice A73 (((spec_AdmitQuery_m x0 x1 x2).1).Active).length c74, .slice A77 (((spec_AdmitQuery_m x0 x1 x2).1).Done).length c78, .slice A81 (((spec_AdmitQuery_m x0 x1 x2).1).Ledger).length c82, .int .i64 (((spec_AdmitQuery_m x0 x1 x2).1).Steps)] [iOwn (tSl (tSl tyVersion 142) 122) [.slice A65 (((spec_AdmitQuery_m x0 x1 x2).1).Store.Segments).length c66] (((spec_AdmitQuery_m x0 x1 x2).1).Store.Segments), iOwn (tSl tInt 3) [.slice A69 (((spec_AdmitQuery_m x0 x1 x2).1).Order).length c70] (((spec_AdmitQuery_m x0 x1 x2).1).Order), iOwn (tSl tyActive 93) [.slice A73 (((spec_AdmitQuery_m x0 x1 x2).1).Active).length c74] (((spec_AdmitQuery_m x0 x1 x2).1).Active), iOwn (tSl tyFinished 97) [.slice A77 (((spec_AdmitQuery_m x0 x1 x2).1).Done).length c78] (((spec_AdmitQuery_m x0 x1 x2).1).Done), iOwn (tSl tyCharge 99) [.slice A81 (((spec_AdmitQuery_m x0 x1 x2).1).Ledger).length c82] (((spec_AdmitQuery_m x0 x1 x2).1).Ledger), iBox p58 48 K2, iBox p57 44 K1] (fun W hm => hm) type44 ?_
 refine wa (nt' (CM_seq ?_))
 refine CM_items (pk [7]) ?_
 refine CM_region (wm (wm ?_))
 rcases Bool.eq_false_or_eq_true ((spec_AdmitQuery_m x0 x1 x2).2) with g87 | g87
 ·
  refine wg (vf underlying44 rfl type40) g87 ?_
  refine wg (vl 0 4 underlying40) g87 ?_
  refine wg (vlen underlying40) g87 ?_
  refine wg (vadN x0.Active.length 1 (by omega)) g87 ?_
  refine WM_callV (cl_fn cb19 rfl) (fun W hm => spec_StepBound_c W ((x0.Active.length + 1 : Nat) : Int)) (Wd_some rfl rfl rfl (bw g87 rfl)) (by decide) ?_
  refine wg vmv g87 ?_
  refine wg (fun W hm => rv_leq rfl rfl) g87 ?_
  refine wv (vpT g87) ?_
  refine wa (nt' (CM_ret ?_))
  exact rtb (h := by unfold spec_CanAdmit_m; exact cond_t g87 (rfl))
 ·
  refine ws g87 ?_
  refine ws g87 ?_
  refine ws g87 ?_
  refine ws g87 ?_
  refine ws g87 ?_
  refine ws g87 ?_
  refine ws g87 ?_
  refine wv (vpF g87) ?_
  refine wa (nt' (CM_ret ?_))
  exact rtb (h := by unfold spec_CanAdmit_m; exact cond_f g87 (rfl))

def impl_copyInts_m (x0 : (List Int)) : (List Int) :=
 x0
theorem cb75 : Cb Tryz.prog 75 := ⟨f75, _, func75, rfl, by decide⟩
theorem impl_copyInts_c (w : World) (z0 : Value) (x0 : (List Int)) (r_0 : rdS tInt w w.heap.size z0 x0) (s_0 : x0.length ≤ 68719476736) :
  Calls Tryz.prog 75 #[z0] w fun e w' => ∃ v : Value, e = .returned (v) ∧ Mem w.heap.size w [iOwn (tSl tInt 3) [v] (impl_copyInts_m x0)] w' := by
 have r5 := r_0
 obtain ⟨m1, A2, c3, rfl, q4⟩ := r_0
 have l6 : x0.length ≤ 68719476736 := s_0
 refine ce1 (L := [(0, .slice A2 x0.length c3)]) (N := 6) func75 ?_
 refine sr (wa (nt' (sr ?_)))
 refine WM_build0 (E := tInt) underlying25 type3 (Wd_none rfl) (by decide) (fun p7 => ?_)
 refine wm ?_
 refine apR tInt tInt 3 (.slice (some ⟨p7, 0, none⟩) 0 0) [] x0 [] (fun W hm => hm) (fun W hm => src_flat flat_int (hm.rdS0 r5)) underlying25 type3 (show (0 + x0.length) * 8 ≤ 140737488355328 from by omega) (fun v9 => ?_)
 refine WM_form (n := 0) rfl ?_
 rintro A10 c11 rfl m12
 refine wa (nt' (CM_ret ?_))
 refine QM_r1 rfl (RR_tmp rfl) (fun W hm => ⟨.slice A10 x0.length c11, ?_, ?_⟩)
 ·first | rw [(show impl_copyInts_m x0 = x0 from by unfold impl_copyInts_m; exact rfl)] | rfl
 ·rw [(show impl_copyInts_m x0 = x0 from by unfold impl_copyInts_m; exact rfl)]; exact hm
theorem impl_copyInts_eq (x0 : (List Int)) : impl_copyInts_m x0 = x0 := by
 rfl
theorem impl_copyInts_c2 (w : World) (z0 : Value) (x0 : (List Int)) (r_0 : rdS tInt w w.heap.size z0 x0) (s_0 : x0.length ≤ 68719476736) :
  Calls Tryz.prog 75 #[z0] w fun e w' => ∃ v : Value, e = .returned (v) ∧ Mem w.heap.size w [iOwn (tSl tInt 3) [v] x0] w' := by
 have h := impl_copyInts_c w z0 x0 r_0 s_0
 rw [impl_copyInts_eq] at h
 exact h

def impl_copyStore_b2 (x0 : DStore) (k12 : Nat) (k39 : Nat) (d40 : (List DVersion)) : DStore ⊕ ((List DVersion)) :=
 Sum.inr (d40 ++ [(⟨(gt (gt x0.Segments k12) k39).Id, ((gt (gt x0.Segments k12) k39).Values), (gt (gt x0.Segments k12) k39).Born, (gt (gt x0.Segments k12) k39).Died⟩ : DVersion)])
def impl_copyStore_b1 (x0 : DStore) (k12 : Nat) (d15 : (List (List DVersion))) : DStore ⊕ ((List (List DVersion))) :=
 Sum.elim Sum.inl (fun (s : (List DVersion)) => Sum.inr (d15 ++ [s])) (rng (R := DStore) (fun k (s : (List DVersion)) => impl_copyStore_b2 x0 k12 k s) (((gt x0.Segments k12)).length - 0) 0 [])
def impl_copyStore_m (x0 : DStore) : DStore :=
 Sum.elim id (fun (s : (List (List DVersion))) => (⟨s, x0.Now⟩ : DStore)) (rng (R := DStore) (fun k (s : (List (List DVersion))) => impl_copyStore_b1 x0 k s) (x0.Segments.length - 0) 0 [])
theorem cb74 : Cb Tryz.prog 74 := ⟨f74, _, func74, rfl, by decide⟩
theorem impl_copyStore_c (w : World) (z0 : List Value) (x0 : DStore) (r_0 : tyStore.rd w w.heap.size z0 x0) (s_0 : smStore 68719476736 x0) :
  Calls Tryz.prog 74 #[.agg z0.toArray] w fun e w' => ∃ v : List Value, e = .returned (.agg v.toArray) ∧ Mem w.heap.size w [iOwn tyStore v (impl_copyStore_m x0)] w' := by
 obtain ⟨v1, rfl, r2⟩ := tyStore_rd r_0
 have r7 := r2
 obtain ⟨m3, A4, c5, rfl, q6⟩ := r2
 have l8 : x0.Segments.length ≤ 68719476736 := s_0.1
 refine ce1 (L := [(0, .agg #[.slice A4 x0.Segments.length c5, .int .i64 x0.Now])]) (N := 48) func74 ?_
 refine sr ?_
 refine WM_box rfl (Wd_none rfl) (by decide) (fun p9 => ?_)
 refine WM_alloc type39 rfl (Wd_none rfl) (by decide) (fun p10 => ?_)
 refine nt' (sr ?_)
 refine wv (vf underlying39 rfl type3) ?_
 refine wv (vl 1 1 underlying3) ?_
 refine wv (fun W hm => rv_build (cs := [.slice none 0 0, .int .i64 x0.Now]) rfl (by kernel_rfl)) ?_
 refine WM_alloc type39 rfl (Wd_none rfl) (by decide) (fun p11 => ?_)
 let I7 : It := iBox p9 39 [.slice A4 x0.Segments.length c5, .int .i64 x0.Now]
 refine sb 0 [.slice none 0 0, .int .i64 x0.Now] [iBox p10 39 [.slice none 0 0, .int .i64 0], I7] (fun W hm => hm) type39 ?_
 refine nt' (CM_seq (sr ?_))
 refine wv (vf underlying39 rfl type37) ?_
 refine wv (vl 2 0 underlying37) ?_
 refine wv (vlen underlying37) ?_
 refine wm (nt' (CM_block ?_))
 refine CM_items (fun W hm => (hm.addNil (E := (tSl tyVersion 142)) (e := 122)).last) ?_
 let F1 := fun k (s : (List (List DVersion))) => impl_copyStore_b1 x0 k s
 let R3 := rng (R := DStore) F1
 refine CM_loop (σ := Nat × ((List (List DVersion))) × (Option Addr × Nat)) (fun s => [(2, .pointer (some (⟨p10, 0, none⟩ : Addr))), (3, .pointer (some (⟨p11, 0, none⟩ : Addr))), (13, .slice A4 x0.Segments.length c5), (14, .int .i64 ((x0.Segments.length : Nat) : Int)), (15, .int .i64 ((s.1 : Nat) : Int))]) (fun s => [iBox p11 39 [.slice s.2.2.1 s.2.1.length s.2.2.2, .int .i64 x0.Now], iBox p10 39 [.slice none 0 0, .int .i64 0], I7, iOwn (tSl (tSl tyVersion 142) 122) [.slice s.2.2.1 s.2.1.length s.2.2.2] s.2.1]) (fun s => s.1 ≤ x0.Segments.length ∧ R3 (x0.Segments.length - s.1) s.1 s.2.1 = R3 (x0.Segments.length - 0) 0 [] ∧ s.2.1.length ≤ 0 + s.1) (fun s => x0.Segments.length - s.1) (0, [], (none, 0)) sl5 (fun W hm => hm) ⟨(by omega), rfl, Nat.le_refl _⟩ ?_
 rintro ⟨k12, d15, ⟨A16, c17⟩⟩ H20
 obtain ⟨hk18, hF19, hi21⟩ : k12 ≤ x0.Segments.length ∧ R3 (x0.Segments.length - k12) k12 d15 = R3 (x0.Segments.length - 0) 0 [] ∧ d15.length ≤ 0 + k12 := H20
 let I8 : It := iBox p11 39 [.slice A16 d15.length c17, .int .i64 x0.Now]
 let I9 : It := iOwn (tSl (tSl tyVersion 142) 122) [.slice A16 d15.length c17] d15
 show CM Tryz.prog 48 _ _ _ _ [(2, .pointer (some (⟨p10, 0, none⟩ : Addr))), (3, .pointer (some (⟨p11, 0, none⟩ : Addr))), (13, .slice A4 x0.Segments.length c5), (14, .int .i64 ((x0.Segments.length : Nat) : Int)), (15, .int .i64 ((k12 : Nat) : Int))] [I8, iBox p10 39 [.slice none 0 0, .int .i64 0], I7, I9]
 refine sr ?_
 refine wv vlss ?_
 refine nt' (CM_seq ?_)
 by_cases hl22 : k12 < x0.Segments.length
 ·have g23 : (decide (((k12 : Nat) : Int) < ((x0.Segments.length : Nat) : Int))) = true := decide_eq_true (by omega)
  refine CM_condT rfl g23 ?_
  refine CM_skip (QM_then (CM_seq (CM_block (sr ?_))))
  obtain ⟨a24, rfl, hb25, he26⟩ := q6 (by omega)
  refine wv (vix 1 k12 underlying37 type122) ?_
  obtain ⟨_, e28, hc27⟩ := he26 k12 _ (gt_some (show k12 < x0.Segments.length from by omega))
  have l29 : (gt x0.Segments k12).length ≤ 68719476736 := (s_0.2 _ (gt_mem (show k12 < x0.Segments.length from by omega))).1
  obtain ⟨v30, rfl, r31⟩ := e28
  have r36 := r31
  obtain ⟨m32, A33, c34, rfl, q35⟩ := r31
  refine wv (fun W hm => rv_load underlying122 rfl rfl ((hm.cell0 (show (a24.add (k12 * 1)).block < w.heap.size from by rw [add_block]; exact hb25.1)).trans (hc27 0 _ rfl))) ?_
  refine wa (nt' (sr ?_))
  refine WM_build0 (E := tyVersion) underlying122 type142 (Wd_none rfl) (by decide) (fun p37 => ?_)
  refine wa (nt' (CM_seq (sr (wm ?_))))
  refine wv (vlen underlying122) ?_
  refine wm (nt' (CM_block ?_))
  let F2 := fun k (s : (List DVersion)) => impl_copyStore_b2 x0 k12 k s
  let R4 := rng (R := DStore) F2
  let I10 : It := iBox p9 39 [.slice (some a24) x0.Segments.length c5, .int .i64 x0.Now]
  refine CM_loop (σ := Nat × ((List DVersion)) × (Option Addr × Nat)) (fun s => [(2, .pointer (some (⟨p10, 0, none⟩ : Addr))), (3, .pointer (some (⟨p11, 0, none⟩ : Addr))), (6, .slice s.2.2.1 s.2.1.length s.2.2.2), (13, .slice (some a24) x0.Segments.length c5), (14, .int .i64 ((x0.Segments.length : Nat) : Int)), (15, .int .i64 ((k12 : Nat) : Int)), (20, .slice A33 ((gt x0.Segments k12)).length c34), (21, .int .i64 ((((gt x0.Segments k12)).length : Nat) : Int)), (22, .int .i64 ((s.1 : Nat) : Int))]) (fun s => [iOwn (tSl tyVersion 142) [.slice s.2.2.1 s.2.1.length s.2.2.2] s.2.1, I8, iBox p10 39 [.slice none 0 0, .int .i64 0], I10, I9]) (fun s => s.1 ≤ ((gt x0.Segments k12)).length ∧ R4 (((gt x0.Segments k12)).length - s.1) s.1 s.2.1 = R4 (((gt x0.Segments k12)).length - 0) 0 [] ∧ s.2.1.length ≤ 0 + s.1) (fun s => ((gt x0.Segments k12)).length - s.1) (0, [], ((some ⟨p37, 0, none⟩), 0)) sl9 (fun W hm => hm) ⟨(by omega), rfl, Nat.le_refl _⟩ ?_
  rintro ⟨k39, d40, ⟨A41, c42⟩⟩ H45
  obtain ⟨hk43, hF44, hi46⟩ : k39 ≤ ((gt x0.Segments k12)).length ∧ R4 (((gt x0.Segments k12)).length - k39) k39 d40 = R4 (((gt x0.Segments k12)).length - 0) 0 [] ∧ d40.length ≤ 0 + k39 := H45
  let I11 : It := iOwn (tSl tyVersion 142) [.slice A41 d40.length c42] d40
  show CM Tryz.prog 48 _ _ _ _ [(2, .pointer (some (⟨p10, 0, none⟩ : Addr))), (3, .pointer (some (⟨p11, 0, none⟩ : Addr))), (6, .slice A41 d40.length c42), (13, .slice (some a24) x0.Segments.length c5), (14, .int .i64 ((x0.Segments.length : Nat) : Int)), (15, .int .i64 ((k12 : Nat) : Int)), (20, .slice A33 ((gt x0.Segments k12)).length c34), (21, .int .i64 ((((gt x0.Segments k12)).length : Nat) : Int)), (22, .int .i64 ((k39 : Nat) : Int))] [I11, I8, iBox p10 39 [.slice none 0 0, .int .i64 0], I10, I9]
  refine sr ?_
  refine wv vlss ?_
  refine nt' (CM_seq ?_)
  by_cases hl47 : k39 < ((gt x0.Segments k12)).length
  ·have g48 : (decide (((k39 : Nat) : Int) < ((((gt x0.Segments k12)).length : Nat) : Int))) = true := decide_eq_true (by omega)
   refine CM_condT rfl g48 ?_
   refine CM_skip (QM_then (CM_seq (CM_block (sr ?_))))
   obtain ⟨a49, rfl, hb50, he51⟩ := q35 (by omega)
   refine wv (vix 4 k39 underlying122 type142) ?_
   obtain ⟨_, e55, hc52⟩ := he51 k39 _ (gt_some (show k39 < ((gt x0.Segments k12)).length from by omega))
   obtain ⟨v53, rfl, r54⟩ := tyVersion_rd e55
   have l56 : ((gt (gt x0.Segments k12) k39).Values).length ≤ 68719476736 := ((s_0.2 _ (gt_mem (show k12 < x0.Segments.length from by omega))).2 _ (gt_mem (show k39 < ((gt x0.Segments k12)).length from by omega)))
   have r61 := r54
   obtain ⟨m57, A58, c59, rfl, q60⟩ := r54
   let K5 : List Value := [.int .i64 ((gt (gt x0.Segments k12) k39).Id), .slice A58 ((gt (gt x0.Segments k12) k39).Values).length c59, .int .i64 ((gt (gt x0.Segments k12) k39).Born), .int .i64 ((gt (gt x0.Segments k12) k39).Died)]
   refine wv (fun W hm => rv_loadN (cs := K5) underlying142 type142 rfl rfl (hm.elCells (show (a49.add (k39 * 4)).block < w.heap.size from by rw [add_block]; exact hb50.1) hc52)) ?_
   refine WM_alloc type142 rfl (Wd_none rfl) (by decide) (fun p62 => ?_)
   refine sb 0 K5 [I11, I8, iBox p10 39 [.slice none 0 0, .int .i64 0], I10, I9] (fun W hm => hm) type142 ?_
   refine nt' ?_
   refine rb 14 (s := [iBox p62 142 K5, I8, iBox p10 39 [.slice none 0 0, .int .i64 0], I10, I9]) (pk [0, 2, 3, 4, 5]) ?_
   refine qt 14 0 1 rfl vmv ?_
   refine qt 14 1 3 rfl (vf underlying142 rfl type3) ?_
   refine qt 14 2 7 rfl (vl 0 0 underlying3) ?_
   refine qt 14 3 15 rfl (vf underlying142 rfl type25) ?_
   refine qt 14 4 31 rfl (vl 0 1 underlying25) ?_
   refine qt 14 6 95 rfl (vf underlying142 rfl type3) ?_
   refine qt 14 7 223 rfl (vl 0 2 underlying3) ?_
   refine qt 14 8 479 rfl (vf underlying142 rfl type3) ?_
   refine qt 14 9 991 rfl (vl 0 3 underlying3) ?_
   refine qo 14 5 1023 rfl ?_
   refine wcl (tSl tInt 3) ((gt (gt x0.Segments k12) k39).Values) (cl_fn cb75 rfl) (fun W hm => impl_copyInts_c2 W _ ((gt (gt x0.Segments k12) k39).Values) (hm.rdS0 r61) ((s_0.2 _ (gt_mem (show k12 < x0.Segments.length from by omega))).2 _ (gt_mem (show k39 < ((gt x0.Segments k12)).length from by omega)))) (fun z63 => ?_)
   refine WM_form (n := 0) rfl ?_
   rintro A64 c65 rfl m66
   refine qn (pk [1, 3, 4, 5, 6]) ?_
   let K6 : List Value := [.int .i64 ((gt (gt x0.Segments k12) k39).Id), .slice A64 ((gt (gt x0.Segments k12) k39).Values).length c65, .int .i64 ((gt (gt x0.Segments k12) k39).Born), .int .i64 ((gt (gt x0.Segments k12) k39).Died)]
   refine qt 14 10 2047 rfl (fun W hm => rv_build (cs := K6) rfl (by kernel_rfl)) ?_
   refine qo 14 11 4095 rfl ?_
   refine WM_build (cs := K6) underlying122 type142 rfl (by decide) (by decide) rfl (by kernel_rfl) (Wd_none rfl) (by decide) (fun p68 => ?_)
   refine qn (pk [2, 4, 5, 6, 7]) ?_
   refine qo 14 12 8191 rfl ?_
   refine ap1 tyVersion 142 (.slice A41 d40.length c42) d40 (⟨(gt (gt x0.Segments k12) k39).Id, ((gt (gt x0.Segments k12) k39).Values), (gt (gt x0.Segments k12) k39).Born, (gt (gt x0.Segments k12) k39).Died⟩ : DVersion) [iOwn (tSl tInt 3) [.slice A64 ((gt (gt x0.Segments k12) k39).Values).length c65] ((gt (gt x0.Segments k12) k39).Values)] [iBox p62 142 K5, I8, iBox p10 39 [.slice none 0 0, .int .i64 0], I10, I9] K6 (pk [0, 3, 1, 2, 4, 5, 6, 7]) (fun _ _ hs => Els.single (tyVersion_join (x := (⟨(gt (gt x0.Segments k12) k39).Id, ((gt (gt x0.Segments k12) k39).Values), (gt (gt x0.Segments k12) k39).Born, (gt (gt x0.Segments k12) k39).Died⟩ : DVersion)) hs)) underlying122 type142 (show (d40.length + 1) * 48 ≤ 140737488355328 from by omega) (fun v69 => ?_)
   refine WM_form (n := 0) rfl ?_
   rintro A70 c71 rfl m72
   refine qn (pk [1, 2, 3, 4, 5]) ?_
   refine qt 14 13 16383 rfl (fun W hm => rv_assign rfl) ?_
   refine QB_done (by kernel_rfl) ?_
   refine QM_block_normal (QM_then (CM_region ?_))
   refine wv (vadN k39 1 (by omega)) ?_
   refine wm (WM_nil ?_)
   have hn74 := rng_next (R := DStore) (body := F2) (k := k39) (s := d40) (s' := (d40 ++ [(⟨(gt (gt x0.Segments k12) k39).Id, ((gt (gt x0.Segments k12) k39).Values), (gt (gt x0.Segments k12) k39).Born, (gt (gt x0.Segments k12) k39).Died⟩ : DVersion)])) (show k39 < ((gt x0.Segments k12)).length from by omega) (show impl_copyStore_b2 x0 k12 k39 d40 = Sum.inr (d40 ++ [(⟨(gt (gt x0.Segments k12) k39).Id, ((gt (gt x0.Segments k12) k39).Values), (gt (gt x0.Segments k12) k39).Born, (gt (gt x0.Segments k12) k39).Died⟩ : DVersion)]) from by unfold impl_copyStore_b2; exact rfl) hF44
   exact QM_round (k39 + 1, (d40 ++ [(⟨(gt (gt x0.Segments k12) k39).Id, ((gt (gt x0.Segments k12) k39).Values), (gt (gt x0.Segments k12) k39).Born, (gt (gt x0.Segments k12) k39).Died⟩ : DVersion)]), (A70, c71)) sl9 (pk [0, 2, 3, 4, 5]) ⟨(by omega), hn74, (show (d40 ++ [(⟨(gt (gt x0.Segments k12) k39).Id, ((gt (gt x0.Segments k12) k39).Values), (gt (gt x0.Segments k12) k39).Born, (gt (gt x0.Segments k12) k39).Died⟩ : DVersion)]).length ≤ 0 + (k39 + 1) from by first | omega | (simp only [List.length_append, List.length_cons, List.length_nil] at *; omega))⟩ (show ((gt x0.Segments k12)).length - (k39 + 1) < ((gt x0.Segments k12)).length - k39 from by omega)
  ·have g48 : (decide (((k39 : Nat) : Int) < ((((gt x0.Segments k12)).length : Nat) : Int))) = false := decide_eq_false (by omega)
   refine CM_condF rfl g48 ?_
   refine CM_exit (QM_then_exit (QM_then_exit ?_))
   have hE75 : R4 (((gt x0.Segments k12)).length - 0) 0 [] = Sum.inr d40 := rng_end hl47 hF44
   refine QM_block_hit (QM_then (CM_region ?_))
   refine wv (vf underlying39 rfl type37) ?_
   refine wv (vl 1 0 underlying37) ?_
   refine wm ?_
   refine WM_build (cs := [.slice A41 d40.length c42]) underlying37 type122 rfl (by decide) (by decide) rfl (by kernel_rfl) (Wd_none rfl) (by decide) (fun p76 => ?_)
   refine ap1 (tSl tyVersion 142) 122 (.slice A16 d15.length c17) d15 d40 [I11] [I8, iBox p10 39 [.slice none 0 0, .int .i64 0], I10] [.slice A41 d40.length c42] (pk [0, 5, 1, 2, 3, 4]) (fun _ _ hs => Els.single (Sep.one hs)) underlying37 type122 (show (d15.length + 1) * 24 ≤ 140737488355328 from by omega) (fun v77 => ?_)
   refine WM_form (n := 0) rfl ?_
   rintro A78 c79 rfl m80
   refine wv (vf underlying39 rfl type37) ?_
   refine sb 0 [.slice A78 (d15 ++ [d40]).length c79, .int .i64 x0.Now] [iOwn (tSl (tSl tyVersion 142) 122) [.slice A78 (d15 ++ [d40]).length c79] (d15 ++ [d40]), iBox p10 39 [.slice none 0 0, .int .i64 0], I10] (pk [1, 0, 2, 3]) type37 ?_
   refine WM_nil (QM_block_normal (QM_then (CM_region ?_)))
   refine wv (vadN k12 1 (by omega)) ?_
   refine wm (WM_nil ?_)
   have hn82 := rng_next (R := DStore) (body := F1) (k := k12) (s := d15) (s' := (d15 ++ [d40])) (show k12 < x0.Segments.length from by omega) (show impl_copyStore_b1 x0 k12 d15 = Sum.inr (d15 ++ [d40]) from by unfold impl_copyStore_b1; exact fin_inr hE75 (rfl)) hF19
   exact QM_round (k12 + 1, (d15 ++ [d40]), (A78, c79)) sl5 (pk [0, 2, 3, 1]) ⟨(by omega), hn82, (show (d15 ++ [d40]).length ≤ 0 + (k12 + 1) from by first | omega | (simp only [List.length_append, List.length_cons, List.length_nil] at *; omega))⟩ (rl (by omega))
 ·have g23 : (decide (((k12 : Nat) : Int) < ((x0.Segments.length : Nat) : Int))) = false := decide_eq_false (by omega)
  refine CM_condF rfl g23 ?_
  refine CM_exit (QM_then_exit (QM_then_exit ?_))
  have hE83 : R3 (x0.Segments.length - 0) 0 [] = Sum.inr d15 := rng_end hl22 hF19
  refine QM_block_hit (QM_then (sr ?_))
  refine wv (fun W hm => rv_loadN (cs := [.slice A16 d15.length c17, .int .i64 x0.Now]) underlying39 type39 rfl rfl (hm.boxCells (n := 0) rfl)) ?_
  refine sb 0 [.slice A16 d15.length c17, .int .i64 x0.Now] [I8, I7, I9] (pk [1, 0, 2, 3]) type39 ?_
  refine nt' (CM_ret ?_)
  refine QM_r1 rfl (RR_cell (n := 0) rfl rfl underlying39 type39 rfl) (fun W hm => ⟨[.slice A16 d15.length c17, .int .i64 x0.Now], ?_, ?_⟩)
  ·first | rw [(show impl_copyStore_m x0 = (⟨d15, x0.Now⟩ : DStore) from by unfold impl_copyStore_m; exact fin_inr hE83 (rfl))] | rfl
  ·rw [(show impl_copyStore_m x0 = (⟨d15, x0.Now⟩ : DStore) from by unfold impl_copyStore_m; exact fin_inr hE83 (rfl))]; exact Mem.join (is := [I9]) (js := []) (fun _ _ hs => tyStore_join (x := (⟨d15, x0.Now⟩ : DStore)) hs) (hm.pick [3] (by decide))
theorem impl_copyStore_eq (x0 : DStore) : impl_copyStore_m x0 = x0 := by
 unfold impl_copyStore_m; rw [rng_app (xs := x0.Segments) (b := fun k s => impl_copyStore_b1 x0 k s) (fun j s => by unfold impl_copyStore_b1; rw [rng_app (xs := gt x0.Segments j) (b := fun k s => impl_copyStore_b2 x0 j k s) (fun _ _ => rfl)]; rfl)]; rfl
theorem impl_copyStore_c2 (w : World) (z0 : List Value) (x0 : DStore) (r_0 : tyStore.rd w w.heap.size z0 x0) (s_0 : smStore 68719476736 x0) :
  Calls Tryz.prog 74 #[.agg z0.toArray] w fun e w' => ∃ v : List Value, e = .returned (.agg v.toArray) ∧ Mem w.heap.size w [iOwn tyStore v x0] w' := by
 have h := impl_copyStore_c w z0 x0 r_0 s_0
 rw [impl_copyStore_eq] at h
 exact h

def impl_copyQuery_m (x0 : DQuery) : DQuery :=
 x0
theorem cb54 : Cb Tryz.prog 54 := ⟨f54, _, func54, rfl, by decide⟩
theorem impl_copyQuery_c (w : World) (z0 : List Value) (x0 : DQuery) (r_0 : tyQuery.rd w w.heap.size z0 x0) (s_0 : smQuery 68719476736 x0) :
  Calls Tryz.prog 54 #[.agg z0.toArray] w fun e w' => ∃ v : List Value, e = .returned (.agg v.toArray) ∧ Mem w.heap.size w [iOwn tyQuery v (impl_copyQuery_m x0)] w' := by
 obtain ⟨v1, v3, rfl, r2, r4⟩ := tyQuery_rd r_0
 have r9 := r2
 obtain ⟨m5, A6, c7, rfl, q8⟩ := r2
 have r14 := r4
 obtain ⟨m10, A11, c12, rfl, q13⟩ := r4
 have l15 : x0.Conds.length ≤ 68719476736 := s_0.1
 have l16 : x0.Out.length ≤ 68719476736 := s_0.2
 refine ce1 (L := [(0, .agg #[.int .i64 x0.Id, .int .i64 x0.Tenant, .slice A6 x0.Conds.length c7, .slice A11 x0.Out.length c12])]) (N := 13) func54 ?_
 refine sr ?_
 refine WM_box rfl (Wd_none rfl) (by decide) (fun p17 => ?_)
 refine WM_alloc type48 rfl (Wd_none rfl) (by decide) (fun p18 => ?_)
 refine nt' (sr ?_)
 refine WM_build0 (E := tyCond) underlying46 type102 (Wd_none rfl) (by decide) (fun p19 => ?_)
 refine wv (vf underlying48 rfl type46) ?_
 refine wv (vl 2 2 underlying46) ?_
 let K1 : List Value := [.int .i64 0, .int .i64 0, .slice none 0 0, .slice none 0 0]
 refine apR tyCond tyCond 102 (.slice (some ⟨p19, 0, none⟩) 0 0) [] x0.Conds [iBox p18 48 K1, iBox p17 48 [.int .i64 x0.Id, .int .i64 x0.Tenant, .slice A6 x0.Conds.length c7, .slice A11 x0.Out.length c12]] (fun W hm => hm) (fun W hm => src_flat (flat_map (flat_pair flat_int (flat_pair flat_int flat_int))) (hm.rdS0 r9)) underlying46 type102 (show (0 + x0.Conds.length) * 24 ≤ 140737488355328 from by omega) (fun v21 => ?_)
 refine WM_form (n := 0) rfl ?_
 rintro A22 c23 rfl m24
 refine wv (vf underlying48 rfl type46) ?_
 let I3 : It := iOwn (tSl tyCond 102) [.slice A22 x0.Conds.length c23] x0.Conds
 refine sb 2 [.int .i64 x0.Id, .int .i64 x0.Tenant, .slice A22 x0.Conds.length c23, .slice A11 x0.Out.length c12] [I3, iBox p18 48 K1] (pk [2, 0, 1]) type46 ?_
 refine nt' (sr ?_)
 refine wv (vf underlying48 rfl type25) ?_
 refine wv (vl 0 3 underlying25) ?_
 refine wcl (tSl tInt 3) x0.Out (cl_fn cb75 rfl) (fun W hm => impl_copyInts_c2 W _ x0.Out (hm.rdS0 r14) s_0.2) (fun z26 => ?_)
 refine WM_form (n := 0) rfl ?_
 rintro A27 c28 rfl m29
 refine wv (vf underlying48 rfl type25) ?_
 let K2 : List Value := [.int .i64 x0.Id, .int .i64 x0.Tenant, .slice A22 x0.Conds.length c23, .slice A27 x0.Out.length c28]
 let I4 : It := iOwn (tSl tInt 3) [.slice A27 x0.Out.length c28] x0.Out
 refine sb 3 K2 [I4, I3, iBox p18 48 K1] (pk [1, 0, 2, 3]) type25 ?_
 refine nt' (sr ?_)
 refine wv (fun W hm => rv_loadN (cs := K2) underlying48 type48 rfl rfl (hm.boxCells (n := 0) rfl)) ?_
 refine sb 0 K2 [iBox p17 48 K2, I4, I3] (pk [3, 0, 1, 2]) type48 ?_
 refine nt' (CM_ret ?_)
 refine QM_r1 rfl (RR_cell (n := 0) rfl rfl underlying48 type48 rfl) (fun W hm => ⟨K2, ?_, ?_⟩)
 ·first | rw [(show impl_copyQuery_m x0 = x0 from by unfold impl_copyQuery_m; exact rfl)] | rfl
 ·rw [(show impl_copyQuery_m x0 = x0 from by unfold impl_copyQuery_m; exact rfl)]; exact Mem.join (is := [I3, I4]) (js := []) (fun _ _ hs => tyQuery_join (x := x0) hs) (hm.pick [3, 2] (by decide))
theorem impl_copyQuery_eq (x0 : DQuery) : impl_copyQuery_m x0 = x0 := by
 rfl
theorem impl_copyQuery_c2 (w : World) (z0 : List Value) (x0 : DQuery) (r_0 : tyQuery.rd w w.heap.size z0 x0) (s_0 : smQuery 68719476736 x0) :
  Calls Tryz.prog 54 #[.agg z0.toArray] w fun e w' => ∃ v : List Value, e = .returned (.agg v.toArray) ∧ Mem w.heap.size w [iOwn tyQuery v x0] w' := by
 have h := impl_copyQuery_c w z0 x0 r_0 s_0
 rw [impl_copyQuery_eq] at h
 exact h

def impl_copyRow_m (x0 : DRow) : DRow :=
 x0
theorem cb111 : Cb Tryz.prog 111 := ⟨f111, _, func111, rfl, by decide⟩
theorem impl_copyRow_c (w : World) (z0 : List Value) (x0 : DRow) (r_0 : tyRow.rd w w.heap.size z0 x0) (s_0 : smRow 68719476736 x0) :
  Calls Tryz.prog 111 #[.agg z0.toArray] w fun e w' => ∃ v : List Value, e = .returned (.agg v.toArray) ∧ Mem w.heap.size w [iOwn tyRow v (impl_copyRow_m x0)] w' := by
 obtain ⟨v1, rfl, r2⟩ := tyRow_rd r_0
 have r7 := r2
 obtain ⟨m3, A4, c5, rfl, q6⟩ := r2
 have l8 : x0.Values.length ≤ 68719476736 := s_0
 refine ce1 (L := [(0, .agg #[.int .i64 x0.Id, .slice A4 x0.Values.length c5])]) (N := 9) func111 ?_
 refine sr ?_
 refine WM_box rfl (Wd_none rfl) (by decide) (fun p9 => ?_)
 refine WM_alloc type138 rfl (Wd_none rfl) (by decide) (fun p10 => ?_)
 refine nt' (CM_seq ?_)
 let I1 : It := iBox p9 138 [.int .i64 x0.Id, .slice A4 x0.Values.length c5]
 refine rb 7 (s := [I1]) (pk [1]) ?_
 refine qt 7 0 1 rfl (vf underlying138 rfl type3) ?_
 refine qt 7 1 3 rfl (vl 0 0 underlying3) ?_
 refine qt 7 2 7 rfl (vf underlying138 rfl type25) ?_
 refine qt 7 3 15 rfl (vl 0 1 underlying25) ?_
 refine qo 7 4 31 rfl ?_
 refine wcl (tSl tInt 3) x0.Values (cl_fn cb75 rfl) (fun W hm => impl_copyInts_c2 W _ x0.Values (hm.rdS0 r7) s_0) (fun z11 => ?_)
 refine WM_form (n := 0) rfl ?_
 rintro A12 c13 rfl m14
 refine qn (pk [2]) ?_
 refine qt 7 5 63 rfl (fun W hm => rv_build (cs := [.int .i64 x0.Id, .slice A12 x0.Values.length c13]) rfl (by kernel_rfl)) ?_
 refine qo 7 6 127 rfl ?_
 let I2 : It := iOwn (tSl tInt 3) [.slice A12 x0.Values.length c13] x0.Values
 refine sb 0 [.int .i64 x0.Id, .slice A12 x0.Values.length c13] [I2, I1] (pk [1, 0, 2]) type138 ?_
 refine qn (pk [2]) ?_
 refine QB_done (by kernel_rfl) ?_
 refine QM_then (CM_ret ?_)
 refine QM_r1 rfl (RR_cell (n := 0) rfl rfl underlying138 type138 rfl) (fun W hm => ⟨[.int .i64 x0.Id, .slice A12 x0.Values.length c13], ?_, ?_⟩)
 ·first | rw [(show impl_copyRow_m x0 = x0 from by unfold impl_copyRow_m; exact rfl)] | rfl
 ·rw [(show impl_copyRow_m x0 = x0 from by unfold impl_copyRow_m; exact rfl)]; exact Mem.join (is := [I2]) (js := []) (fun _ _ hs => tyRow_join (x := x0) hs) (hm.pick [1] (by decide))
theorem impl_copyRow_eq (x0 : DRow) : impl_copyRow_m x0 = x0 := by
 rfl
theorem impl_copyRow_c2 (w : World) (z0 : List Value) (x0 : DRow) (r_0 : tyRow.rd w w.heap.size z0 x0) (s_0 : smRow 68719476736 x0) :
  Calls Tryz.prog 111 #[.agg z0.toArray] w fun e w' => ∃ v : List Value, e = .returned (.agg v.toArray) ∧ Mem w.heap.size w [iOwn tyRow v x0] w' := by
 have h := impl_copyRow_c w z0 x0 r_0 s_0
 rw [impl_copyRow_eq] at h
 exact h

def impl_copyRows_b1 (x0 : (List DRow)) (k9 : Nat) (d10 : (List DRow)) : (List DRow) ⊕ ((List DRow)) :=
 Sum.inr (d10 ++ [(gt x0 k9)])
def impl_copyRows_m (x0 : (List DRow)) : (List DRow) :=
 Sum.elim id (fun (s : (List DRow)) => s) (rng (R := (List DRow)) (fun k (s : (List DRow)) => impl_copyRows_b1 x0 k s) (x0.length - 0) 0 [])
theorem cb101 : Cb Tryz.prog 101 := ⟨f101, _, func101, rfl, by decide⟩
theorem impl_copyRows_c (w : World) (z0 : Value) (x0 : (List DRow)) (r_0 : rdS tyRow w w.heap.size z0 x0) (s_0 : (x0.length ≤ 68719476736 ∧ ∀ y ∈ x0, smRow 68719476736 y)) :
  Calls Tryz.prog 101 #[z0] w fun e w' => ∃ v : Value, e = .returned (v) ∧ Mem w.heap.size w [iOwn (tSl tyRow 138) [v] (impl_copyRows_m x0)] w' := by
 have r5 := r_0
 obtain ⟨m1, A2, c3, rfl, q4⟩ := r_0
 have l6 : x0.length ≤ 68719476736 := s_0.1
 refine ce1 (L := [(0, .slice A2 x0.length c3)]) (N := 20) func101 ?_
 refine sr (wa (nt' (sr ?_)))
 refine WM_build0 (E := tyRow) underlying91 type138 (Wd_none rfl) (by decide) (fun p7 => ?_)
 refine wa (nt' (CM_seq (sr (wm ?_))))
 refine wv (vlen underlying91) ?_
 refine wm (nt' (CM_block ?_))
 let F1 := fun k (s : (List DRow)) => impl_copyRows_b1 x0 k s
 let R2 := rng (R := (List DRow)) F1
 refine CM_loop (σ := Nat × ((List DRow)) × (Option Addr × Nat)) (fun s => [(3, .slice s.2.2.1 s.2.1.length s.2.2.2), (7, .slice A2 x0.length c3), (8, .int .i64 ((x0.length : Nat) : Int)), (9, .int .i64 ((s.1 : Nat) : Int))]) (fun s => [iOwn (tSl tyRow 138) [.slice s.2.2.1 s.2.1.length s.2.2.2] s.2.1]) (fun s => s.1 ≤ x0.length ∧ R2 (x0.length - s.1) s.1 s.2.1 = R2 (x0.length - 0) 0 [] ∧ s.2.1.length ≤ 0 + s.1) (fun s => x0.length - s.1) (0, [], ((some ⟨p7, 0, none⟩), 0)) sl4 (fun W hm => hm) ⟨(by omega), rfl, Nat.le_refl _⟩ ?_
 rintro ⟨k9, d10, ⟨A11, c12⟩⟩ H15
 obtain ⟨hk13, hF14, hi16⟩ : k9 ≤ x0.length ∧ R2 (x0.length - k9) k9 d10 = R2 (x0.length - 0) 0 [] ∧ d10.length ≤ 0 + k9 := H15
 let I5 : It := iOwn (tSl tyRow 138) [.slice A11 d10.length c12] d10
 show CM Tryz.prog 20 _ _ _ _ [(3, .slice A11 d10.length c12), (7, .slice A2 x0.length c3), (8, .int .i64 ((x0.length : Nat) : Int)), (9, .int .i64 ((k9 : Nat) : Int))] [I5]
 refine sr ?_
 refine wv vlss ?_
 refine nt' (CM_seq ?_)
 by_cases hl17 : k9 < x0.length
 ·have g18 : (decide (((k9 : Nat) : Int) < ((x0.length : Nat) : Int))) = true := decide_eq_true (by omega)
  refine CM_condT rfl g18 ?_
  refine CM_skip (QM_then (CM_seq (CM_block (sr ?_))))
  obtain ⟨a19, rfl, hb20, he21⟩ := q4 (by omega)
  refine wv (vix 2 k9 underlying91 type138) ?_
  obtain ⟨_, e25, hc22⟩ := he21 k9 _ (gt_some (show k9 < x0.length from by omega))
  obtain ⟨v23, rfl, r24⟩ := tyRow_rd e25
  have l26 : ((gt x0 k9).Values).length ≤ 68719476736 := (s_0.2 _ (gt_mem (show k9 < x0.length from by omega)))
  have r31 := r24
  obtain ⟨m27, A28, c29, rfl, q30⟩ := r24
  let K3 : List Value := [.int .i64 ((gt x0 k9).Id), .slice A28 ((gt x0 k9).Values).length c29]
  refine wv (fun W hm => rv_loadN (cs := K3) underlying138 type138 rfl rfl (hm.elCells (show (a19.add (k9 * 2)).block < w.heap.size from by rw [add_block]; exact hb20.1) hc22)) ?_
  refine WM_alloc type138 rfl (Wd_none rfl) (by decide) (fun p32 => ?_)
  refine sb 0 K3 [I5] (fun W hm => hm) type138 ?_
  refine nt' (CM_region (wm ?_))
  refine wv (fun W hm => rv_loadN (cs := K3) underlying138 type138 rfl rfl (hm.boxCells (n := 0) rfl)) ?_
  refine wcs tyRow (gt x0 k9) (cl_fn cb111 rfl) (fun W hm => impl_copyRow_c2 W _ (gt x0 k9) (tyRow_mk (x := (gt x0 k9)) (hm.rdS0 r31)) (s_0.2 _ (gt_mem (show k9 < x0.length from by omega)))) (fun z33 => ?_)
  refine tyRow_sp ?_
  rintro v34 rfl
  refine WM_form (n := 0) rfl ?_
  rintro A35 c36 rfl m37
  let K4 : List Value := [.int .i64 ((gt x0 k9).Id), .slice A35 ((gt x0 k9).Values).length c36]
  refine WM_build (cs := K4) underlying91 type138 rfl (by decide) (by decide) rfl (by kernel_rfl) (Wd_none rfl) (by decide) (fun p39 => ?_)
  refine ap1 tyRow 138 (.slice A11 d10.length c12) d10 (gt x0 k9) [iOwn (tSl tInt 3) [.slice A35 ((gt x0 k9).Values).length c36] ((gt x0 k9).Values)] [iBox p32 138 K3] K4 (pk [0, 3, 1, 2]) (fun _ _ hs => Els.single (tyRow_join (x := (gt x0 k9)) hs)) underlying91 type138 (show (d10.length + 1) * 32 ≤ 140737488355328 from by omega) (fun v40 => ?_)
  refine WM_form (n := 0) rfl ?_
  rintro A41 c42 rfl m43
  refine wa (WM_nil (QM_block_normal (QM_then (CM_region ?_))))
  refine wv (vadN k9 1 (by omega)) ?_
  refine wm (WM_nil ?_)
  have hn45 := rng_next (R := (List DRow)) (body := F1) (k := k9) (s := d10) (s' := (d10 ++ [(gt x0 k9)])) (show k9 < x0.length from by omega) (show impl_copyRows_b1 x0 k9 d10 = Sum.inr (d10 ++ [(gt x0 k9)]) from by unfold impl_copyRows_b1; exact rfl) hF14
  exact QM_round (k9 + 1, (d10 ++ [(gt x0 k9)]), (A41, c42)) sl4 (pk [0]) ⟨(by omega), hn45, (show (d10 ++ [(gt x0 k9)]).length ≤ 0 + (k9 + 1) from by first | omega | (simp only [List.length_append, List.length_cons, List.length_nil] at *; omega))⟩ (rl (by omega))
 ·have g18 : (decide (((k9 : Nat) : Int) < ((x0.length : Nat) : Int))) = false := decide_eq_false (by omega)
  refine CM_condF rfl g18 ?_
  refine CM_exit (QM_then_exit (QM_then_exit ?_))
  have hE46 : R2 (x0.length - 0) 0 [] = Sum.inr d10 := rng_end hl17 hF14
  refine QM_block_hit (QM_then (sr (wm (wa (nt' (CM_ret ?_))))))
  refine QM_r1 rfl (RR_tmp rfl) (fun W hm => ⟨.slice A11 d10.length c12, ?_, ?_⟩)
  ·first | rw [(show impl_copyRows_m x0 = d10 from by unfold impl_copyRows_m; exact fin_inr hE46 (rfl))] | rfl
  ·rw [(show impl_copyRows_m x0 = d10 from by unfold impl_copyRows_m; exact fin_inr hE46 (rfl))]; exact hm
theorem impl_copyRows_eq (x0 : (List DRow)) : impl_copyRows_m x0 = x0 := by
 unfold impl_copyRows_m; rw [rng_app (xs := x0) (b := fun k s => impl_copyRows_b1 x0 k s) (fun _ _ => rfl)]; rfl
theorem impl_copyRows_c2 (w : World) (z0 : Value) (x0 : (List DRow)) (r_0 : rdS tyRow w w.heap.size z0 x0) (s_0 : (x0.length ≤ 68719476736 ∧ ∀ y ∈ x0, smRow 68719476736 y)) :
  Calls Tryz.prog 101 #[z0] w fun e w' => ∃ v : Value, e = .returned (v) ∧ Mem w.heap.size w [iOwn (tSl tyRow 138) [v] x0] w' := by
 have h := impl_copyRows_c w z0 x0 r_0 s_0
 rw [impl_copyRows_eq] at h
 exact h

def impl_copyActive_m (x0 : DActive) : DActive :=
 x0
theorem cb76 : Cb Tryz.prog 76 := ⟨f76, _, func76, rfl, by decide⟩
theorem impl_copyActive_c (w : World) (z0 : List Value) (x0 : DActive) (r_0 : tyActive.rd w w.heap.size z0 x0) (s_0 : smActive 68719476736 x0) :
  Calls Tryz.prog 76 #[.agg z0.toArray] w fun e w' => ∃ v : List Value, e = .returned (.agg v.toArray) ∧ Mem w.heap.size w [iOwn tyActive v (impl_copyActive_m x0)] w' := by
 obtain ⟨v1, v3, v5, v7, rfl, r2, r4, r6, r8⟩ := tyActive_rd r_0
 have r13 := r2
 obtain ⟨m9, A10, c11, rfl, q12⟩ := r2
 have r18 := r4
 obtain ⟨m14, A15, c16, rfl, q17⟩ := r4
 have r23 := r6
 obtain ⟨m19, A20, c21, rfl, q22⟩ := r6
 have r28 := r8
 obtain ⟨m24, A25, c26, rfl, q27⟩ := r8
 have l29 : x0.Query.Conds.length ≤ 68719476736 := s_0.1.1
 have l30 : x0.Query.Out.length ≤ 68719476736 := s_0.1.2
 have l31 : x0.Todo.length ≤ 68719476736 := s_0.2.1
 have l32 : x0.Rows.length ≤ 68719476736 := s_0.2.2.1
 refine ce1 (L := [(0, .agg #[.int .i64 x0.Query.Id, .int .i64 x0.Query.Tenant, .slice A10 x0.Query.Conds.length c11, .slice A15 x0.Query.Out.length c16, .int .i64 x0.Time, .slice A20 x0.Todo.length c21, .int .i64 x0.Age, .int .i64 x0.Sent, .int .i64 x0.Cap, .slice A25 x0.Rows.length c26])]) (N := 16) func76 ?_
 refine sr ?_
 refine WM_box rfl (Wd_none rfl) (by decide) (fun p33 => ?_)
 refine WM_alloc type93 rfl (Wd_none rfl) (by decide) (fun p34 => ?_)
 refine nt' (CM_seq ?_)
 let K1 : List Value := [.int .i64 0, .int .i64 0, .slice none 0 0, .slice none 0 0, .int .i64 0, .slice none 0 0, .int .i64 0, .int .i64 0, .int .i64 0, .slice none 0 0]
 refine CM_cut (σ := Option Addr × Nat × Option Addr × Nat × Option Addr × Nat × Option Addr × Nat) (fun s => [(1, .pointer (some (⟨p33, 0, none⟩ : Addr))), (2, .pointer (some (⟨p34, 0, none⟩ : Addr)))]) (fun s => [iBox p33 93 [.int .i64 x0.Query.Id, .int .i64 x0.Query.Tenant, .slice s.1 x0.Query.Conds.length s.2.1, .slice s.2.2.1 x0.Query.Out.length s.2.2.2.1, .int .i64 x0.Time, .slice s.2.2.2.2.1 x0.Todo.length s.2.2.2.2.2.1, .int .i64 x0.Age, .int .i64 x0.Sent, .int .i64 x0.Cap, .slice s.2.2.2.2.2.2.1 x0.Rows.length s.2.2.2.2.2.2.2], iOwn (tSl tyRow 138) [.slice s.2.2.2.2.2.2.1 x0.Rows.length s.2.2.2.2.2.2.2] x0.Rows, iOwn (tSl tInt 3) [.slice s.2.2.2.2.1 x0.Todo.length s.2.2.2.2.2.1] x0.Todo, iOwn (tSl tyCond 102) [.slice s.1 x0.Query.Conds.length s.2.1] x0.Query.Conds, iOwn (tSl tInt 3) [.slice s.2.2.1 x0.Query.Out.length s.2.2.2.1] x0.Query.Out, iBox p34 93 K1]) (fun _ => True) ?_ ?_
 ·
  refine rb 15 (s := [iBox p34 93 K1]) (pk [0]) ?_
  refine qt 15 0 1 rfl (vf underlying93 rfl type48) ?_
  refine qt 15 3 9 rfl (vf underlying93 rfl type25) ?_
  refine qt 15 6 73 rfl (vf underlying93 rfl type91) ?_
  refine qa [1, 4, 7] ?_
  refine qc 15 75 rfl ?_ ?_
  ·
   refine wv (fun W hm => rv_loadN (cs := [.int .i64 x0.Query.Id, .int .i64 x0.Query.Tenant, .slice A10 x0.Query.Conds.length c11, .slice A15 x0.Query.Out.length c16]) underlying48 type48 rfl rfl (hm.boxPart (n := 1) rfl rfl)) ?_
   refine qn (pk [0]) ?_
   refine qa [2, 4, 7] ?_
   refine qc 15 79 rfl ?_ ?_
   ·
    refine wcs tyQuery x0.Query (cl_fn cb54 rfl) (fun W hm => impl_copyQuery_c2 W _ x0.Query (tyQuery_mk (x := x0.Query) (hm.rdS0 r13) (hm.rdS0 r18)) s_0.1) (fun z56 => ?_)
    refine tyQuery_sp ?_
    rintro ⟨v57, v58⟩ rfl
    refine WM_form (n := 0) rfl ?_
    rintro A59 c60 rfl m61
    refine WM_form (n := 1) rfl ?_
    rintro A63 c64 rfl m65
    refine qn (pk [2]) ?_
    let I3 : It := iOwn (tSl tyCond 102) [.slice A59 x0.Query.Conds.length c60] x0.Query.Conds
    let I4 : It := iOwn (tSl tInt 3) [.slice A63 x0.Query.Out.length c64] x0.Query.Out
    refine QB_strong (js := [I3, I4, iBox p34 93 K1]) (pk [2]) (pk [0, 1, 2]) ?_
    refine qa [4, 7] ?_
    refine qc 15 95 rfl ?_ ?_
    ·
     refine wv (vl 3 5 underlying25) ?_
     refine qn (pk [0, 1, 2]) ?_
     refine qa [5, 7] ?_
     refine qc 15 127 rfl ?_ ?_
     ·
      refine wcl (tSl tInt 3) x0.Todo (cl_fn cb75 rfl) (fun W hm => impl_copyInts_c2 W _ x0.Todo (hm.rdS0 r23) s_0.2.1) (fun z67 => ?_)
      refine WM_form (n := 0) rfl ?_
      rintro A68 c69 rfl m70
      refine qn (pk [1, 2, 3]) ?_
      refine qo 15 7 255 rfl ?_
      refine wv (vl 4 9 underlying91) ?_
      refine qn (pk [1, 2, 3]) ?_
      refine qt 15 9 767 rfl (vf underlying93 rfl type48) ?_
      refine qo 15 8 1023 rfl ?_
      refine wcl (tSl tyRow 138) x0.Rows (cl_fn cb101 rfl) (fun W hm => impl_copyRows_c2 W _ x0.Rows (hm.rdS0 r28) s_0.2.2) (fun z72 => ?_)
      refine WM_form (n := 0) rfl ?_
      rintro A73 c74 rfl m75
      refine qn (pk [2, 3, 4]) ?_
      refine qo 15 10 2047 rfl ?_
      let I5 : It := iOwn (tSl tyRow 138) [.slice A73 x0.Rows.length c74] x0.Rows
      let I6 : It := iOwn (tSl tInt 3) [.slice A68 x0.Todo.length c69] x0.Todo
      refine sb 0 [.int .i64 x0.Query.Id, .int .i64 x0.Query.Tenant, .slice A59 x0.Query.Conds.length c60, .slice A63 x0.Query.Out.length c64, .int .i64 x0.Time, .slice A20 x0.Todo.length c21, .int .i64 x0.Age, .int .i64 x0.Sent, .int .i64 x0.Cap, .slice A25 x0.Rows.length c26] [I5, I6, I3, I4, iBox p34 93 K1] (pk [5, 0, 1, 2, 3, 4]) type48 ?_
      refine qn (pk [3, 4, 5]) ?_
      refine qt 15 11 4095 rfl (vf underlying93 rfl type25) ?_
      refine qo 15 12 8191 rfl ?_
      refine sb 5 [.int .i64 x0.Query.Id, .int .i64 x0.Query.Tenant, .slice A59 x0.Query.Conds.length c60, .slice A63 x0.Query.Out.length c64, .int .i64 x0.Time, .slice A68 x0.Todo.length c69, .int .i64 x0.Age, .int .i64 x0.Sent, .int .i64 x0.Cap, .slice A25 x0.Rows.length c26] [I5, I6, I3, I4, iBox p34 93 K1] (fun W hm => hm) type25 ?_
      refine qn (pk [3, 4, 5]) ?_
      refine qt 15 13 16383 rfl (vf underlying93 rfl type91) ?_
      refine qo 15 14 32767 rfl ?_
      refine sb 9 [.int .i64 x0.Query.Id, .int .i64 x0.Query.Tenant, .slice A59 x0.Query.Conds.length c60, .slice A63 x0.Query.Out.length c64, .int .i64 x0.Time, .slice A68 x0.Todo.length c69, .int .i64 x0.Age, .int .i64 x0.Sent, .int .i64 x0.Cap, .slice A73 x0.Rows.length c74] [I5, I6, I3, I4, iBox p34 93 K1] (fun W hm => hm) type91 ?_
      refine qn (pk [3, 4, 5]) ?_
      refine QB_done (by kernel_rfl) ?_
      exact QM_cut_normal (A59, c60, A63, c64, A68, c69, A73, c74) sl2 (fun W hm => hm) trivial
     refine qc 15 223 rfl ?_ ?_
     ·
      refine wv (vl 3 9 underlying91) ?_
      refine qn (pk [0, 1, 2]) ?_
      refine qt 15 9 735 rfl (vf underlying93 rfl type48) ?_
      refine qo 15 5 767 rfl ?_
      refine wcl (tSl tInt 3) x0.Todo (cl_fn cb75 rfl) (fun W hm => impl_copyInts_c2 W _ x0.Todo (hm.rdS0 r23) s_0.2.1) (fun z77 => ?_)
      refine WM_form (n := 0) rfl ?_
      rintro A78 c79 rfl m80
      refine qn (pk [1, 2, 3]) ?_
      refine qo 15 8 1023 rfl ?_
      refine wcl (tSl tyRow 138) x0.Rows (cl_fn cb101 rfl) (fun W hm => impl_copyRows_c2 W _ x0.Rows (hm.rdS0 r28) s_0.2.2) (fun z82 => ?_)
      refine WM_form (n := 0) rfl ?_
      rintro A83 c84 rfl m85
      refine qn (pk [2, 3, 4]) ?_
      refine qo 15 10 2047 rfl ?_
      let I7 : It := iOwn (tSl tyRow 138) [.slice A83 x0.Rows.length c84] x0.Rows
      let I8 : It := iOwn (tSl tInt 3) [.slice A78 x0.Todo.length c79] x0.Todo
      refine sb 0 [.int .i64 x0.Query.Id, .int .i64 x0.Query.Tenant, .slice A59 x0.Query.Conds.length c60, .slice A63 x0.Query.Out.length c64, .int .i64 x0.Time, .slice A20 x0.Todo.length c21, .int .i64 x0.Age, .int .i64 x0.Sent, .int .i64 x0.Cap, .slice A25 x0.Rows.length c26] [I7, I8, I3, I4, iBox p34 93 K1] (pk [5, 0, 1, 2, 3, 4]) type48 ?_
      refine qn (pk [3, 4, 5]) ?_
      refine qt 15 11 4095 rfl (vf underlying93 rfl type25) ?_
      refine qo 15 12 8191 rfl ?_
      refine sb 5 [.int .i64 x0.Query.Id, .int .i64 x0.Query.Tenant, .slice A59 x0.Query.Conds.length c60, .slice A63 x0.Query.Out.length c64, .int .i64 x0.Time, .slice A78 x0.Todo.length c79, .int .i64 x0.Age, .int .i64 x0.Sent, .int .i64 x0.Cap, .slice A25 x0.Rows.length c26] [I7, I8, I3, I4, iBox p34 93 K1] (fun W hm => hm) type25 ?_
      refine qn (pk [3, 4, 5]) ?_
      refine qt 15 13 16383 rfl (vf underlying93 rfl type91) ?_
      refine qo 15 14 32767 rfl ?_
      refine sb 9 [.int .i64 x0.Query.Id, .int .i64 x0.Query.Tenant, .slice A59 x0.Query.Conds.length c60, .slice A63 x0.Query.Out.length c64, .int .i64 x0.Time, .slice A78 x0.Todo.length c79, .int .i64 x0.Age, .int .i64 x0.Sent, .int .i64 x0.Cap, .slice A83 x0.Rows.length c84] [I7, I8, I3, I4, iBox p34 93 K1] (fun W hm => hm) type91 ?_
      refine qn (pk [3, 4, 5]) ?_
      refine QB_done (by kernel_rfl) ?_
      exact QM_cut_normal (A59, c60, A63, c64, A78, c79, A83, c84) sl2 (fun W hm => hm) trivial
     exact QBs_nil
    refine qc 15 207 rfl ?_ ?_
    ·
     refine wv (vl 3 9 underlying91) ?_
     refine qn (pk [0, 1, 2]) ?_
     refine qo 15 4 223 rfl ?_
     refine wv (vl 3 5 underlying25) ?_
     refine qn (pk [0, 1, 2]) ?_
     refine qt 15 9 735 rfl (vf underlying93 rfl type48) ?_
     refine qo 15 5 767 rfl ?_
     refine wcl (tSl tInt 3) x0.Todo (cl_fn cb75 rfl) (fun W hm => impl_copyInts_c2 W _ x0.Todo (hm.rdS0 r23) s_0.2.1) (fun z87 => ?_)
     refine WM_form (n := 0) rfl ?_
     rintro A88 c89 rfl m90
     refine qn (pk [1, 2, 3]) ?_
     refine qo 15 8 1023 rfl ?_
     refine wcl (tSl tyRow 138) x0.Rows (cl_fn cb101 rfl) (fun W hm => impl_copyRows_c2 W _ x0.Rows (hm.rdS0 r28) s_0.2.2) (fun z92 => ?_)
     refine WM_form (n := 0) rfl ?_
     rintro A93 c94 rfl m95
     refine qn (pk [2, 3, 4]) ?_
     refine qo 15 10 2047 rfl ?_
     let I9 : It := iOwn (tSl tyRow 138) [.slice A93 x0.Rows.length c94] x0.Rows
     let I10 : It := iOwn (tSl tInt 3) [.slice A88 x0.Todo.length c89] x0.Todo
     refine sb 0 [.int .i64 x0.Query.Id, .int .i64 x0.Query.Tenant, .slice A59 x0.Query.Conds.length c60, .slice A63 x0.Query.Out.length c64, .int .i64 x0.Time, .slice A20 x0.Todo.length c21, .int .i64 x0.Age, .int .i64 x0.Sent, .int .i64 x0.Cap, .slice A25 x0.Rows.length c26] [I9, I10, I3, I4, iBox p34 93 K1] (pk [5, 0, 1, 2, 3, 4]) type48 ?_
     refine qn (pk [3, 4, 5]) ?_
     refine qt 15 11 4095 rfl (vf underlying93 rfl type25) ?_
     refine qo 15 12 8191 rfl ?_
     refine sb 5 [.int .i64 x0.Query.Id, .int .i64 x0.Query.Tenant, .slice A59 x0.Query.Conds.length c60, .slice A63 x0.Query.Out.length c64, .int .i64 x0.Time, .slice A88 x0.Todo.length c89, .int .i64 x0.Age, .int .i64 x0.Sent, .int .i64 x0.Cap, .slice A25 x0.Rows.length c26] [I9, I10, I3, I4, iBox p34 93 K1] (fun W hm => hm) type25 ?_
     refine qn (pk [3, 4, 5]) ?_
     refine qt 15 13 16383 rfl (vf underlying93 rfl type91) ?_
     refine qo 15 14 32767 rfl ?_
     refine sb 9 [.int .i64 x0.Query.Id, .int .i64 x0.Query.Tenant, .slice A59 x0.Query.Conds.length c60, .slice A63 x0.Query.Out.length c64, .int .i64 x0.Time, .slice A88 x0.Todo.length c89, .int .i64 x0.Age, .int .i64 x0.Sent, .int .i64 x0.Cap, .slice A93 x0.Rows.length c94] [I9, I10, I3, I4, iBox p34 93 K1] (fun W hm => hm) type91 ?_
     refine qn (pk [3, 4, 5]) ?_
     refine QB_done (by kernel_rfl) ?_
     exact QM_cut_normal (A59, c60, A63, c64, A88, c89, A93, c94) sl2 (fun W hm => hm) trivial
    exact QBs_nil
   refine qc 15 91 rfl ?_ ?_
   ·
    refine wv (vl 1 5 underlying25) ?_
    refine qn (pk [0]) ?_
    refine qa [2, 7] ?_
    refine qc 15 95 rfl ?_ ?_
    ·
     refine wcs tyQuery x0.Query (cl_fn cb54 rfl) (fun W hm => impl_copyQuery_c2 W _ x0.Query (tyQuery_mk (x := x0.Query) (hm.rdS0 r13) (hm.rdS0 r18)) s_0.1) (fun z97 => ?_)
     refine tyQuery_sp ?_
     rintro ⟨v98, v99⟩ rfl
     refine WM_form (n := 0) rfl ?_
     rintro A100 c101 rfl m102
     refine WM_form (n := 1) rfl ?_
     rintro A104 c105 rfl m106
     refine qn (pk [2]) ?_
     let I11 : It := iOwn (tSl tyCond 102) [.slice A100 x0.Query.Conds.length c101] x0.Query.Conds
     let I12 : It := iOwn (tSl tInt 3) [.slice A104 x0.Query.Out.length c105] x0.Query.Out
     refine QB_strong (js := [I11, I12, iBox p34 93 K1]) (pk [2]) (pk [0, 1, 2]) ?_
     refine qa [5, 7] ?_
     refine qc 15 127 rfl ?_ ?_
     ·
      refine wcl (tSl tInt 3) x0.Todo (cl_fn cb75 rfl) (fun W hm => impl_copyInts_c2 W _ x0.Todo (hm.rdS0 r23) s_0.2.1) (fun z108 => ?_)
      refine WM_form (n := 0) rfl ?_
      rintro A109 c110 rfl m111
      refine qn (pk [1, 2, 3]) ?_
      refine qo 15 7 255 rfl ?_
      refine wv (vl 4 9 underlying91) ?_
      refine qn (pk [1, 2, 3]) ?_
      refine qt 15 9 767 rfl (vf underlying93 rfl type48) ?_
      refine qo 15 8 1023 rfl ?_
      refine wcl (tSl tyRow 138) x0.Rows (cl_fn cb101 rfl) (fun W hm => impl_copyRows_c2 W _ x0.Rows (hm.rdS0 r28) s_0.2.2) (fun z113 => ?_)
      refine WM_form (n := 0) rfl ?_
      rintro A114 c115 rfl m116
      refine qn (pk [2, 3, 4]) ?_
      refine qo 15 10 2047 rfl ?_
      let I13 : It := iOwn (tSl tyRow 138) [.slice A114 x0.Rows.length c115] x0.Rows
      let I14 : It := iOwn (tSl tInt 3) [.slice A109 x0.Todo.length c110] x0.Todo
      refine sb 0 [.int .i64 x0.Query.Id, .int .i64 x0.Query.Tenant, .slice A100 x0.Query.Conds.length c101, .slice A104 x0.Query.Out.length c105, .int .i64 x0.Time, .slice A20 x0.Todo.length c21, .int .i64 x0.Age, .int .i64 x0.Sent, .int .i64 x0.Cap, .slice A25 x0.Rows.length c26] [I13, I14, I11, I12, iBox p34 93 K1] (pk [5, 0, 1, 2, 3, 4]) type48 ?_
      refine qn (pk [3, 4, 5]) ?_
      refine qt 15 11 4095 rfl (vf underlying93 rfl type25) ?_
      refine qo 15 12 8191 rfl ?_
      refine sb 5 [.int .i64 x0.Query.Id, .int .i64 x0.Query.Tenant, .slice A100 x0.Query.Conds.length c101, .slice A104 x0.Query.Out.length c105, .int .i64 x0.Time, .slice A109 x0.Todo.length c110, .int .i64 x0.Age, .int .i64 x0.Sent, .int .i64 x0.Cap, .slice A25 x0.Rows.length c26] [I13, I14, I11, I12, iBox p34 93 K1] (fun W hm => hm) type25 ?_
      refine qn (pk [3, 4, 5]) ?_
      refine qt 15 13 16383 rfl (vf underlying93 rfl type91) ?_
      refine qo 15 14 32767 rfl ?_
      refine sb 9 [.int .i64 x0.Query.Id, .int .i64 x0.Query.Tenant, .slice A100 x0.Query.Conds.length c101, .slice A104 x0.Query.Out.length c105, .int .i64 x0.Time, .slice A109 x0.Todo.length c110, .int .i64 x0.Age, .int .i64 x0.Sent, .int .i64 x0.Cap, .slice A114 x0.Rows.length c115] [I13, I14, I11, I12, iBox p34 93 K1] (fun W hm => hm) type91 ?_
      refine qn (pk [3, 4, 5]) ?_
      refine QB_done (by kernel_rfl) ?_
      exact QM_cut_normal (A100, c101, A104, c105, A109, c110, A114, c115) sl2 (fun W hm => hm) trivial
     refine qc 15 223 rfl ?_ ?_
     ·
      refine wv (vl 3 9 underlying91) ?_
      refine qn (pk [0, 1, 2]) ?_
      refine qt 15 9 735 rfl (vf underlying93 rfl type48) ?_
      refine qo 15 5 767 rfl ?_
      refine wcl (tSl tInt 3) x0.Todo (cl_fn cb75 rfl) (fun W hm => impl_copyInts_c2 W _ x0.Todo (hm.rdS0 r23) s_0.2.1) (fun z118 => ?_)
      refine WM_form (n := 0) rfl ?_
      rintro A119 c120 rfl m121
      refine qn (pk [1, 2, 3]) ?_
      refine qo 15 8 1023 rfl ?_
      refine wcl (tSl tyRow 138) x0.Rows (cl_fn cb101 rfl) (fun W hm => impl_copyRows_c2 W _ x0.Rows (hm.rdS0 r28) s_0.2.2) (fun z123 => ?_)
      refine WM_form (n := 0) rfl ?_
      rintro A124 c125 rfl m126
      refine qn (pk [2, 3, 4]) ?_
      refine qo 15 10 2047 rfl ?_
      let I15 : It := iOwn (tSl tyRow 138) [.slice A124 x0.Rows.length c125] x0.Rows
      let I16 : It := iOwn (tSl tInt 3) [.slice A119 x0.Todo.length c120] x0.Todo
      refine sb 0 [.int .i64 x0.Query.Id, .int .i64 x0.Query.Tenant, .slice A100 x0.Query.Conds.length c101, .slice A104 x0.Query.Out.length c105, .int .i64 x0.Time, .slice A20 x0.Todo.length c21, .int .i64 x0.Age, .int .i64 x0.Sent, .int .i64 x0.Cap, .slice A25 x0.Rows.length c26] [I15, I16, I11, I12, iBox p34 93 K1] (pk [5, 0, 1, 2, 3, 4]) type48 ?_
      refine qn (pk [3, 4, 5]) ?_
      refine qt 15 11 4095 rfl (vf underlying93 rfl type25) ?_
      refine qo 15 12 8191 rfl ?_
      refine sb 5 [.int .i64 x0.Query.Id, .int .i64 x0.Query.Tenant, .slice A100 x0.Query.Conds.length c101, .slice A104 x0.Query.Out.length c105, .int .i64 x0.Time, .slice A119 x0.Todo.length c120, .int .i64 x0.Age, .int .i64 x0.Sent, .int .i64 x0.Cap, .slice A25 x0.Rows.length c26] [I15, I16, I11, I12, iBox p34 93 K1] (fun W hm => hm) type25 ?_
      refine qn (pk [3, 4, 5]) ?_
      refine qt 15 13 16383 rfl (vf underlying93 rfl type91) ?_
      refine qo 15 14 32767 rfl ?_
      refine sb 9 [.int .i64 x0.Query.Id, .int .i64 x0.Query.Tenant, .slice A100 x0.Query.Conds.length c101, .slice A104 x0.Query.Out.length c105, .int .i64 x0.Time, .slice A119 x0.Todo.length c120, .int .i64 x0.Age, .int .i64 x0.Sent, .int .i64 x0.Cap, .slice A124 x0.Rows.length c125] [I15, I16, I11, I12, iBox p34 93 K1] (fun W hm => hm) type91 ?_
      refine qn (pk [3, 4, 5]) ?_
      refine QB_done (by kernel_rfl) ?_
      exact QM_cut_normal (A100, c101, A104, c105, A119, c120, A124, c125) sl2 (fun W hm => hm) trivial
     exact QBs_nil
    refine qc 15 219 rfl ?_ ?_
    ·
     refine wv (vl 1 9 underlying91) ?_
     refine qn (pk [0]) ?_
     refine qo 15 2 223 rfl ?_
     refine wcs tyQuery x0.Query (cl_fn cb54 rfl) (fun W hm => impl_copyQuery_c2 W _ x0.Query (tyQuery_mk (x := x0.Query) (hm.rdS0 r13) (hm.rdS0 r18)) s_0.1) (fun z128 => ?_)
     refine tyQuery_sp ?_
     rintro ⟨v129, v130⟩ rfl
     refine WM_form (n := 0) rfl ?_
     rintro A131 c132 rfl m133
     refine WM_form (n := 1) rfl ?_
     rintro A135 c136 rfl m137
     refine qn (pk [2]) ?_
     refine qt 15 9 735 rfl (vf underlying93 rfl type48) ?_
     refine qo 15 5 767 rfl ?_
     refine wcl (tSl tInt 3) x0.Todo (cl_fn cb75 rfl) (fun W hm => impl_copyInts_c2 W _ x0.Todo (hm.rdS0 r23) s_0.2.1) (fun z139 => ?_)
     refine WM_form (n := 0) rfl ?_
     rintro A140 c141 rfl m142
     refine qn (pk [3]) ?_
     refine qo 15 8 1023 rfl ?_
     refine wcl (tSl tyRow 138) x0.Rows (cl_fn cb101 rfl) (fun W hm => impl_copyRows_c2 W _ x0.Rows (hm.rdS0 r28) s_0.2.2) (fun z144 => ?_)
     refine WM_form (n := 0) rfl ?_
     rintro A145 c146 rfl m147
     refine qn (pk [4]) ?_
     refine qo 15 10 2047 rfl ?_
     let I17 : It := iOwn (tSl tyRow 138) [.slice A145 x0.Rows.length c146] x0.Rows
     let I18 : It := iOwn (tSl tInt 3) [.slice A140 x0.Todo.length c141] x0.Todo
     let I19 : It := iOwn (tSl tyCond 102) [.slice A131 x0.Query.Conds.length c132] x0.Query.Conds
     let I20 : It := iOwn (tSl tInt 3) [.slice A135 x0.Query.Out.length c136] x0.Query.Out
     refine sb 0 [.int .i64 x0.Query.Id, .int .i64 x0.Query.Tenant, .slice A131 x0.Query.Conds.length c132, .slice A135 x0.Query.Out.length c136, .int .i64 x0.Time, .slice A20 x0.Todo.length c21, .int .i64 x0.Age, .int .i64 x0.Sent, .int .i64 x0.Cap, .slice A25 x0.Rows.length c26] [I17, I18, I19, I20, iBox p34 93 K1] (pk [5, 0, 1, 2, 3, 4]) type48 ?_
     refine qn (pk [5]) ?_
     refine qt 15 11 4095 rfl (vf underlying93 rfl type25) ?_
     refine qo 15 12 8191 rfl ?_
     refine sb 5 [.int .i64 x0.Query.Id, .int .i64 x0.Query.Tenant, .slice A131 x0.Query.Conds.length c132, .slice A135 x0.Query.Out.length c136, .int .i64 x0.Time, .slice A140 x0.Todo.length c141, .int .i64 x0.Age, .int .i64 x0.Sent, .int .i64 x0.Cap, .slice A25 x0.Rows.length c26] [I17, I18, I19, I20, iBox p34 93 K1] (fun W hm => hm) type25 ?_
     refine qn (pk [5]) ?_
     refine qt 15 13 16383 rfl (vf underlying93 rfl type91) ?_
     refine qo 15 14 32767 rfl ?_
     refine sb 9 [.int .i64 x0.Query.Id, .int .i64 x0.Query.Tenant, .slice A131 x0.Query.Conds.length c132, .slice A135 x0.Query.Out.length c136, .int .i64 x0.Time, .slice A140 x0.Todo.length c141, .int .i64 x0.Age, .int .i64 x0.Sent, .int .i64 x0.Cap, .slice A145 x0.Rows.length c146] [I17, I18, I19, I20, iBox p34 93 K1] (fun W hm => hm) type91 ?_
     refine qn (pk [5]) ?_
     refine QB_done (by kernel_rfl) ?_
     exact QM_cut_normal (A131, c132, A135, c136, A140, c141, A145, c146) sl2 (fun W hm => hm) trivial
    exact QBs_nil
   refine qc 15 203 rfl ?_ ?_
   ·
    refine wv (vl 1 9 underlying91) ?_
    refine qn (pk [0]) ?_
    refine qa [2, 4] ?_
    refine qc 15 207 rfl ?_ ?_
    ·
     refine wcs tyQuery x0.Query (cl_fn cb54 rfl) (fun W hm => impl_copyQuery_c2 W _ x0.Query (tyQuery_mk (x := x0.Query) (hm.rdS0 r13) (hm.rdS0 r18)) s_0.1) (fun z149 => ?_)
     refine tyQuery_sp ?_
     rintro ⟨v150, v151⟩ rfl
     refine WM_form (n := 0) rfl ?_
     rintro A152 c153 rfl m154
     refine WM_form (n := 1) rfl ?_
     rintro A156 c157 rfl m158
     refine qn (pk [2]) ?_
     refine qo 15 4 223 rfl ?_
     refine wv (vl 3 5 underlying25) ?_
     refine qn (pk [2]) ?_
     refine qt 15 9 735 rfl (vf underlying93 rfl type48) ?_
     refine qo 15 5 767 rfl ?_
     refine wcl (tSl tInt 3) x0.Todo (cl_fn cb75 rfl) (fun W hm => impl_copyInts_c2 W _ x0.Todo (hm.rdS0 r23) s_0.2.1) (fun z160 => ?_)
     refine WM_form (n := 0) rfl ?_
     rintro A161 c162 rfl m163
     refine qn (pk [3]) ?_
     refine qo 15 8 1023 rfl ?_
     refine wcl (tSl tyRow 138) x0.Rows (cl_fn cb101 rfl) (fun W hm => impl_copyRows_c2 W _ x0.Rows (hm.rdS0 r28) s_0.2.2) (fun z165 => ?_)
     refine WM_form (n := 0) rfl ?_
     rintro A166 c167 rfl m168
     refine qn (pk [4]) ?_
     refine qo 15 10 2047 rfl ?_
     let I21 : It := iOwn (tSl tyRow 138) [.slice A166 x0.Rows.length c167] x0.Rows
     let I22 : It := iOwn (tSl tInt 3) [.slice A161 x0.Todo.length c162] x0.Todo
     let I23 : It := iOwn (tSl tyCond 102) [.slice A152 x0.Query.Conds.length c153] x0.Query.Conds
     let I24 : It := iOwn (tSl tInt 3) [.slice A156 x0.Query.Out.length c157] x0.Query.Out
     refine sb 0 [.int .i64 x0.Query.Id, .int .i64 x0.Query.Tenant, .slice A152 x0.Query.Conds.length c153, .slice A156 x0.Query.Out.length c157, .int .i64 x0.Time, .slice A20 x0.Todo.length c21, .int .i64 x0.Age, .int .i64 x0.Sent, .int .i64 x0.Cap, .slice A25 x0.Rows.length c26] [I21, I22, I23, I24, iBox p34 93 K1] (pk [5, 0, 1, 2, 3, 4]) type48 ?_
     refine qn (pk [5]) ?_
     refine qt 15 11 4095 rfl (vf underlying93 rfl type25) ?_
     refine qo 15 12 8191 rfl ?_
     refine sb 5 [.int .i64 x0.Query.Id, .int .i64 x0.Query.Tenant, .slice A152 x0.Query.Conds.length c153, .slice A156 x0.Query.Out.length c157, .int .i64 x0.Time, .slice A161 x0.Todo.length c162, .int .i64 x0.Age, .int .i64 x0.Sent, .int .i64 x0.Cap, .slice A25 x0.Rows.length c26] [I21, I22, I23, I24, iBox p34 93 K1] (fun W hm => hm) type25 ?_
     refine qn (pk [5]) ?_
     refine qt 15 13 16383 rfl (vf underlying93 rfl type91) ?_
     refine qo 15 14 32767 rfl ?_
     refine sb 9 [.int .i64 x0.Query.Id, .int .i64 x0.Query.Tenant, .slice A152 x0.Query.Conds.length c153, .slice A156 x0.Query.Out.length c157, .int .i64 x0.Time, .slice A161 x0.Todo.length c162, .int .i64 x0.Age, .int .i64 x0.Sent, .int .i64 x0.Cap, .slice A166 x0.Rows.length c167] [I21, I22, I23, I24, iBox p34 93 K1] (fun W hm => hm) type91 ?_
     refine qn (pk [5]) ?_
     refine QB_done (by kernel_rfl) ?_
     exact QM_cut_normal (A152, c153, A156, c157, A161, c162, A166, c167) sl2 (fun W hm => hm) trivial
    refine qc 15 219 rfl ?_ ?_
    ·
     refine wv (vl 1 5 underlying25) ?_
     refine qn (pk [0]) ?_
     refine qo 15 2 223 rfl ?_
     refine wcs tyQuery x0.Query (cl_fn cb54 rfl) (fun W hm => impl_copyQuery_c2 W _ x0.Query (tyQuery_mk (x := x0.Query) (hm.rdS0 r13) (hm.rdS0 r18)) s_0.1) (fun z170 => ?_)
     refine tyQuery_sp ?_
     rintro ⟨v171, v172⟩ rfl
     refine WM_form (n := 0) rfl ?_
     rintro A173 c174 rfl m175
     refine WM_form (n := 1) rfl ?_
     rintro A177 c178 rfl m179
     refine qn (pk [2]) ?_
     refine qt 15 9 735 rfl (vf underlying93 rfl type48) ?_
     refine qo 15 5 767 rfl ?_
     refine wcl (tSl tInt 3) x0.Todo (cl_fn cb75 rfl) (fun W hm => impl_copyInts_c2 W _ x0.Todo (hm.rdS0 r23) s_0.2.1) (fun z181 => ?_)
     refine WM_form (n := 0) rfl ?_
     rintro A182 c183 rfl m184
     refine qn (pk [3]) ?_
     refine qo 15 8 1023 rfl ?_
     refine wcl (tSl tyRow 138) x0.Rows (cl_fn cb101 rfl) (fun W hm => impl_copyRows_c2 W _ x0.Rows (hm.rdS0 r28) s_0.2.2) (fun z186 => ?_)
     refine WM_form (n := 0) rfl ?_
     rintro A187 c188 rfl m189
     refine qn (pk [4]) ?_
     refine qo 15 10 2047 rfl ?_
     let I25 : It := iOwn (tSl tyRow 138) [.slice A187 x0.Rows.length c188] x0.Rows
     let I26 : It := iOwn (tSl tInt 3) [.slice A182 x0.Todo.length c183] x0.Todo
     let I27 : It := iOwn (tSl tyCond 102) [.slice A173 x0.Query.Conds.length c174] x0.Query.Conds
     let I28 : It := iOwn (tSl tInt 3) [.slice A177 x0.Query.Out.length c178] x0.Query.Out
     refine sb 0 [.int .i64 x0.Query.Id, .int .i64 x0.Query.Tenant, .slice A173 x0.Query.Conds.length c174, .slice A177 x0.Query.Out.length c178, .int .i64 x0.Time, .slice A20 x0.Todo.length c21, .int .i64 x0.Age, .int .i64 x0.Sent, .int .i64 x0.Cap, .slice A25 x0.Rows.length c26] [I25, I26, I27, I28, iBox p34 93 K1] (pk [5, 0, 1, 2, 3, 4]) type48 ?_
     refine qn (pk [5]) ?_
     refine qt 15 11 4095 rfl (vf underlying93 rfl type25) ?_
     refine qo 15 12 8191 rfl ?_
     refine sb 5 [.int .i64 x0.Query.Id, .int .i64 x0.Query.Tenant, .slice A173 x0.Query.Conds.length c174, .slice A177 x0.Query.Out.length c178, .int .i64 x0.Time, .slice A182 x0.Todo.length c183, .int .i64 x0.Age, .int .i64 x0.Sent, .int .i64 x0.Cap, .slice A25 x0.Rows.length c26] [I25, I26, I27, I28, iBox p34 93 K1] (fun W hm => hm) type25 ?_
     refine qn (pk [5]) ?_
     refine qt 15 13 16383 rfl (vf underlying93 rfl type91) ?_
     refine qo 15 14 32767 rfl ?_
     refine sb 9 [.int .i64 x0.Query.Id, .int .i64 x0.Query.Tenant, .slice A173 x0.Query.Conds.length c174, .slice A177 x0.Query.Out.length c178, .int .i64 x0.Time, .slice A182 x0.Todo.length c183, .int .i64 x0.Age, .int .i64 x0.Sent, .int .i64 x0.Cap, .slice A187 x0.Rows.length c188] [I25, I26, I27, I28, iBox p34 93 K1] (fun W hm => hm) type91 ?_
     refine qn (pk [5]) ?_
     refine QB_done (by kernel_rfl) ?_
     exact QM_cut_normal (A173, c174, A177, c178, A182, c183, A187, c188) sl2 (fun W hm => hm) trivial
    exact QBs_nil
   exact QBs_nil
  refine qc 15 89 rfl ?_ ?_
  ·
   refine wv (vl 1 5 underlying25) ?_
   refine qn (pk [0]) ?_
   refine qa [1, 7] ?_
   refine qc 15 91 rfl ?_ ?_
   ·
    refine wv (fun W hm => rv_loadN (cs := [.int .i64 x0.Query.Id, .int .i64 x0.Query.Tenant, .slice A10 x0.Query.Conds.length c11, .slice A15 x0.Query.Out.length c16]) underlying48 type48 rfl rfl (hm.boxPart (n := 1) rfl rfl)) ?_
    refine qn (pk [0]) ?_
    refine qa [2, 7] ?_
    refine qc 15 95 rfl ?_ ?_
    ·
     refine wcs tyQuery x0.Query (cl_fn cb54 rfl) (fun W hm => impl_copyQuery_c2 W _ x0.Query (tyQuery_mk (x := x0.Query) (hm.rdS0 r13) (hm.rdS0 r18)) s_0.1) (fun z191 => ?_)
     refine tyQuery_sp ?_
     rintro ⟨v192, v193⟩ rfl
     refine WM_form (n := 0) rfl ?_
     rintro A194 c195 rfl m196
     refine WM_form (n := 1) rfl ?_
     rintro A198 c199 rfl m200
     refine qn (pk [2]) ?_
     let I29 : It := iOwn (tSl tyCond 102) [.slice A194 x0.Query.Conds.length c195] x0.Query.Conds
     let I30 : It := iOwn (tSl tInt 3) [.slice A198 x0.Query.Out.length c199] x0.Query.Out
     refine QB_strong (js := [I29, I30, iBox p34 93 K1]) (pk [2]) (pk [0, 1, 2]) ?_
     refine qa [5, 7] ?_
     refine qc 15 127 rfl ?_ ?_
     ·
      refine wcl (tSl tInt 3) x0.Todo (cl_fn cb75 rfl) (fun W hm => impl_copyInts_c2 W _ x0.Todo (hm.rdS0 r23) s_0.2.1) (fun z202 => ?_)
      refine WM_form (n := 0) rfl ?_
      rintro A203 c204 rfl m205
      refine qn (pk [1, 2, 3]) ?_
      refine qo 15 7 255 rfl ?_
      refine wv (vl 4 9 underlying91) ?_
      refine qn (pk [1, 2, 3]) ?_
      refine qt 15 9 767 rfl (vf underlying93 rfl type48) ?_
      refine qo 15 8 1023 rfl ?_
      refine wcl (tSl tyRow 138) x0.Rows (cl_fn cb101 rfl) (fun W hm => impl_copyRows_c2 W _ x0.Rows (hm.rdS0 r28) s_0.2.2) (fun z207 => ?_)
      refine WM_form (n := 0) rfl ?_
      rintro A208 c209 rfl m210
      refine qn (pk [2, 3, 4]) ?_
      refine qo 15 10 2047 rfl ?_
      let I31 : It := iOwn (tSl tyRow 138) [.slice A208 x0.Rows.length c209] x0.Rows
      let I32 : It := iOwn (tSl tInt 3) [.slice A203 x0.Todo.length c204] x0.Todo
      refine sb 0 [.int .i64 x0.Query.Id, .int .i64 x0.Query.Tenant, .slice A194 x0.Query.Conds.length c195, .slice A198 x0.Query.Out.length c199, .int .i64 x0.Time, .slice A20 x0.Todo.length c21, .int .i64 x0.Age, .int .i64 x0.Sent, .int .i64 x0.Cap, .slice A25 x0.Rows.length c26] [I31, I32, I29, I30, iBox p34 93 K1] (pk [5, 0, 1, 2, 3, 4]) type48 ?_
      refine qn (pk [3, 4, 5]) ?_
      refine qt 15 11 4095 rfl (vf underlying93 rfl type25) ?_
      refine qo 15 12 8191 rfl ?_
      refine sb 5 [.int .i64 x0.Query.Id, .int .i64 x0.Query.Tenant, .slice A194 x0.Query.Conds.length c195, .slice A198 x0.Query.Out.length c199, .int .i64 x0.Time, .slice A203 x0.Todo.length c204, .int .i64 x0.Age, .int .i64 x0.Sent, .int .i64 x0.Cap, .slice A25 x0.Rows.length c26] [I31, I32, I29, I30, iBox p34 93 K1] (fun W hm => hm) type25 ?_
      refine qn (pk [3, 4, 5]) ?_
      refine qt 15 13 16383 rfl (vf underlying93 rfl type91) ?_
      refine qo 15 14 32767 rfl ?_
      refine sb 9 [.int .i64 x0.Query.Id, .int .i64 x0.Query.Tenant, .slice A194 x0.Query.Conds.length c195, .slice A198 x0.Query.Out.length c199, .int .i64 x0.Time, .slice A203 x0.Todo.length c204, .int .i64 x0.Age, .int .i64 x0.Sent, .int .i64 x0.Cap, .slice A208 x0.Rows.length c209] [I31, I32, I29, I30, iBox p34 93 K1] (fun W hm => hm) type91 ?_
      refine qn (pk [3, 4, 5]) ?_
      refine QB_done (by kernel_rfl) ?_
      exact QM_cut_normal (A194, c195, A198, c199, A203, c204, A208, c209) sl2 (fun W hm => hm) trivial
     refine qc 15 223 rfl ?_ ?_
     ·
      refine wv (vl 3 9 underlying91) ?_
      refine qn (pk [0, 1, 2]) ?_
      refine qt 15 9 735 rfl (vf underlying93 rfl type48) ?_
      refine qo 15 5 767 rfl ?_
      refine wcl (tSl tInt 3) x0.Todo (cl_fn cb75 rfl) (fun W hm => impl_copyInts_c2 W _ x0.Todo (hm.rdS0 r23) s_0.2.1) (fun z212 => ?_)
      refine WM_form (n := 0) rfl ?_
      rintro A213 c214 rfl m215
      refine qn (pk [1, 2, 3]) ?_
      refine qo 15 8 1023 rfl ?_
      refine wcl (tSl tyRow 138) x0.Rows (cl_fn cb101 rfl) (fun W hm => impl_copyRows_c2 W _ x0.Rows (hm.rdS0 r28) s_0.2.2) (fun z217 => ?_)
      refine WM_form (n := 0) rfl ?_
      rintro A218 c219 rfl m220
      refine qn (pk [2, 3, 4]) ?_
      refine qo 15 10 2047 rfl ?_
      let I33 : It := iOwn (tSl tyRow 138) [.slice A218 x0.Rows.length c219] x0.Rows
      let I34 : It := iOwn (tSl tInt 3) [.slice A213 x0.Todo.length c214] x0.Todo
      refine sb 0 [.int .i64 x0.Query.Id, .int .i64 x0.Query.Tenant, .slice A194 x0.Query.Conds.length c195, .slice A198 x0.Query.Out.length c199, .int .i64 x0.Time, .slice A20 x0.Todo.length c21, .int .i64 x0.Age, .int .i64 x0.Sent, .int .i64 x0.Cap, .slice A25 x0.Rows.length c26] [I33, I34, I29, I30, iBox p34 93 K1] (pk [5, 0, 1, 2, 3, 4]) type48 ?_
      refine qn (pk [3, 4, 5]) ?_
      refine qt 15 11 4095 rfl (vf underlying93 rfl type25) ?_
      refine qo 15 12 8191 rfl ?_
      refine sb 5 [.int .i64 x0.Query.Id, .int .i64 x0.Query.Tenant, .slice A194 x0.Query.Conds.length c195, .slice A198 x0.Query.Out.length c199, .int .i64 x0.Time, .slice A213 x0.Todo.length c214, .int .i64 x0.Age, .int .i64 x0.Sent, .int .i64 x0.Cap, .slice A25 x0.Rows.length c26] [I33, I34, I29, I30, iBox p34 93 K1] (fun W hm => hm) type25 ?_
      refine qn (pk [3, 4, 5]) ?_
      refine qt 15 13 16383 rfl (vf underlying93 rfl type91) ?_
      refine qo 15 14 32767 rfl ?_
      refine sb 9 [.int .i64 x0.Query.Id, .int .i64 x0.Query.Tenant, .slice A194 x0.Query.Conds.length c195, .slice A198 x0.Query.Out.length c199, .int .i64 x0.Time, .slice A213 x0.Todo.length c214, .int .i64 x0.Age, .int .i64 x0.Sent, .int .i64 x0.Cap, .slice A218 x0.Rows.length c219] [I33, I34, I29, I30, iBox p34 93 K1] (fun W hm => hm) type91 ?_
      refine qn (pk [3, 4, 5]) ?_
      refine QB_done (by kernel_rfl) ?_
      exact QM_cut_normal (A194, c195, A198, c199, A213, c214, A218, c219) sl2 (fun W hm => hm) trivial
     exact QBs_nil
    refine qc 15 219 rfl ?_ ?_
    ·
     refine wv (vl 1 9 underlying91) ?_
     refine qn (pk [0]) ?_
     refine qo 15 2 223 rfl ?_
     refine wcs tyQuery x0.Query (cl_fn cb54 rfl) (fun W hm => impl_copyQuery_c2 W _ x0.Query (tyQuery_mk (x := x0.Query) (hm.rdS0 r13) (hm.rdS0 r18)) s_0.1) (fun z222 => ?_)
     refine tyQuery_sp ?_
     rintro ⟨v223, v224⟩ rfl
     refine WM_form (n := 0) rfl ?_
     rintro A225 c226 rfl m227
     refine WM_form (n := 1) rfl ?_
     rintro A229 c230 rfl m231
     refine qn (pk [2]) ?_
     refine qt 15 9 735 rfl (vf underlying93 rfl type48) ?_
     refine qo 15 5 767 rfl ?_
     refine wcl (tSl tInt 3) x0.Todo (cl_fn cb75 rfl) (fun W hm => impl_copyInts_c2 W _ x0.Todo (hm.rdS0 r23) s_0.2.1) (fun z233 => ?_)
     refine WM_form (n := 0) rfl ?_
     rintro A234 c235 rfl m236
     refine qn (pk [3]) ?_
     refine qo 15 8 1023 rfl ?_
     refine wcl (tSl tyRow 138) x0.Rows (cl_fn cb101 rfl) (fun W hm => impl_copyRows_c2 W _ x0.Rows (hm.rdS0 r28) s_0.2.2) (fun z238 => ?_)
     refine WM_form (n := 0) rfl ?_
     rintro A239 c240 rfl m241
     refine qn (pk [4]) ?_
     refine qo 15 10 2047 rfl ?_
     let I35 : It := iOwn (tSl tyRow 138) [.slice A239 x0.Rows.length c240] x0.Rows
     let I36 : It := iOwn (tSl tInt 3) [.slice A234 x0.Todo.length c235] x0.Todo
     let I37 : It := iOwn (tSl tyCond 102) [.slice A225 x0.Query.Conds.length c226] x0.Query.Conds
     let I38 : It := iOwn (tSl tInt 3) [.slice A229 x0.Query.Out.length c230] x0.Query.Out
     refine sb 0 [.int .i64 x0.Query.Id, .int .i64 x0.Query.Tenant, .slice A225 x0.Query.Conds.length c226, .slice A229 x0.Query.Out.length c230, .int .i64 x0.Time, .slice A20 x0.Todo.length c21, .int .i64 x0.Age, .int .i64 x0.Sent, .int .i64 x0.Cap, .slice A25 x0.Rows.length c26] [I35, I36, I37, I38, iBox p34 93 K1] (pk [5, 0, 1, 2, 3, 4]) type48 ?_
     refine qn (pk [5]) ?_
     refine qt 15 11 4095 rfl (vf underlying93 rfl type25) ?_
     refine qo 15 12 8191 rfl ?_
     refine sb 5 [.int .i64 x0.Query.Id, .int .i64 x0.Query.Tenant, .slice A225 x0.Query.Conds.length c226, .slice A229 x0.Query.Out.length c230, .int .i64 x0.Time, .slice A234 x0.Todo.length c235, .int .i64 x0.Age, .int .i64 x0.Sent, .int .i64 x0.Cap, .slice A25 x0.Rows.length c26] [I35, I36, I37, I38, iBox p34 93 K1] (fun W hm => hm) type25 ?_
     refine qn (pk [5]) ?_
     refine qt 15 13 16383 rfl (vf underlying93 rfl type91) ?_
     refine qo 15 14 32767 rfl ?_
     refine sb 9 [.int .i64 x0.Query.Id, .int .i64 x0.Query.Tenant, .slice A225 x0.Query.Conds.length c226, .slice A229 x0.Query.Out.length c230, .int .i64 x0.Time, .slice A234 x0.Todo.length c235, .int .i64 x0.Age, .int .i64 x0.Sent, .int .i64 x0.Cap, .slice A239 x0.Rows.length c240] [I35, I36, I37, I38, iBox p34 93 K1] (fun W hm => hm) type91 ?_
     refine qn (pk [5]) ?_
     refine QB_done (by kernel_rfl) ?_
     exact QM_cut_normal (A225, c226, A229, c230, A234, c235, A239, c240) sl2 (fun W hm => hm) trivial
    exact QBs_nil
   refine qc 15 217 rfl ?_ ?_
   ·
    refine wv (vl 1 9 underlying91) ?_
    refine qn (pk [0]) ?_
    refine qo 15 1 219 rfl ?_
    refine wv (fun W hm => rv_loadN (cs := [.int .i64 x0.Query.Id, .int .i64 x0.Query.Tenant, .slice A10 x0.Query.Conds.length c11, .slice A15 x0.Query.Out.length c16]) underlying48 type48 rfl rfl (hm.boxPart (n := 1) rfl rfl)) ?_
    refine qn (pk [0]) ?_
    refine qo 15 2 223 rfl ?_
    refine wcs tyQuery x0.Query (cl_fn cb54 rfl) (fun W hm => impl_copyQuery_c2 W _ x0.Query (tyQuery_mk (x := x0.Query) (hm.rdS0 r13) (hm.rdS0 r18)) s_0.1) (fun z243 => ?_)
    refine tyQuery_sp ?_
    rintro ⟨v244, v245⟩ rfl
    refine WM_form (n := 0) rfl ?_
    rintro A246 c247 rfl m248
    refine WM_form (n := 1) rfl ?_
    rintro A250 c251 rfl m252
    refine qn (pk [2]) ?_
    refine qt 15 9 735 rfl (vf underlying93 rfl type48) ?_
    refine qo 15 5 767 rfl ?_
    refine wcl (tSl tInt 3) x0.Todo (cl_fn cb75 rfl) (fun W hm => impl_copyInts_c2 W _ x0.Todo (hm.rdS0 r23) s_0.2.1) (fun z254 => ?_)
    refine WM_form (n := 0) rfl ?_
    rintro A255 c256 rfl m257
    refine qn (pk [3]) ?_
    refine qo 15 8 1023 rfl ?_
    refine wcl (tSl tyRow 138) x0.Rows (cl_fn cb101 rfl) (fun W hm => impl_copyRows_c2 W _ x0.Rows (hm.rdS0 r28) s_0.2.2) (fun z259 => ?_)
    refine WM_form (n := 0) rfl ?_
    rintro A260 c261 rfl m262
    refine qn (pk [4]) ?_
    refine qo 15 10 2047 rfl ?_
    let I39 : It := iOwn (tSl tyRow 138) [.slice A260 x0.Rows.length c261] x0.Rows
    let I40 : It := iOwn (tSl tInt 3) [.slice A255 x0.Todo.length c256] x0.Todo
    let I41 : It := iOwn (tSl tyCond 102) [.slice A246 x0.Query.Conds.length c247] x0.Query.Conds
    let I42 : It := iOwn (tSl tInt 3) [.slice A250 x0.Query.Out.length c251] x0.Query.Out
    refine sb 0 [.int .i64 x0.Query.Id, .int .i64 x0.Query.Tenant, .slice A246 x0.Query.Conds.length c247, .slice A250 x0.Query.Out.length c251, .int .i64 x0.Time, .slice A20 x0.Todo.length c21, .int .i64 x0.Age, .int .i64 x0.Sent, .int .i64 x0.Cap, .slice A25 x0.Rows.length c26] [I39, I40, I41, I42, iBox p34 93 K1] (pk [5, 0, 1, 2, 3, 4]) type48 ?_
    refine qn (pk [5]) ?_
    refine qt 15 11 4095 rfl (vf underlying93 rfl type25) ?_
    refine qo 15 12 8191 rfl ?_
    refine sb 5 [.int .i64 x0.Query.Id, .int .i64 x0.Query.Tenant, .slice A246 x0.Query.Conds.length c247, .slice A250 x0.Query.Out.length c251, .int .i64 x0.Time, .slice A255 x0.Todo.length c256, .int .i64 x0.Age, .int .i64 x0.Sent, .int .i64 x0.Cap, .slice A25 x0.Rows.length c26] [I39, I40, I41, I42, iBox p34 93 K1] (fun W hm => hm) type25 ?_
    refine qn (pk [5]) ?_
    refine qt 15 13 16383 rfl (vf underlying93 rfl type91) ?_
    refine qo 15 14 32767 rfl ?_
    refine sb 9 [.int .i64 x0.Query.Id, .int .i64 x0.Query.Tenant, .slice A246 x0.Query.Conds.length c247, .slice A250 x0.Query.Out.length c251, .int .i64 x0.Time, .slice A255 x0.Todo.length c256, .int .i64 x0.Age, .int .i64 x0.Sent, .int .i64 x0.Cap, .slice A260 x0.Rows.length c261] [I39, I40, I41, I42, iBox p34 93 K1] (fun W hm => hm) type91 ?_
    refine qn (pk [5]) ?_
    refine QB_done (by kernel_rfl) ?_
    exact QM_cut_normal (A246, c247, A250, c251, A255, c256, A260, c261) sl2 (fun W hm => hm) trivial
   exact QBs_nil
  refine qc 15 201 rfl ?_ ?_
  ·
   refine wv (vl 1 9 underlying91) ?_
   refine qn (pk [0]) ?_
   refine qa [1, 4] ?_
   refine qc 15 203 rfl ?_ ?_
   ·
    refine wv (fun W hm => rv_loadN (cs := [.int .i64 x0.Query.Id, .int .i64 x0.Query.Tenant, .slice A10 x0.Query.Conds.length c11, .slice A15 x0.Query.Out.length c16]) underlying48 type48 rfl rfl (hm.boxPart (n := 1) rfl rfl)) ?_
    refine qn (pk [0]) ?_
    refine qa [2, 4] ?_
    refine qc 15 207 rfl ?_ ?_
    ·
     refine wcs tyQuery x0.Query (cl_fn cb54 rfl) (fun W hm => impl_copyQuery_c2 W _ x0.Query (tyQuery_mk (x := x0.Query) (hm.rdS0 r13) (hm.rdS0 r18)) s_0.1) (fun z264 => ?_)
     refine tyQuery_sp ?_
     rintro ⟨v265, v266⟩ rfl
     refine WM_form (n := 0) rfl ?_
     rintro A267 c268 rfl m269
     refine WM_form (n := 1) rfl ?_
     rintro A271 c272 rfl m273
     refine qn (pk [2]) ?_
     refine qo 15 4 223 rfl ?_
     refine wv (vl 3 5 underlying25) ?_
     refine qn (pk [2]) ?_
     refine qt 15 9 735 rfl (vf underlying93 rfl type48) ?_
     refine qo 15 5 767 rfl ?_
     refine wcl (tSl tInt 3) x0.Todo (cl_fn cb75 rfl) (fun W hm => impl_copyInts_c2 W _ x0.Todo (hm.rdS0 r23) s_0.2.1) (fun z275 => ?_)
     refine WM_form (n := 0) rfl ?_
     rintro A276 c277 rfl m278
     refine qn (pk [3]) ?_
     refine qo 15 8 1023 rfl ?_
     refine wcl (tSl tyRow 138) x0.Rows (cl_fn cb101 rfl) (fun W hm => impl_copyRows_c2 W _ x0.Rows (hm.rdS0 r28) s_0.2.2) (fun z280 => ?_)
     refine WM_form (n := 0) rfl ?_
     rintro A281 c282 rfl m283
     refine qn (pk [4]) ?_
     refine qo 15 10 2047 rfl ?_
     let I43 : It := iOwn (tSl tyRow 138) [.slice A281 x0.Rows.length c282] x0.Rows
     let I44 : It := iOwn (tSl tInt 3) [.slice A276 x0.Todo.length c277] x0.Todo
     let I45 : It := iOwn (tSl tyCond 102) [.slice A267 x0.Query.Conds.length c268] x0.Query.Conds
     let I46 : It := iOwn (tSl tInt 3) [.slice A271 x0.Query.Out.length c272] x0.Query.Out
     refine sb 0 [.int .i64 x0.Query.Id, .int .i64 x0.Query.Tenant, .slice A267 x0.Query.Conds.length c268, .slice A271 x0.Query.Out.length c272, .int .i64 x0.Time, .slice A20 x0.Todo.length c21, .int .i64 x0.Age, .int .i64 x0.Sent, .int .i64 x0.Cap, .slice A25 x0.Rows.length c26] [I43, I44, I45, I46, iBox p34 93 K1] (pk [5, 0, 1, 2, 3, 4]) type48 ?_
     refine qn (pk [5]) ?_
     refine qt 15 11 4095 rfl (vf underlying93 rfl type25) ?_
     refine qo 15 12 8191 rfl ?_
     refine sb 5 [.int .i64 x0.Query.Id, .int .i64 x0.Query.Tenant, .slice A267 x0.Query.Conds.length c268, .slice A271 x0.Query.Out.length c272, .int .i64 x0.Time, .slice A276 x0.Todo.length c277, .int .i64 x0.Age, .int .i64 x0.Sent, .int .i64 x0.Cap, .slice A25 x0.Rows.length c26] [I43, I44, I45, I46, iBox p34 93 K1] (fun W hm => hm) type25 ?_
     refine qn (pk [5]) ?_
     refine qt 15 13 16383 rfl (vf underlying93 rfl type91) ?_
     refine qo 15 14 32767 rfl ?_
     refine sb 9 [.int .i64 x0.Query.Id, .int .i64 x0.Query.Tenant, .slice A267 x0.Query.Conds.length c268, .slice A271 x0.Query.Out.length c272, .int .i64 x0.Time, .slice A276 x0.Todo.length c277, .int .i64 x0.Age, .int .i64 x0.Sent, .int .i64 x0.Cap, .slice A281 x0.Rows.length c282] [I43, I44, I45, I46, iBox p34 93 K1] (fun W hm => hm) type91 ?_
     refine qn (pk [5]) ?_
     refine QB_done (by kernel_rfl) ?_
     exact QM_cut_normal (A267, c268, A271, c272, A276, c277, A281, c282) sl2 (fun W hm => hm) trivial
    refine qc 15 219 rfl ?_ ?_
    ·
     refine wv (vl 1 5 underlying25) ?_
     refine qn (pk [0]) ?_
     refine qo 15 2 223 rfl ?_
     refine wcs tyQuery x0.Query (cl_fn cb54 rfl) (fun W hm => impl_copyQuery_c2 W _ x0.Query (tyQuery_mk (x := x0.Query) (hm.rdS0 r13) (hm.rdS0 r18)) s_0.1) (fun z285 => ?_)
     refine tyQuery_sp ?_
     rintro ⟨v286, v287⟩ rfl
     refine WM_form (n := 0) rfl ?_
     rintro A288 c289 rfl m290
     refine WM_form (n := 1) rfl ?_
     rintro A292 c293 rfl m294
     refine qn (pk [2]) ?_
     refine qt 15 9 735 rfl (vf underlying93 rfl type48) ?_
     refine qo 15 5 767 rfl ?_
     refine wcl (tSl tInt 3) x0.Todo (cl_fn cb75 rfl) (fun W hm => impl_copyInts_c2 W _ x0.Todo (hm.rdS0 r23) s_0.2.1) (fun z296 => ?_)
     refine WM_form (n := 0) rfl ?_
     rintro A297 c298 rfl m299
     refine qn (pk [3]) ?_
     refine qo 15 8 1023 rfl ?_
     refine wcl (tSl tyRow 138) x0.Rows (cl_fn cb101 rfl) (fun W hm => impl_copyRows_c2 W _ x0.Rows (hm.rdS0 r28) s_0.2.2) (fun z301 => ?_)
     refine WM_form (n := 0) rfl ?_
     rintro A302 c303 rfl m304
     refine qn (pk [4]) ?_
     refine qo 15 10 2047 rfl ?_
     let I47 : It := iOwn (tSl tyRow 138) [.slice A302 x0.Rows.length c303] x0.Rows
     let I48 : It := iOwn (tSl tInt 3) [.slice A297 x0.Todo.length c298] x0.Todo
     let I49 : It := iOwn (tSl tyCond 102) [.slice A288 x0.Query.Conds.length c289] x0.Query.Conds
     let I50 : It := iOwn (tSl tInt 3) [.slice A292 x0.Query.Out.length c293] x0.Query.Out
     refine sb 0 [.int .i64 x0.Query.Id, .int .i64 x0.Query.Tenant, .slice A288 x0.Query.Conds.length c289, .slice A292 x0.Query.Out.length c293, .int .i64 x0.Time, .slice A20 x0.Todo.length c21, .int .i64 x0.Age, .int .i64 x0.Sent, .int .i64 x0.Cap, .slice A25 x0.Rows.length c26] [I47, I48, I49, I50, iBox p34 93 K1] (pk [5, 0, 1, 2, 3, 4]) type48 ?_
     refine qn (pk [5]) ?_
     refine qt 15 11 4095 rfl (vf underlying93 rfl type25) ?_
     refine qo 15 12 8191 rfl ?_
     refine sb 5 [.int .i64 x0.Query.Id, .int .i64 x0.Query.Tenant, .slice A288 x0.Query.Conds.length c289, .slice A292 x0.Query.Out.length c293, .int .i64 x0.Time, .slice A297 x0.Todo.length c298, .int .i64 x0.Age, .int .i64 x0.Sent, .int .i64 x0.Cap, .slice A25 x0.Rows.length c26] [I47, I48, I49, I50, iBox p34 93 K1] (fun W hm => hm) type25 ?_
     refine qn (pk [5]) ?_
     refine qt 15 13 16383 rfl (vf underlying93 rfl type91) ?_
     refine qo 15 14 32767 rfl ?_
     refine sb 9 [.int .i64 x0.Query.Id, .int .i64 x0.Query.Tenant, .slice A288 x0.Query.Conds.length c289, .slice A292 x0.Query.Out.length c293, .int .i64 x0.Time, .slice A297 x0.Todo.length c298, .int .i64 x0.Age, .int .i64 x0.Sent, .int .i64 x0.Cap, .slice A302 x0.Rows.length c303] [I47, I48, I49, I50, iBox p34 93 K1] (fun W hm => hm) type91 ?_
     refine qn (pk [5]) ?_
     refine QB_done (by kernel_rfl) ?_
     exact QM_cut_normal (A288, c289, A292, c293, A297, c298, A302, c303) sl2 (fun W hm => hm) trivial
    exact QBs_nil
   refine qc 15 217 rfl ?_ ?_
   ·
    refine wv (vl 1 5 underlying25) ?_
    refine qn (pk [0]) ?_
    refine qo 15 1 219 rfl ?_
    refine wv (fun W hm => rv_loadN (cs := [.int .i64 x0.Query.Id, .int .i64 x0.Query.Tenant, .slice A10 x0.Query.Conds.length c11, .slice A15 x0.Query.Out.length c16]) underlying48 type48 rfl rfl (hm.boxPart (n := 1) rfl rfl)) ?_
    refine qn (pk [0]) ?_
    refine qo 15 2 223 rfl ?_
    refine wcs tyQuery x0.Query (cl_fn cb54 rfl) (fun W hm => impl_copyQuery_c2 W _ x0.Query (tyQuery_mk (x := x0.Query) (hm.rdS0 r13) (hm.rdS0 r18)) s_0.1) (fun z306 => ?_)
    refine tyQuery_sp ?_
    rintro ⟨v307, v308⟩ rfl
    refine WM_form (n := 0) rfl ?_
    rintro A309 c310 rfl m311
    refine WM_form (n := 1) rfl ?_
    rintro A313 c314 rfl m315
    refine qn (pk [2]) ?_
    refine qt 15 9 735 rfl (vf underlying93 rfl type48) ?_
    refine qo 15 5 767 rfl ?_
    refine wcl (tSl tInt 3) x0.Todo (cl_fn cb75 rfl) (fun W hm => impl_copyInts_c2 W _ x0.Todo (hm.rdS0 r23) s_0.2.1) (fun z317 => ?_)
    refine WM_form (n := 0) rfl ?_
    rintro A318 c319 rfl m320
    refine qn (pk [3]) ?_
    refine qo 15 8 1023 rfl ?_
    refine wcl (tSl tyRow 138) x0.Rows (cl_fn cb101 rfl) (fun W hm => impl_copyRows_c2 W _ x0.Rows (hm.rdS0 r28) s_0.2.2) (fun z322 => ?_)
    refine WM_form (n := 0) rfl ?_
    rintro A323 c324 rfl m325
    refine qn (pk [4]) ?_
    refine qo 15 10 2047 rfl ?_
    let I51 : It := iOwn (tSl tyRow 138) [.slice A323 x0.Rows.length c324] x0.Rows
    let I52 : It := iOwn (tSl tInt 3) [.slice A318 x0.Todo.length c319] x0.Todo
    let I53 : It := iOwn (tSl tyCond 102) [.slice A309 x0.Query.Conds.length c310] x0.Query.Conds
    let I54 : It := iOwn (tSl tInt 3) [.slice A313 x0.Query.Out.length c314] x0.Query.Out
    refine sb 0 [.int .i64 x0.Query.Id, .int .i64 x0.Query.Tenant, .slice A309 x0.Query.Conds.length c310, .slice A313 x0.Query.Out.length c314, .int .i64 x0.Time, .slice A20 x0.Todo.length c21, .int .i64 x0.Age, .int .i64 x0.Sent, .int .i64 x0.Cap, .slice A25 x0.Rows.length c26] [I51, I52, I53, I54, iBox p34 93 K1] (pk [5, 0, 1, 2, 3, 4]) type48 ?_
    refine qn (pk [5]) ?_
    refine qt 15 11 4095 rfl (vf underlying93 rfl type25) ?_
    refine qo 15 12 8191 rfl ?_
    refine sb 5 [.int .i64 x0.Query.Id, .int .i64 x0.Query.Tenant, .slice A309 x0.Query.Conds.length c310, .slice A313 x0.Query.Out.length c314, .int .i64 x0.Time, .slice A318 x0.Todo.length c319, .int .i64 x0.Age, .int .i64 x0.Sent, .int .i64 x0.Cap, .slice A25 x0.Rows.length c26] [I51, I52, I53, I54, iBox p34 93 K1] (fun W hm => hm) type25 ?_
    refine qn (pk [5]) ?_
    refine qt 15 13 16383 rfl (vf underlying93 rfl type91) ?_
    refine qo 15 14 32767 rfl ?_
    refine sb 9 [.int .i64 x0.Query.Id, .int .i64 x0.Query.Tenant, .slice A309 x0.Query.Conds.length c310, .slice A313 x0.Query.Out.length c314, .int .i64 x0.Time, .slice A318 x0.Todo.length c319, .int .i64 x0.Age, .int .i64 x0.Sent, .int .i64 x0.Cap, .slice A323 x0.Rows.length c324] [I51, I52, I53, I54, iBox p34 93 K1] (fun W hm => hm) type91 ?_
    refine qn (pk [5]) ?_
    refine QB_done (by kernel_rfl) ?_
    exact QM_cut_normal (A309, c310, A313, c314, A318, c319, A323, c324) sl2 (fun W hm => hm) trivial
   exact QBs_nil
  exact QBs_nil
 ·
  rintro ⟨A38, c39, A42, c43, A47, c48, A52, c53⟩ -
  let K2 : List Value := [.int .i64 x0.Query.Id, .int .i64 x0.Query.Tenant, .slice A38 x0.Query.Conds.length c39, .slice A42 x0.Query.Out.length c43, .int .i64 x0.Time, .slice A47 x0.Todo.length c48, .int .i64 x0.Age, .int .i64 x0.Sent, .int .i64 x0.Cap, .slice A52 x0.Rows.length c53]
  let I55 : It := iOwn (tSl tyRow 138) [.slice A52 x0.Rows.length c53] x0.Rows
  let I56 : It := iOwn (tSl tInt 3) [.slice A47 x0.Todo.length c48] x0.Todo
  let I57 : It := iOwn (tSl tyCond 102) [.slice A38 x0.Query.Conds.length c39] x0.Query.Conds
  let I58 : It := iOwn (tSl tInt 3) [.slice A42 x0.Query.Out.length c43] x0.Query.Out
  show QM 16 _ _ _ .normal [(1, .pointer (some (⟨p33, 0, none⟩ : Addr))), (2, .pointer (some (⟨p34, 0, none⟩ : Addr)))] [iBox p33 93 K2, I55, I56, I57, I58, iBox p34 93 K1]
  refine QM_len (n := 1) rfl ?_
  intro m327 m328
  refine QM_len (n := 2) rfl ?_
  intro m329 m330
  refine QM_len (n := 3) rfl ?_
  intro m331 m332
  refine QM_len (n := 4) rfl ?_
  intro m333 m334
  refine QM_then (sr ?_)
  refine wv (fun W hm => rv_loadN (cs := K2) underlying93 type93 rfl rfl (hm.boxCells (n := 0) rfl)) ?_
  refine sb 0 K2 [iBox p33 93 K2, I55, I56, I57, I58] (pk [5, 0, 1, 2, 3, 4]) type93 ?_
  refine nt' (CM_ret ?_)
  refine QM_r1 rfl (RR_cell (n := 0) rfl rfl underlying93 type93 rfl) (fun W hm => ⟨K2, ?_, ?_⟩)
  ·first | rw [(show impl_copyActive_m x0 = x0 from by unfold impl_copyActive_m; exact rfl)] | rfl
  ·rw [(show impl_copyActive_m x0 = x0 from by unfold impl_copyActive_m; exact rfl)]; exact Mem.join (is := [I57, I58, I56, I55]) (js := []) (fun _ _ hs => tyActive_join (x := x0) hs) (hm.pick [4, 5, 3, 2] (by decide))
theorem impl_copyActive_eq (x0 : DActive) : impl_copyActive_m x0 = x0 := by
 rfl
theorem impl_copyActive_c2 (w : World) (z0 : List Value) (x0 : DActive) (r_0 : tyActive.rd w w.heap.size z0 x0) (s_0 : smActive 68719476736 x0) :
  Calls Tryz.prog 76 #[.agg z0.toArray] w fun e w' => ∃ v : List Value, e = .returned (.agg v.toArray) ∧ Mem w.heap.size w [iOwn tyActive v x0] w' := by
 have h := impl_copyActive_c w z0 x0 r_0 s_0
 rw [impl_copyActive_eq] at h
 exact h

def impl_copyFinished_m (x0 : DFinished) : DFinished :=
 x0
theorem cb77 : Cb Tryz.prog 77 := ⟨f77, _, func77, rfl, by decide⟩
theorem impl_copyFinished_c (w : World) (z0 : List Value) (x0 : DFinished) (r_0 : tyFinished.rd w w.heap.size z0 x0) (s_0 : smFinished 68719476736 x0) :
  Calls Tryz.prog 77 #[.agg z0.toArray] w fun e w' => ∃ v : List Value, e = .returned (.agg v.toArray) ∧ Mem w.heap.size w [iOwn tyFinished v (impl_copyFinished_m x0)] w' := by
 obtain ⟨v1, v3, v5, rfl, r2, r4, r6⟩ := tyFinished_rd r_0
 have r11 := r2
 obtain ⟨m7, A8, c9, rfl, q10⟩ := r2
 have r16 := r4
 obtain ⟨m12, A13, c14, rfl, q15⟩ := r4
 have r21 := r6
 obtain ⟨m17, A18, c19, rfl, q20⟩ := r6
 have l22 : x0.Query.Conds.length ≤ 68719476736 := s_0.1.1
 have l23 : x0.Query.Out.length ≤ 68719476736 := s_0.1.2
 have l24 : x0.Rows.length ≤ 68719476736 := s_0.2.1
 refine ce1 (L := [(0, .agg #[.int .i64 x0.Query.Id, .int .i64 x0.Query.Tenant, .slice A8 x0.Query.Conds.length c9, .slice A13 x0.Query.Out.length c14, .int .i64 x0.Time, .int .i64 x0.Steps, .slice A18 x0.Rows.length c19])]) (N := 12) func77 ?_
 refine sr ?_
 refine WM_box rfl (Wd_none rfl) (by decide) (fun p25 => ?_)
 refine WM_alloc type97 rfl (Wd_none rfl) (by decide) (fun p26 => ?_)
 refine nt' (CM_seq ?_)
 let K1 : List Value := [.int .i64 0, .int .i64 0, .slice none 0 0, .slice none 0 0, .int .i64 0, .int .i64 0, .slice none 0 0]
 refine CM_cut (σ := Option Addr × Nat × Option Addr × Nat × Option Addr × Nat) (fun s => [(1, .pointer (some (⟨p25, 0, none⟩ : Addr))), (2, .pointer (some (⟨p26, 0, none⟩ : Addr)))]) (fun s => [iBox p25 97 [.int .i64 x0.Query.Id, .int .i64 x0.Query.Tenant, .slice s.1 x0.Query.Conds.length s.2.1, .slice s.2.2.1 x0.Query.Out.length s.2.2.2.1, .int .i64 x0.Time, .int .i64 x0.Steps, .slice s.2.2.2.2.1 x0.Rows.length s.2.2.2.2.2], iOwn (tSl tyRow 138) [.slice s.2.2.2.2.1 x0.Rows.length s.2.2.2.2.2] x0.Rows, iOwn (tSl tyCond 102) [.slice s.1 x0.Query.Conds.length s.2.1] x0.Query.Conds, iOwn (tSl tInt 3) [.slice s.2.2.1 x0.Query.Out.length s.2.2.2.1] x0.Query.Out, iBox p26 97 K1]) (fun _ => True) ?_ ?_
 ·
  refine rb 10 (s := [iBox p26 97 K1]) (pk [0]) ?_
  refine qt 10 0 1 rfl (vf underlying97 rfl type48) ?_
  refine qt 10 3 9 rfl (vf underlying97 rfl type91) ?_
  refine qa [1, 4] ?_
  refine qc 10 11 rfl ?_ ?_
  ·
   refine wv (fun W hm => rv_loadN (cs := [.int .i64 x0.Query.Id, .int .i64 x0.Query.Tenant, .slice A8 x0.Query.Conds.length c9, .slice A13 x0.Query.Out.length c14]) underlying48 type48 rfl rfl (hm.boxPart (n := 1) rfl rfl)) ?_
   refine qn (pk [0]) ?_
   refine qa [2, 4] ?_
   refine qc 10 15 rfl ?_ ?_
   ·
    refine wcs tyQuery x0.Query (cl_fn cb54 rfl) (fun W hm => impl_copyQuery_c2 W _ x0.Query (tyQuery_mk (x := x0.Query) (hm.rdS0 r11) (hm.rdS0 r16)) s_0.1) (fun z43 => ?_)
    refine tyQuery_sp ?_
    rintro ⟨v44, v45⟩ rfl
    refine WM_form (n := 0) rfl ?_
    rintro A46 c47 rfl m48
    refine WM_form (n := 1) rfl ?_
    rintro A50 c51 rfl m52
    refine qn (pk [2]) ?_
    refine qo 10 4 31 rfl ?_
    refine wv (vl 3 6 underlying91) ?_
    refine qn (pk [2]) ?_
    refine qt 10 6 95 rfl (vf underlying97 rfl type48) ?_
    refine qo 10 5 127 rfl ?_
    refine wcl (tSl tyRow 138) x0.Rows (cl_fn cb101 rfl) (fun W hm => impl_copyRows_c2 W _ x0.Rows (hm.rdS0 r21) s_0.2) (fun z54 => ?_)
    refine WM_form (n := 0) rfl ?_
    rintro A55 c56 rfl m57
    refine qn (pk [3]) ?_
    refine qo 10 7 255 rfl ?_
    let I3 : It := iOwn (tSl tyRow 138) [.slice A55 x0.Rows.length c56] x0.Rows
    let I4 : It := iOwn (tSl tyCond 102) [.slice A46 x0.Query.Conds.length c47] x0.Query.Conds
    let I5 : It := iOwn (tSl tInt 3) [.slice A50 x0.Query.Out.length c51] x0.Query.Out
    refine sb 0 [.int .i64 x0.Query.Id, .int .i64 x0.Query.Tenant, .slice A46 x0.Query.Conds.length c47, .slice A50 x0.Query.Out.length c51, .int .i64 x0.Time, .int .i64 x0.Steps, .slice A18 x0.Rows.length c19] [I3, I4, I5, iBox p26 97 K1] (pk [4, 0, 1, 2, 3]) type48 ?_
    refine qn (pk [4]) ?_
    refine qt 10 8 511 rfl (vf underlying97 rfl type91) ?_
    refine qo 10 9 1023 rfl ?_
    refine sb 6 [.int .i64 x0.Query.Id, .int .i64 x0.Query.Tenant, .slice A46 x0.Query.Conds.length c47, .slice A50 x0.Query.Out.length c51, .int .i64 x0.Time, .int .i64 x0.Steps, .slice A55 x0.Rows.length c56] [I3, I4, I5, iBox p26 97 K1] (fun W hm => hm) type91 ?_
    refine qn (pk [4]) ?_
    refine QB_done (by kernel_rfl) ?_
    exact QM_cut_normal (A46, c47, A50, c51, A55, c56) sl2 (fun W hm => hm) trivial
   refine qc 10 27 rfl ?_ ?_
   ·
    refine wv (vl 1 6 underlying91) ?_
    refine qn (pk [0]) ?_
    refine qo 10 2 31 rfl ?_
    refine wcs tyQuery x0.Query (cl_fn cb54 rfl) (fun W hm => impl_copyQuery_c2 W _ x0.Query (tyQuery_mk (x := x0.Query) (hm.rdS0 r11) (hm.rdS0 r16)) s_0.1) (fun z59 => ?_)
    refine tyQuery_sp ?_
    rintro ⟨v60, v61⟩ rfl
    refine WM_form (n := 0) rfl ?_
    rintro A62 c63 rfl m64
    refine WM_form (n := 1) rfl ?_
    rintro A66 c67 rfl m68
    refine qn (pk [2]) ?_
    refine qt 10 6 95 rfl (vf underlying97 rfl type48) ?_
    refine qo 10 5 127 rfl ?_
    refine wcl (tSl tyRow 138) x0.Rows (cl_fn cb101 rfl) (fun W hm => impl_copyRows_c2 W _ x0.Rows (hm.rdS0 r21) s_0.2) (fun z70 => ?_)
    refine WM_form (n := 0) rfl ?_
    rintro A71 c72 rfl m73
    refine qn (pk [3]) ?_
    refine qo 10 7 255 rfl ?_
    let I6 : It := iOwn (tSl tyRow 138) [.slice A71 x0.Rows.length c72] x0.Rows
    let I7 : It := iOwn (tSl tyCond 102) [.slice A62 x0.Query.Conds.length c63] x0.Query.Conds
    let I8 : It := iOwn (tSl tInt 3) [.slice A66 x0.Query.Out.length c67] x0.Query.Out
    refine sb 0 [.int .i64 x0.Query.Id, .int .i64 x0.Query.Tenant, .slice A62 x0.Query.Conds.length c63, .slice A66 x0.Query.Out.length c67, .int .i64 x0.Time, .int .i64 x0.Steps, .slice A18 x0.Rows.length c19] [I6, I7, I8, iBox p26 97 K1] (pk [4, 0, 1, 2, 3]) type48 ?_
    refine qn (pk [4]) ?_
    refine qt 10 8 511 rfl (vf underlying97 rfl type91) ?_
    refine qo 10 9 1023 rfl ?_
    refine sb 6 [.int .i64 x0.Query.Id, .int .i64 x0.Query.Tenant, .slice A62 x0.Query.Conds.length c63, .slice A66 x0.Query.Out.length c67, .int .i64 x0.Time, .int .i64 x0.Steps, .slice A71 x0.Rows.length c72] [I6, I7, I8, iBox p26 97 K1] (fun W hm => hm) type91 ?_
    refine qn (pk [4]) ?_
    refine QB_done (by kernel_rfl) ?_
    exact QM_cut_normal (A62, c63, A66, c67, A71, c72) sl2 (fun W hm => hm) trivial
   exact QBs_nil
  refine qc 10 25 rfl ?_ ?_
  ·
   refine wv (vl 1 6 underlying91) ?_
   refine qn (pk [0]) ?_
   refine qo 10 1 27 rfl ?_
   refine wv (fun W hm => rv_loadN (cs := [.int .i64 x0.Query.Id, .int .i64 x0.Query.Tenant, .slice A8 x0.Query.Conds.length c9, .slice A13 x0.Query.Out.length c14]) underlying48 type48 rfl rfl (hm.boxPart (n := 1) rfl rfl)) ?_
   refine qn (pk [0]) ?_
   refine qo 10 2 31 rfl ?_
   refine wcs tyQuery x0.Query (cl_fn cb54 rfl) (fun W hm => impl_copyQuery_c2 W _ x0.Query (tyQuery_mk (x := x0.Query) (hm.rdS0 r11) (hm.rdS0 r16)) s_0.1) (fun z75 => ?_)
   refine tyQuery_sp ?_
   rintro ⟨v76, v77⟩ rfl
   refine WM_form (n := 0) rfl ?_
   rintro A78 c79 rfl m80
   refine WM_form (n := 1) rfl ?_
   rintro A82 c83 rfl m84
   refine qn (pk [2]) ?_
   refine qt 10 6 95 rfl (vf underlying97 rfl type48) ?_
   refine qo 10 5 127 rfl ?_
   refine wcl (tSl tyRow 138) x0.Rows (cl_fn cb101 rfl) (fun W hm => impl_copyRows_c2 W _ x0.Rows (hm.rdS0 r21) s_0.2) (fun z86 => ?_)
   refine WM_form (n := 0) rfl ?_
   rintro A87 c88 rfl m89
   refine qn (pk [3]) ?_
   refine qo 10 7 255 rfl ?_
   let I9 : It := iOwn (tSl tyRow 138) [.slice A87 x0.Rows.length c88] x0.Rows
   let I10 : It := iOwn (tSl tyCond 102) [.slice A78 x0.Query.Conds.length c79] x0.Query.Conds
   let I11 : It := iOwn (tSl tInt 3) [.slice A82 x0.Query.Out.length c83] x0.Query.Out
   refine sb 0 [.int .i64 x0.Query.Id, .int .i64 x0.Query.Tenant, .slice A78 x0.Query.Conds.length c79, .slice A82 x0.Query.Out.length c83, .int .i64 x0.Time, .int .i64 x0.Steps, .slice A18 x0.Rows.length c19] [I9, I10, I11, iBox p26 97 K1] (pk [4, 0, 1, 2, 3]) type48 ?_
   refine qn (pk [4]) ?_
   refine qt 10 8 511 rfl (vf underlying97 rfl type91) ?_
   refine qo 10 9 1023 rfl ?_
   refine sb 6 [.int .i64 x0.Query.Id, .int .i64 x0.Query.Tenant, .slice A78 x0.Query.Conds.length c79, .slice A82 x0.Query.Out.length c83, .int .i64 x0.Time, .int .i64 x0.Steps, .slice A87 x0.Rows.length c88] [I9, I10, I11, iBox p26 97 K1] (fun W hm => hm) type91 ?_
   refine qn (pk [4]) ?_
   refine QB_done (by kernel_rfl) ?_
   exact QM_cut_normal (A78, c79, A82, c83, A87, c88) sl2 (fun W hm => hm) trivial
  exact QBs_nil
 ·
  rintro ⟨A30, c31, A34, c35, A39, c40⟩ -
  let K2 : List Value := [.int .i64 x0.Query.Id, .int .i64 x0.Query.Tenant, .slice A30 x0.Query.Conds.length c31, .slice A34 x0.Query.Out.length c35, .int .i64 x0.Time, .int .i64 x0.Steps, .slice A39 x0.Rows.length c40]
  let I12 : It := iOwn (tSl tyRow 138) [.slice A39 x0.Rows.length c40] x0.Rows
  let I13 : It := iOwn (tSl tyCond 102) [.slice A30 x0.Query.Conds.length c31] x0.Query.Conds
  let I14 : It := iOwn (tSl tInt 3) [.slice A34 x0.Query.Out.length c35] x0.Query.Out
  show QM 12 _ _ _ .normal [(1, .pointer (some (⟨p25, 0, none⟩ : Addr))), (2, .pointer (some (⟨p26, 0, none⟩ : Addr)))] [iBox p25 97 K2, I12, I13, I14, iBox p26 97 K1]
  refine QM_len (n := 1) rfl ?_
  intro m91 m92
  refine QM_len (n := 2) rfl ?_
  intro m93 m94
  refine QM_len (n := 3) rfl ?_
  intro m95 m96
  refine QM_then (sr ?_)
  refine wv (fun W hm => rv_loadN (cs := K2) underlying97 type97 rfl rfl (hm.boxCells (n := 0) rfl)) ?_
  refine sb 0 K2 [iBox p25 97 K2, I12, I13, I14] (pk [4, 0, 1, 2, 3]) type97 ?_
  refine nt' (CM_ret ?_)
  refine QM_r1 rfl (RR_cell (n := 0) rfl rfl underlying97 type97 rfl) (fun W hm => ⟨K2, ?_, ?_⟩)
  ·first | rw [(show impl_copyFinished_m x0 = x0 from by unfold impl_copyFinished_m; exact rfl)] | rfl
  ·rw [(show impl_copyFinished_m x0 = x0 from by unfold impl_copyFinished_m; exact rfl)]; exact Mem.join (is := [I13, I14, I12]) (js := []) (fun _ _ hs => tyFinished_join (x := x0) hs) (hm.pick [3, 4, 2] (by decide))
theorem impl_copyFinished_eq (x0 : DFinished) : impl_copyFinished_m x0 = x0 := by
 rfl
theorem impl_copyFinished_c2 (w : World) (z0 : List Value) (x0 : DFinished) (r_0 : tyFinished.rd w w.heap.size z0 x0) (s_0 : smFinished 68719476736 x0) :
  Calls Tryz.prog 77 #[.agg z0.toArray] w fun e w' => ∃ v : List Value, e = .returned (.agg v.toArray) ∧ Mem w.heap.size w [iOwn tyFinished v x0] w' := by
 have h := impl_copyFinished_c w z0 x0 r_0 s_0
 rw [impl_copyFinished_eq] at h
 exact h

end Go.Proofs.YtlnblljlkeokjaaGreat
