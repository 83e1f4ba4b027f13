/-
  Contracts of functions, printed by a program of ours.
-/
import Derived.Test.YtmikmbmdibabmaaGreatL8F3
namespace Go.Proofs.YtmikmbmdibabmaaGreat
open Go.RowKit
set_option maxRecDepth 100000
set_option maxHeartbeats 4000000
open _root_.Go.Proofs.Tryz
def impl_IsEngine_b3 (x0 : DEngine) (k189 : Nat) : Bool ⊕ (Unit) :=
 cond (impl_IsCharge_m (gt x0.Ledger k189)) (Sum.inr ()) (Sum.inl false)
def impl_IsEngine_b2 (x0 : DEngine) (k143 : Nat) : Bool ⊕ (Unit) :=
 cond (impl_IsQuery_m ((gt x0.Done k143).Query)) (cond (impl_within_m ((gt x0.Done k143).Time) 0 x0.Store.Now) (cond (impl_within_m ((gt x0.Done k143).Steps) 0 100000) (cond (impl_resultOk_m ((gt x0.Done k143).Rows)) (Sum.inr ()) (Sum.inl false)) (Sum.inl false)) (Sum.inl false)) (Sum.inl false)
def impl_IsEngine_b1 (x0 : DEngine) (k56 : Nat) : Bool ⊕ (Unit) :=
 cond (impl_activeOk_m x0.Store (gt x0.Active k56)) (cond (decide (0 < ((k56 : Nat) : Int))) (cond (decide (((gt x0.Active k56).Query.Id) ≤ ((gt x0.Active (k56 - 1)).Query.Id))) (Sum.inl false) (Sum.inr ())) (Sum.inr ())) (Sum.inl false)
def impl_IsEngine_m (x0 : DEngine) : Bool :=
 cond (impl_IsStore_m x0.Store) (cond (impl_within_m x0.Cursor 0 (IntKind.i64.wrap (((x0.Store.Segments.length : Nat) : Int) - 1))) (cond (impl_isOrder_m x0.Order) (cond (impl_within_m x0.Steps 0 100000) (cond (decide (8 < ((x0.Active.length : Nat) : Int))) false (cond (decide (1000 < ((x0.Done.length : Nat) : Int))) false (cond (decide (1000 < ((x0.Ledger.length : Nat) : Int))) false (Sum.elim id (fun (s1_ : Unit) => Sum.elim id (fun (s2_ : Unit) => Sum.elim id (fun (s : Unit) => true) (rng (R := Bool) (fun k (_ : Unit) => impl_IsEngine_b3 x0 k) (x0.Ledger.length - 0) 0 ())) (rng (R := Bool) (fun k (_ : Unit) => impl_IsEngine_b2 x0 k) (x0.Done.length - 0) 0 ())) (rng (R := Bool) (fun k (_ : Unit) => impl_IsEngine_b1 x0 k) (x0.Active.length - 0) 0 ()))))) false) false) false) false
theorem cb32 : Cb Tryz.prog 32 := ⟨f32, _, func32, rfl, by decide⟩
theorem impl_IsEngine_c (w : World) (z0 : List Value) (x0 : DEngine) (r_0 : tyEngine.rd w w.heap.size z0 x0) (s_0 : smEngine 68719476736 x0) :
  Calls Tryz.prog 32 #[.agg z0.toArray] w fun e w' => e = .returned (.bool (impl_IsEngine_m x0)) ∧ Below w.heap.size w w' := by
 obtain ⟨v1, v3, v5, v7, v9, rfl, r2, r4, r6, r8, r10⟩ := tyEngine_rd r_0
 obtain ⟨m11, A12, c13, rfl, q14, r15⟩ := rdS_op r2
 obtain ⟨m16, A17, c18, rfl, q19, r20⟩ := rdS_op r4
 obtain ⟨m21, A22, c23, rfl, q24, r25⟩ := rdS_op r6
 obtain ⟨m26, A27, c28, rfl, q29, r30⟩ := rdS_op r8
 obtain ⟨m31, A32, c33, rfl, q34, r35⟩ := rdS_op r10
 have l36 : x0.Store.Segments.length ≤ 68719476736 := s_0.1.1
 have l37 : x0.Order.length ≤ 68719476736 := s_0.2.1
 have l38 : x0.Active.length ≤ 68719476736 := s_0.2.2.1.1
 have l39 : x0.Done.length ≤ 68719476736 := s_0.2.2.2.1.1
 have l40 : x0.Ledger.length ≤ 68719476736 := s_0.2.2.2.2.1
 refine ce1 (L := [(0, .agg #[.slice A12 x0.Store.Segments.length c13, .int .i64 x0.Store.Now, .int .i64 x0.Cursor, .slice A17 x0.Order.length c18, .slice A22 x0.Active.length c23, .slice A27 x0.Done.length c28, .slice A32 x0.Ledger.length c33, .int .i64 x0.Steps])]) (N := 128) func32 ?_
 refine sr ?_
 refine WM_box rfl (Wd_none rfl) (by decide) (fun p41 => ?_)
 refine wa (nt' (CM_seq (sr ?_)))
 refine wv (vf underlying47 rfl type42) ?_
 let K7 : List Value := [.slice A12 x0.Store.Segments.length c13, .int .i64 x0.Store.Now]
 refine wv (fun W hm => rv_loadN (cs := K7) underlying42 type42 rfl rfl (hm.boxPart (n := 0) rfl rfl)) ?_
 refine wcv (cl_fn cb117 rfl) (fun W hm => impl_IsStore_c W _ x0.Store (tyStore_mk (x := x0.Store) (hm.rdS0 r15)) s_0.1) ?_
 refine wv vnot ?_
 refine wm ?_
 rcases Bool.eq_false_or_eq_true (impl_IsStore_m x0.Store) with g43 | g43
 ·
  refine wg (vf underlying47 rfl type3) (nt g43) ?_
  refine wg (vl 0 2 underlying3) (nt g43) ?_
  refine wg (vf underlying47 rfl type42) (nt g43) ?_
  refine wg (fun W hm => rv_fieldA (o := 0) underlying42 rfl type40 (by decide) rfl rfl) (nt g43) ?_
  refine wg (vl 0 0 underlying40) (nt g43) ?_
  refine wg (vlen underlying40) (nt g43) ?_
  refine wg (fun W hm => rv_sub rfl rfl) (nt g43) ?_
  refine WM_callV (cl_fn cb118 rfl) (fun W hm => impl_within_c W x0.Cursor 0 (IntKind.i64.wrap (((x0.Store.Segments.length : Nat) : Int) - 1))) (Wd_some rfl rfl rfl (bw (nt g43) rfl)) (by decide) ?_
  refine wg vnot (nt g43) ?_
  refine wv (vpF (nt g43)) ?_
  refine wm ?_
  rcases Bool.eq_false_or_eq_true (impl_within_m x0.Cursor 0 (IntKind.i64.wrap (((x0.Store.Segments.length : Nat) : Int) - 1))) with g45 | g45
  ·
   have hw := impl_within_fact g45
   rw [wrap_pred (by omega)] at hw
   refine wg (vf underlying47 rfl type25) (nt g45) ?_
   refine wg (vl 0 3 underlying25) (nt g45) ?_
   refine WM_callV (cl_fn cb119 rfl) (fun W hm => impl_isOrder_c W _ x0.Order (hm.rdS0 r20)) (Wd_some rfl rfl rfl (bw (nt g45) rfl)) (by decide) ?_
   refine wg vnot (nt g45) ?_
   refine wv (vpF (nt g45)) ?_
   refine wm ?_
   rcases Bool.eq_false_or_eq_true (impl_isOrder_m x0.Order) with g47 | g47
   ·
    refine wg (vf underlying47 rfl type3) (nt g47) ?_
    refine wg (vl 0 7 underlying3) (nt g47) ?_
    refine WM_callV (cl_fn cb118 rfl) (fun W hm => impl_within_c W x0.Steps 0 100000) (Wd_some rfl rfl rfl (bw (nt g47) rfl)) (by decide) ?_
    refine wg vnot (nt g47) ?_
    refine wv (vpF (nt g47)) ?_
    refine nt' ?_
    rcases Bool.eq_false_or_eq_true (impl_within_m x0.Steps 0 100000) with g49 | g49
    ·
     have hw := impl_within_fact g49
     refine CM_condF rfl (nt g49) ?_
     refine CM_skip (QM_then (CM_seq (sr ?_)))
     refine wv (vf underlying47 rfl type43) ?_
     refine wv (vl 0 4 underlying43) ?_
     refine wv (vlen underlying43) ?_
     refine wv (fun W hm => rv_gtr rfl rfl) ?_
     refine wm ?_
     by_cases h50 : 8 < ((x0.Active.length : Nat) : Int)
     ·have g51 := decide_eq_true h50
      refine ws g51 ?_
      refine ws g51 ?_
      refine ws g51 ?_
      refine ws g51 ?_
      refine wv (vpT g51) ?_
      refine wm ?_
      refine wk ?_
      refine wk ?_
      refine wk ?_
      refine wk ?_
      refine wv (vpT rfl) ?_
      refine nt' ?_
      refine CM_condT rfl rfl ?_
      refine sr (wa (nt' (CM_ret (QM_then_ret ?_))))
      exact rtb (h := cond_t g43 (cond_t g45 (cond_t g47 (cond_t g49 (cond_t g51 (rfl))))))
     ·have g51 := decide_eq_false h50
      refine wg (vf underlying47 rfl type44) g51 ?_
      refine wg (vl 0 5 underlying44) g51 ?_
      refine wg (vlen underlying44) g51 ?_
      refine wg (fun W hm => rv_gtr rfl rfl) g51 ?_
      refine wv (vpF g51) ?_
      refine wm ?_
      by_cases h52 : 1000 < ((x0.Done.length : Nat) : Int)
      ·have g53 := decide_eq_true h52
       refine ws g53 ?_
       refine ws g53 ?_
       refine ws g53 ?_
       refine ws g53 ?_
       refine wv (vpT g53) ?_
       refine nt' ?_
       refine CM_condT rfl rfl ?_
       refine sr (wa (nt' (CM_ret (QM_then_ret ?_))))
       exact rtb (h := cond_t g43 (cond_t g45 (cond_t g47 (cond_t g49 (cond_f g51 (cond_t g53 (rfl)))))))
      ·have g53 := decide_eq_false h52
       refine wg (vf underlying47 rfl type45) g53 ?_
       refine wg (vl 0 6 underlying45) g53 ?_
       refine wg (vlen underlying45) g53 ?_
       refine wg (fun W hm => rv_gtr rfl rfl) g53 ?_
       refine wv (vpF g53) ?_
       refine nt' ?_
       by_cases h54 : 1000 < ((x0.Ledger.length : Nat) : Int)
       ·have g55 := decide_eq_true h54
        refine CM_condT rfl g55 ?_
        refine sr (wa (nt' (CM_ret (QM_then_ret ?_))))
        exact rtb (h := cond_t g43 (cond_t g45 (cond_t g47 (cond_t g49 (cond_f g51 (cond_f g53 (cond_t g55 (rfl))))))))
       ·have g55 := decide_eq_false h54
        refine CM_condF rfl g55 ?_
        refine CM_skip (QM_then (CM_seq (sr ?_)))
        refine wv (vf underlying47 rfl type43) ?_
        refine wv (vl 0 4 underlying43) ?_
        refine wv (vlen underlying43) ?_
        refine wm (nt' (CM_block ?_))
        let F1 := fun k (_ : Unit) => impl_IsEngine_b1 x0 k
        let R4 := rng (R := Bool) F1
        let K8 : List Value := [.slice A12 x0.Store.Segments.length c13, .int .i64 x0.Store.Now, .int .i64 x0.Cursor, .slice A17 x0.Order.length c18, .slice A22 x0.Active.length c23, .slice A27 x0.Done.length c28, .slice A32 x0.Ledger.length c33, .int .i64 x0.Steps]
        refine CM_loop (σ := Nat × (Unit) × (Unit)) (fun s => [(1, .pointer (some (⟨p41, 0, none⟩ : Addr))), (53, .slice A22 x0.Active.length c23), (54, .int .i64 ((x0.Active.length : Nat) : Int)), (55, .int .i64 ((s.1 : Nat) : Int))]) (fun s => [iBox p41 47 K8]) (fun s => s.1 ≤ x0.Active.length ∧ R4 (x0.Active.length - s.1) s.1 s.2.1 = R4 (x0.Active.length - 0) 0 ()) (fun s => x0.Active.length - s.1) (0, (), ()) sl4 (fun W hm => hm) ⟨(by omega), rfl⟩ ?_
        rintro ⟨k56, ⟨⟩, ⟨⟩⟩ H59
        obtain ⟨hk57, hF58⟩ : k56 ≤ x0.Active.length ∧ R4 (x0.Active.length - k56) k56 () = R4 (x0.Active.length - 0) 0 () := H59
        show CM Tryz.prog 128 _ _ _ _ [(1, .pointer (some (⟨p41, 0, none⟩ : Addr))), (53, .slice A22 x0.Active.length c23), (54, .int .i64 ((x0.Active.length : Nat) : Int)), (55, .int .i64 ((k56 : Nat) : Int))] [iBox p41 47 K8]
        refine sr ?_
        refine wv vlss ?_
        refine nt' (CM_seq ?_)
        by_cases hl60 : k56 < x0.Active.length
        ·have g61 := dlT hl60
         refine CM_condT rfl g61 ?_
         refine CM_skip (QM_then (CM_seq (CM_block (sr (wm ?_)))))
         obtain ⟨a62, rfl, hb63, he64⟩ := q24 (by omega)
         refine wv (vix 10 k56 underlying43 type64) ?_
         obtain ⟨_, e74, hc65⟩ := he64 k56 _ (gt_some (show k56 < x0.Active.length from by omega))
         obtain ⟨v66, v68, v70, v72, rfl, r67, r69, r71, r73⟩ := tyActive_rd e74
         have l75 : ((gt x0.Active k56).Query.Conds).length ≤ 68719476736 := (s_0.2.2.1.2 _ (gt_mem (show k56 < x0.Active.length from by omega))).1.1
         have l76 : ((gt x0.Active k56).Query.Out).length ≤ 68719476736 := (s_0.2.2.1.2 _ (gt_mem (show k56 < x0.Active.length from by omega))).1.2
         have l77 : ((gt x0.Active k56).Todo).length ≤ 68719476736 := (s_0.2.2.1.2 _ (gt_mem (show k56 < x0.Active.length from by omega))).2.1
         have l78 : ((gt x0.Active k56).Rows).length ≤ 68719476736 := (s_0.2.2.1.2 _ (gt_mem (show k56 < x0.Active.length from by omega))).2.2.1
         obtain ⟨m79, A80, c81, rfl, q82, r83⟩ := rdS_op r67
         obtain ⟨m84, A85, c86, rfl, q87, r88⟩ := rdS_op r69
         obtain ⟨m89, A90, c91, rfl, q92, r93⟩ := rdS_op r71
         obtain ⟨m94, A95, c96, rfl, q97, r98⟩ := rdS_op r73
         let K9 : List Value := [.int .i64 ((gt x0.Active k56).Query.Id), .int .i64 ((gt x0.Active k56).Query.Tenant), .slice A80 ((gt x0.Active k56).Query.Conds).length c81, .slice A85 ((gt x0.Active k56).Query.Out).length c86, .int .i64 ((gt x0.Active k56).Time), .slice A90 ((gt x0.Active k56).Todo).length c91, .int .i64 ((gt x0.Active k56).Age), .int .i64 ((gt x0.Active k56).Sent), .int .i64 ((gt x0.Active k56).Cap), .slice A95 ((gt x0.Active k56).Rows).length c96]
         refine wv (fun W hm => rv_loadN (cs := K9) underlying64 type64 rfl rfl (hm.elCells (show (a62.add (k56 * 10)).block < w.heap.size from by rw [add_block]; exact hb63.1) hc65)) ?_
         refine WM_alloc type64 rfl (Wd_none rfl) (by decide) (fun p99 => ?_)
         refine wa ?_
         refine sb 0 K9 [iBox p41 47 [.slice A12 x0.Store.Segments.length c13, .int .i64 x0.Store.Now, .int .i64 x0.Cursor, .slice A17 x0.Order.length c18, .slice (some a62) x0.Active.length c23, .slice A27 x0.Done.length c28, .slice A32 x0.Ledger.length c33, .int .i64 x0.Steps]] (fun W hm => hm) type64 ?_
         refine nt' (CM_seq ?_)
         refine CM_regionD (by kernel_rfl) (by kernel_rfl) ?_
         refine qv (vf underlying47 rfl type42) ?_
         refine qv (fun W hm => rv_loadN (cs := K7) underlying42 type42 rfl rfl (hm.boxPart (n := 1) rfl rfl)) ?_
         refine qv (fun W hm => rv_loadN (cs := K9) underlying64 type64 rfl rfl (hm.boxCells (n := 0) rfl)) ?_
         refine QR_callV (cl_fn cb120 rfl) (fun W hm => impl_activeOk_c W _ x0.Store _ (gt x0.Active k56) (tyStore_mk (x := x0.Store) (hm.rdS0 r15)) (tyActive_mk (x := (gt x0.Active k56)) (hm.rdS0 r83) (hm.rdS0 r88) (hm.rdS0 r93) (hm.rdS0 r98))) (Wd_none rfl) (by decide) ?_
         refine qv vnot ?_
         refine qm ?_
         rcases Bool.eq_false_or_eq_true (impl_activeOk_m x0.Store (gt x0.Active k56)) with g101 | g101
         ·
          refine qg vmv (nt g101) ?_
          refine qg (fun W hm => rv_gtr rfl rfl) (nt g101) ?_
          refine qg vmv (nt g101) ?_
          by_cases h102 : 0 < ((k56 : Nat) : Int)
          ·have g103 := decide_eq_true h102
           refine qg (vf underlying47 rfl type43) g103 ?_
           refine qg (vl 1 4 underlying43) g103 ?_
           refine qg vmv g103 ?_
           refine qg (fun W hm => rv_subN (p := k56) (q := 1) rfl rfl (by omega) (by omega)) g103 ?_
           refine qg (fun W hm => rv_index (sz := 10) (k := k56 - 1) underlying43 type64 rfl rfl rfl (by omega)) g103 ?_
           refine qg (vf underlying64 rfl type34) g103 ?_
           refine qg (fun W hm => rv_fieldA (o := 0) underlying34 rfl type3 (by decide) rfl rfl) g103 ?_
           obtain ⟨_, e113, hc104⟩ := he64 (k56 - 1) _ (gt_some (show (k56 - 1) < x0.Active.length from by omega))
           obtain ⟨v105, v107, v109, v111, rfl, r106, r108, r110, r112⟩ := tyActive_rd e113
           have l114 : ((gt x0.Active (k56 - 1)).Query.Conds).length ≤ 68719476736 := (s_0.2.2.1.2 _ (gt_mem (show (k56 - 1) < x0.Active.length from by omega))).1.1
           have l115 : ((gt x0.Active (k56 - 1)).Query.Out).length ≤ 68719476736 := (s_0.2.2.1.2 _ (gt_mem (show (k56 - 1) < x0.Active.length from by omega))).1.2
           have l116 : ((gt x0.Active (k56 - 1)).Todo).length ≤ 68719476736 := (s_0.2.2.1.2 _ (gt_mem (show (k56 - 1) < x0.Active.length from by omega))).2.1
           have l117 : ((gt x0.Active (k56 - 1)).Rows).length ≤ 68719476736 := (s_0.2.2.1.2 _ (gt_mem (show (k56 - 1) < x0.Active.length from by omega))).2.2.1
           obtain ⟨m118, A119, c120, rfl, q121, r122⟩ := rdS_op r106
           obtain ⟨m123, A124, c125, rfl, q126, r127⟩ := rdS_op r108
           obtain ⟨m128, A129, c130, rfl, q131, r132⟩ := rdS_op r110
           obtain ⟨m133, A134, c135, rfl, q136, r137⟩ := rdS_op r112
           refine qg (fun W hm => rv_load underlying3 rfl rfl ((hm.cell0 (show ((a62.add ((k56 - 1) * 10)).add 0).block < w.heap.size from by rw [add_block, add_block]; exact hb63.1)).trans (hc104 0 _ rfl))) g103 ?_
           refine qg (vf underlying64 rfl type34) g103 ?_
           refine qg (fun W hm => rv_fieldA (o := 0) underlying34 rfl type3 (by decide) rfl rfl) g103 ?_
           refine qg (vl 0 0 underlying3) g103 ?_
           refine qg (fun W hm => rv_geq rfl rfl) g103 ?_
           refine qg (vpT g103) (nt g101) ?_
           refine qv (vpF (nt g101)) ?_
           refine nq' ?_
           by_cases h138 : ((gt x0.Active k56).Query.Id) ≤ ((gt x0.Active (k56 - 1)).Query.Id)
           ·have g139 := decide_eq_true h138
            refine CM_condT rfl g139 ?_
            refine sr (wa (nt' (CM_ret (QM_block_ret (QM_then_ret (QM_then_ret (QM_block_ret (QM_then_ret ?_))))))))
            exact rtb (h := cond_t g43 (cond_t g45 (cond_t g47 (cond_t g49 (cond_f g51 (cond_f g53 (cond_f g55 (fin_inl (rng_ret (body := F1) (k := k56) (s := ()) (show k56 < x0.Active.length from by omega) (cond_t g101 (cond_t g103 (cond_t g139 (rfl)))) hF58) rfl))))))))
           ·have g139 := decide_eq_false h138
            refine CM_condF rfl g139 ?_
            refine CM_skip (QM_block_normal (QM_then (CM_region ?_)))
            refine wv (vadN k56 1 (by omega)) ?_
            refine wm (WM_nil ?_)
            have hn140 := rng_next (R := Bool) (body := F1) (k := k56) (s := ()) (s' := ()) (show k56 < x0.Active.length from by omega) (cond_t g101 (cond_t g103 (cond_f g139 (rfl)))) hF58
            exact QM_round (k56 + 1, (), ()) sl4 (pk [1]) ⟨(by omega), hn140⟩ (rl (by omega))
          ·have g103 := decide_eq_false h102
           refine qs g103 ?_
           refine qs g103 ?_
           refine qs g103 ?_
           refine qs g103 ?_
           refine qs g103 ?_
           refine qs g103 ?_
           refine qs g103 ?_
           refine qs g103 ?_
           refine qs g103 ?_
           refine qs g103 ?_
           refine qs g103 ?_
           refine qs g103 ?_
           refine qg (vpF g103) (nt g101) ?_
           refine qv (vpF (nt g101)) ?_
           refine nq' ?_
           refine CM_condF rfl rfl ?_
           refine CM_skip (QM_block_normal (QM_then (CM_region ?_)))
           refine wv (vadN k56 1 (by omega)) ?_
           refine wm (WM_nil ?_)
           have hn141 := rng_next (R := Bool) (body := F1) (k := k56) (s := ()) (s' := ()) (show k56 < x0.Active.length from by omega) (cond_t g101 (cond_f g103 (rfl))) hF58
           exact QM_round (k56 + 1, (), ()) sl4 (pk [1]) ⟨(by omega), hn141⟩ (rl (by omega))
         ·
          refine qs (nf g101) ?_
          refine qs (nf g101) ?_
          refine qs (nf g101) ?_
          refine qu ?_
          refine qu ?_
          refine qu ?_
          refine qu ?_
          refine qu ?_
          refine qu ?_
          refine qu ?_
          refine qu ?_
          refine qu ?_
          refine qu ?_
          refine qu ?_
          refine qu ?_
          refine qs (nf g101) ?_
          refine qv (vpT (nf g101)) ?_
          refine nq' ?_
          refine CM_condT rfl rfl ?_
          refine sr (wa (nt' (CM_ret (QM_block_ret (QM_then_ret (QM_then_ret (QM_block_ret (QM_then_ret ?_))))))))
          exact rtb (h := cond_t g43 (cond_t g45 (cond_t g47 (cond_t g49 (cond_f g51 (cond_f g53 (cond_f g55 (fin_inl (rng_ret (body := F1) (k := k56) (s := ()) (show k56 < x0.Active.length from by omega) (cond_f g101 (rfl)) hF58) rfl))))))))
        ·have g61 := dlF hl60
         refine CM_condF rfl g61 ?_
         refine CM_exit (QM_then_exit (QM_then_exit ?_))
         have hE142 : R4 (x0.Active.length - 0) 0 () = Sum.inr () := rng_end hl60 hF58
         refine QM_block_hit (QM_then (CM_seq (sr ?_)))
         refine wv (vf underlying47 rfl type44) ?_
         refine wv (vl 0 5 underlying44) ?_
         refine wv (vlen underlying44) ?_
         refine wm (nt' (CM_block ?_))
         let F2 := fun k (_ : Unit) => impl_IsEngine_b2 x0 k
         let R5 := rng (R := Bool) F2
         refine CM_loop (σ := Nat × (Unit) × (Unit)) (fun s => [(1, .pointer (some (⟨p41, 0, none⟩ : Addr))), (85, .slice A27 x0.Done.length c28), (86, .int .i64 ((x0.Done.length : Nat) : Int)), (87, .int .i64 ((s.1 : Nat) : Int))]) (fun s => [iBox p41 47 K8]) (fun s => s.1 ≤ x0.Done.length ∧ R5 (x0.Done.length - s.1) s.1 s.2.1 = R5 (x0.Done.length - 0) 0 ()) (fun s => x0.Done.length - s.1) (0, (), ()) sl4 (fun W hm => hm) ⟨(by omega), rfl⟩ ?_
         rintro ⟨k143, ⟨⟩, ⟨⟩⟩ H146
         obtain ⟨hk144, hF145⟩ : k143 ≤ x0.Done.length ∧ R5 (x0.Done.length - k143) k143 () = R5 (x0.Done.length - 0) 0 () := H146
         show CM Tryz.prog 128 _ _ _ _ [(1, .pointer (some (⟨p41, 0, none⟩ : Addr))), (85, .slice A27 x0.Done.length c28), (86, .int .i64 ((x0.Done.length : Nat) : Int)), (87, .int .i64 ((k143 : Nat) : Int))] [iBox p41 47 K8]
         refine sr ?_
         refine wv vlss ?_
         refine nt' (CM_seq ?_)
         by_cases hl147 : k143 < x0.Done.length
         ·have g148 := dlT hl147
          refine CM_condT rfl g148 ?_
          refine CM_skip (QM_then (CM_seq (CM_block (sr ?_))))
          obtain ⟨a149, rfl, hb150, he151⟩ := q29 (by omega)
          refine wv (vix 7 k143 underlying44 type37) ?_
          obtain ⟨_, e159, hc152⟩ := he151 k143 _ (gt_some (show k143 < x0.Done.length from by omega))
          obtain ⟨v153, v155, v157, rfl, r154, r156, r158⟩ := tyFinished_rd e159
          have l160 : ((gt x0.Done k143).Query.Conds).length ≤ 68719476736 := (s_0.2.2.2.1.2 _ (gt_mem (show k143 < x0.Done.length from by omega))).1.1
          have l161 : ((gt x0.Done k143).Query.Out).length ≤ 68719476736 := (s_0.2.2.2.1.2 _ (gt_mem (show k143 < x0.Done.length from by omega))).1.2
          have l162 : ((gt x0.Done k143).Rows).length ≤ 68719476736 := (s_0.2.2.2.1.2 _ (gt_mem (show k143 < x0.Done.length from by omega))).2.1
          obtain ⟨m163, A164, c165, rfl, q166, r167⟩ := rdS_op r154
          obtain ⟨m168, A169, c170, rfl, q171, r172⟩ := rdS_op r156
          obtain ⟨m173, A174, c175, rfl, q176, r177⟩ := rdS_op r158
          let K10 : List Value := [.int .i64 ((gt x0.Done k143).Query.Id), .int .i64 ((gt x0.Done k143).Query.Tenant), .slice A164 ((gt x0.Done k143).Query.Conds).length c165, .slice A169 ((gt x0.Done k143).Query.Out).length c170, .int .i64 ((gt x0.Done k143).Time), .int .i64 ((gt x0.Done k143).Steps), .slice A174 ((gt x0.Done k143).Rows).length c175]
          refine wv (fun W hm => rv_loadN (cs := K10) underlying37 type37 rfl rfl (hm.elCells (show (a149.add (k143 * 7)).block < w.heap.size from by rw [add_block]; exact hb150.1) hc152)) ?_
          refine WM_alloc type37 rfl (Wd_none rfl) (by decide) (fun p178 => ?_)
          refine sb 0 K10 [iBox p41 47 [.slice A12 x0.Store.Segments.length c13, .int .i64 x0.Store.Now, .int .i64 x0.Cursor, .slice A17 x0.Order.length c18, .slice A22 x0.Active.length c23, .slice (some a149) x0.Done.length c28, .slice A32 x0.Ledger.length c33, .int .i64 x0.Steps]] (fun W hm => hm) type37 ?_
          refine nt' (sr ?_)
          refine wv (vf underlying37 rfl type34) ?_
          refine wv (fun W hm => rv_loadN (cs := [.int .i64 ((gt x0.Done k143).Query.Id), .int .i64 ((gt x0.Done k143).Query.Tenant), .slice A164 ((gt x0.Done k143).Query.Conds).length c165, .slice A169 ((gt x0.Done k143).Query.Out).length c170]) underlying34 type34 rfl rfl (hm.boxPart (n := 0) rfl rfl)) ?_
          refine wcv (cl_fn cb121 rfl) (fun W hm => impl_IsQuery_c W _ ((gt x0.Done k143).Query) (tyQuery_mk (x := ((gt x0.Done k143).Query)) (hm.rdS0 r167) (hm.rdS0 r172))) ?_
          refine wv vnot ?_
          refine wm ?_
          rcases Bool.eq_false_or_eq_true (impl_IsQuery_m ((gt x0.Done k143).Query)) with g180 | g180
          ·
           refine wg (vf underlying37 rfl type3) (nt g180) ?_
           refine wg (vl 0 4 underlying3) (nt g180) ?_
           refine wg (vf underlying47 rfl type42) (nt g180) ?_
           refine wg (fun W hm => rv_fieldA (o := 1) underlying42 rfl type3 (by decide) rfl rfl) (nt g180) ?_
           refine wg (vl 1 1 underlying3) (nt g180) ?_
           refine WM_callV (cl_fn cb118 rfl) (fun W hm => impl_within_c W ((gt x0.Done k143).Time) 0 x0.Store.Now) (Wd_some rfl rfl rfl (bw (nt g180) rfl)) (by decide) ?_
           refine wg vnot (nt g180) ?_
           refine wv (vpF (nt g180)) ?_
           refine wm ?_
           rcases Bool.eq_false_or_eq_true (impl_within_m ((gt x0.Done k143).Time) 0 x0.Store.Now) with g182 | g182
           ·
            have hw := impl_within_fact g182
            refine wg (vf underlying37 rfl type3) (nt g182) ?_
            refine wg (vl 0 5 underlying3) (nt g182) ?_
            refine WM_callV (cl_fn cb118 rfl) (fun W hm => impl_within_c W ((gt x0.Done k143).Steps) 0 100000) (Wd_some rfl rfl rfl (bw (nt g182) rfl)) (by decide) ?_
            refine wg vnot (nt g182) ?_
            refine wv (vpF (nt g182)) ?_
            refine wm ?_
            rcases Bool.eq_false_or_eq_true (impl_within_m ((gt x0.Done k143).Steps) 0 100000) with g184 | g184
            ·
             have hw := impl_within_fact g184
             refine wg (vf underlying37 rfl type35) (nt g184) ?_
             refine wg (vl 0 6 underlying35) (nt g184) ?_
             refine WM_callV (cl_fn cb122 rfl) (fun W hm => impl_resultOk_c W _ ((gt x0.Done k143).Rows) (hm.rdS0 r177)) (Wd_some rfl rfl rfl (bw (nt g184) rfl)) (by decide) ?_
             refine wg vnot (nt g184) ?_
             refine wv (vpF (nt g184)) ?_
             refine nt' ?_
             rcases Bool.eq_false_or_eq_true (impl_resultOk_m ((gt x0.Done k143).Rows)) with g186 | g186
             ·
              refine CM_condF rfl (nt g186) ?_
              refine CM_skip (QM_block_normal (QM_then (CM_region ?_)))
              refine wv (vadN k143 1 (by omega)) ?_
              refine wm (WM_nil ?_)
              have hn187 := rng_next (R := Bool) (body := F2) (k := k143) (s := ()) (s' := ()) (show k143 < x0.Done.length from by omega) (cond_t g180 (cond_t g182 (cond_t g184 (cond_t g186 (rfl))))) hF145
              exact QM_round (k143 + 1, (), ()) sl4 (pk [1]) ⟨(by omega), hn187⟩ (rl (by omega))
             ·
              refine CM_condT rfl (nf g186) ?_
              refine sr (wa (nt' (CM_ret (QM_block_ret (QM_then_ret (QM_then_ret (QM_block_ret (QM_then_ret ?_))))))))
              exact rtb (h := cond_t g43 (cond_t g45 (cond_t g47 (cond_t g49 (cond_f g51 (cond_f g53 (cond_f g55 (fin_inr hE142 (fin_inl (rng_ret (body := F2) (k := k143) (s := ()) (show k143 < x0.Done.length from by omega) (cond_t g180 (cond_t g182 (cond_t g184 (cond_f g186 (rfl))))) hF145) rfl)))))))))
            ·
             refine ws (nf g184) ?_
             refine ws (nf g184) ?_
             refine ws (nf g184) ?_
             refine ws (nf g184) ?_
             refine wv (vpT (nf g184)) ?_
             refine nt' ?_
             refine CM_condT rfl rfl ?_
             refine sr (wa (nt' (CM_ret (QM_block_ret (QM_then_ret (QM_then_ret (QM_block_ret (QM_then_ret ?_))))))))
             exact rtb (h := cond_t g43 (cond_t g45 (cond_t g47 (cond_t g49 (cond_f g51 (cond_f g53 (cond_f g55 (fin_inr hE142 (fin_inl (rng_ret (body := F2) (k := k143) (s := ()) (show k143 < x0.Done.length from by omega) (cond_t g180 (cond_t g182 (cond_f g184 (rfl)))) hF145) rfl)))))))))
           ·
            refine ws (nf g182) ?_
            refine ws (nf g182) ?_
            refine ws (nf g182) ?_
            refine ws (nf g182) ?_
            refine wv (vpT (nf g182)) ?_
            refine wm ?_
            refine wk ?_
            refine wk ?_
            refine wk ?_
            refine wk ?_
            refine wv (vpT rfl) ?_
            refine nt' ?_
            refine CM_condT rfl rfl ?_
            refine sr (wa (nt' (CM_ret (QM_block_ret (QM_then_ret (QM_then_ret (QM_block_ret (QM_then_ret ?_))))))))
            exact rtb (h := cond_t g43 (cond_t g45 (cond_t g47 (cond_t g49 (cond_f g51 (cond_f g53 (cond_f g55 (fin_inr hE142 (fin_inl (rng_ret (body := F2) (k := k143) (s := ()) (show k143 < x0.Done.length from by omega) (cond_t g180 (cond_f g182 (rfl))) hF145) rfl)))))))))
          ·
           refine ws (nf g180) ?_
           refine ws (nf g180) ?_
           refine ws (nf g180) ?_
           refine ws (nf g180) ?_
           refine ws (nf g180) ?_
           refine ws (nf g180) ?_
           refine ws (nf g180) ?_
           refine wv (vpT (nf g180)) ?_
           refine wm ?_
           refine wk ?_
           refine wk ?_
           refine wk ?_
           refine wk ?_
           refine wv (vpT rfl) ?_
           refine wm ?_
           refine wk ?_
           refine wk ?_
           refine wk ?_
           refine wk ?_
           refine wv (vpT rfl) ?_
           refine nt' ?_
           refine CM_condT rfl rfl ?_
           refine sr (wa (nt' (CM_ret (QM_block_ret (QM_then_ret (QM_then_ret (QM_block_ret (QM_then_ret ?_))))))))
           exact rtb (h := cond_t g43 (cond_t g45 (cond_t g47 (cond_t g49 (cond_f g51 (cond_f g53 (cond_f g55 (fin_inr hE142 (fin_inl (rng_ret (body := F2) (k := k143) (s := ()) (show k143 < x0.Done.length from by omega) (cond_f g180 (rfl)) hF145) rfl)))))))))
         ·have g148 := dlF hl147
          refine CM_condF rfl g148 ?_
          refine CM_exit (QM_then_exit (QM_then_exit ?_))
          have hE188 : R5 (x0.Done.length - 0) 0 () = Sum.inr () := rng_end hl147 hF145
          refine QM_block_hit (QM_then (CM_seq (sr ?_)))
          refine wv (vf underlying47 rfl type45) ?_
          refine wv (vl 0 6 underlying45) ?_
          refine wv (vlen underlying45) ?_
          refine wm (nt' (CM_block ?_))
          let F3 := fun k (_ : Unit) => impl_IsEngine_b3 x0 k
          let R6 := rng (R := Bool) F3
          refine CM_loop (σ := Nat × (Unit) × (Unit)) (fun s => [(118, .slice A32 x0.Ledger.length c33), (119, .int .i64 ((x0.Ledger.length : Nat) : Int)), (120, .int .i64 ((s.1 : Nat) : Int))]) (fun s => [iBox p41 47 K8]) (fun s => s.1 ≤ x0.Ledger.length ∧ R6 (x0.Ledger.length - s.1) s.1 s.2.1 = R6 (x0.Ledger.length - 0) 0 ()) (fun s => x0.Ledger.length - s.1) (0, (), ()) sl3 (fun W hm => hm) ⟨(by omega), rfl⟩ ?_
          rintro ⟨k189, ⟨⟩, ⟨⟩⟩ H192
          obtain ⟨hk190, hF191⟩ : k189 ≤ x0.Ledger.length ∧ R6 (x0.Ledger.length - k189) k189 () = R6 (x0.Ledger.length - 0) 0 () := H192
          show CM Tryz.prog 128 _ _ _ _ [(118, .slice A32 x0.Ledger.length c33), (119, .int .i64 ((x0.Ledger.length : Nat) : Int)), (120, .int .i64 ((k189 : Nat) : Int))] [iBox p41 47 K8]
          refine sr ?_
          refine wv vlss ?_
          refine nt' (CM_seq ?_)
          by_cases hl193 : k189 < x0.Ledger.length
          ·have g194 := dlT hl193
           refine CM_condT rfl g194 ?_
           refine CM_skip (QM_then (CM_seq (CM_block (sr ?_))))
           obtain ⟨a195, rfl, hb196, he197⟩ := q34 (by omega)
           refine wv (vix 5 k189 underlying45 type133) ?_
           obtain ⟨_, e205, hc198⟩ := he197 k189 _ (gt_some (show k189 < x0.Ledger.length from by omega))
           obtain ⟨v199, v201, v203, rfl, r200, r202, r204⟩ := tyCharge_rd e205
           have l206 : ((gt x0.Ledger k189).Ids).length ≤ 68719476736 := (s_0.2.2.2.2.2 _ (gt_mem (show k189 < x0.Ledger.length from by omega))).1
           have l207 : ((gt x0.Ledger k189).Tenants).length ≤ 68719476736 := (s_0.2.2.2.2.2 _ (gt_mem (show k189 < x0.Ledger.length from by omega))).2.1
           have l208 : ((gt x0.Ledger k189).Rows).length ≤ 68719476736 := (s_0.2.2.2.2.2 _ (gt_mem (show k189 < x0.Ledger.length from by omega))).2.2
           obtain ⟨m209, A210, c211, rfl, q212, r213⟩ := rdS_op r200
           obtain ⟨m214, A215, c216, rfl, q217, r218⟩ := rdS_op r202
           obtain ⟨m219, A220, c221, rfl, q222, r223⟩ := rdS_op r204
           let K11 : List Value := [.int .i64 ((gt x0.Ledger k189).Segment), .int .i64 ((gt x0.Ledger k189).Base), .slice A210 ((gt x0.Ledger k189).Ids).length c211, .slice A215 ((gt x0.Ledger k189).Tenants).length c216, .slice A220 ((gt x0.Ledger k189).Rows).length c221]
           refine wv (fun W hm => rv_loadN (cs := K11) underlying133 type133 rfl rfl (hm.elCells (show (a195.add (k189 * 5)).block < w.heap.size from by rw [add_block]; exact hb196.1) hc198)) ?_
           refine WM_alloc type133 rfl (Wd_none rfl) (by decide) (fun p224 => ?_)
           refine sb 0 K11 [iBox p41 47 [.slice A12 x0.Store.Segments.length c13, .int .i64 x0.Store.Now, .int .i64 x0.Cursor, .slice A17 x0.Order.length c18, .slice A22 x0.Active.length c23, .slice A27 x0.Done.length c28, .slice (some a195) x0.Ledger.length c33, .int .i64 x0.Steps]] (fun W hm => hm) type133 ?_
           refine nt' (sr ?_)
           refine wv (fun W hm => rv_loadN (cs := K11) underlying133 type133 rfl rfl (hm.boxCells (n := 0) rfl)) ?_
           refine wcv (cl_fn cb123 rfl) (fun W hm => impl_IsCharge_c W _ (gt x0.Ledger k189) (tyCharge_mk (x := (gt x0.Ledger k189)) (hm.rdS0 r213) (hm.rdS0 r218) (hm.rdS0 r223))) ?_
           refine wv vnot ?_
           refine nt' ?_
           rcases Bool.eq_false_or_eq_true (impl_IsCharge_m (gt x0.Ledger k189)) with g226 | g226
           ·
            refine CM_condF rfl (nt g226) ?_
            refine CM_skip (QM_block_normal (QM_then (CM_region ?_)))
            refine wv (vadN k189 1 (by omega)) ?_
            refine wm (WM_nil ?_)
            have hn227 := rng_next (R := Bool) (body := F3) (k := k189) (s := ()) (s' := ()) (show k189 < x0.Ledger.length from by omega) (cond_t g226 (rfl)) hF191
            exact QM_round (k189 + 1, (), ()) sl3 (pk [1]) ⟨(by omega), hn227⟩ (rl (by omega))
           ·
            refine CM_condT rfl (nf g226) ?_
            refine sr (wa (nt' (CM_ret (QM_block_ret (QM_then_ret (QM_then_ret (QM_block_ret (QM_then_ret ?_))))))))
            exact rtb (h := cond_t g43 (cond_t g45 (cond_t g47 (cond_t g49 (cond_f g51 (cond_f g53 (cond_f g55 (fin_inr hE142 (fin_inr hE188 (fin_inl (rng_ret (body := F3) (k := k189) (s := ()) (show k189 < x0.Ledger.length from by omega) (cond_f g226 (rfl)) hF191) rfl))))))))))
          ·have g194 := dlF hl193
           refine CM_condF rfl g194 ?_
           refine CM_exit (QM_then_exit (QM_then_exit ?_))
           have hE228 : R6 (x0.Ledger.length - 0) 0 () = Sum.inr () := rng_end hl193 hF191
           refine QM_block_hit (QM_then (sr (wa (nt' (CM_ret ?_)))))
           exact rtb (h := cond_t g43 (cond_t g45 (cond_t g47 (cond_t g49 (cond_f g51 (cond_f g53 (cond_f g55 (fin_inr hE142 (fin_inr hE188 (fin_inr hE228 (rfl)))))))))))
    ·
     refine CM_condT rfl (nf g49) ?_
     refine sr (wa (nt' (CM_ret (QM_then_ret ?_))))
     exact rtb (h := cond_t g43 (cond_t g45 (cond_t g47 (cond_f g49 (rfl)))))
   ·
    refine ws (nf g47) ?_
    refine ws (nf g47) ?_
    refine ws (nf g47) ?_
    refine ws (nf g47) ?_
    refine wv (vpT (nf g47)) ?_
    refine nt' ?_
    refine CM_condT rfl rfl ?_
    refine sr (wa (nt' (CM_ret (QM_then_ret ?_))))
    exact rtb (h := cond_t g43 (cond_t g45 (cond_f g47 (rfl))))
  ·
   refine ws (nf g45) ?_
   refine ws (nf g45) ?_
   refine ws (nf g45) ?_
   refine ws (nf g45) ?_
   refine wv (vpT (nf g45)) ?_
   refine wm ?_
   refine wk ?_
   refine wk ?_
   refine wk ?_
   refine wk ?_
   refine wv (vpT rfl) ?_
   refine nt' ?_
   refine CM_condT rfl rfl ?_
   refine sr (wa (nt' (CM_ret (QM_then_ret ?_))))
   exact rtb (h := cond_t g43 (cond_f g45 (rfl)))
 ·
  refine ws (nf g43) ?_
  refine ws (nf g43) ?_
  refine ws (nf g43) ?_
  refine ws (nf g43) ?_
  refine ws (nf g43) ?_
  refine ws (nf g43) ?_
  refine ws (nf g43) ?_
  refine ws (nf g43) ?_
  refine ws (nf g43) ?_
  refine wv (vpT (nf g43)) ?_
  refine wm ?_
  refine wk ?_
  refine wk ?_
  refine wk ?_
  refine wk ?_
  refine wv (vpT rfl) ?_
  refine wm ?_
  refine wk ?_
  refine wk ?_
  refine wk ?_
  refine wk ?_
  refine wv (vpT rfl) ?_
  refine nt' ?_
  refine CM_condT rfl rfl ?_
  refine sr (wa (nt' (CM_ret (QM_then_ret ?_))))
  exact rtb (h := cond_f g43 (rfl))

def impl_isNeeded_b1 (x0 : DVersion) (x1 : (List Int)) (k14 : Nat) : Bool ⊕ (Unit) :=
 cond (impl_IsVisible_m x0 (gt x1 k14)) (Sum.inl true) (Sum.inr ())
def impl_isNeeded_m (x0 : DVersion) (x1 : (List Int)) : Bool :=
 Sum.elim id (fun (s : Unit) => (x0.Died == (-1))) (rng (R := Bool) (fun k (_ : Unit) => impl_isNeeded_b1 x0 x1 k) (x1.length - 0) 0 ())
theorem cb222 : Cb Tryz.prog 222 := ⟨f222, _, func222, rfl, by decide⟩
theorem impl_isNeeded_c (w : World) (z0 : List Value) (x0 : DVersion) (z1 : Value) (x1 : (List Int)) (r_0 : tyVersion.rd w w.heap.size z0 x0) (r_1 : rdS tInt w w.heap.size z1 x1) :
  Calls Tryz.prog 222 #[.agg z0.toArray, z1] w fun e w' => e = .returned (.bool (impl_isNeeded_m x0 x1)) ∧ Below w.heap.size w w' := by
 obtain ⟨v1, rfl, r2⟩ := tyVersion_rd r_0
 obtain ⟨m3, A4, c5, rfl, q6, r7⟩ := rdS_op r2
 obtain ⟨m8, A9, c10, rfl, q11, r12⟩ := rdS_op r_1
 refine ce2 (L := [(0, .agg #[.int .i64 x0.Id, .slice A4 x0.Values.length c5, .int .i64 x0.Born, .int .i64 x0.Died]), (1, .slice A9 x1.length c10)]) (N := 20) func222 ?_
 refine sr ?_
 refine WM_box rfl (Wd_none rfl) (by decide) (fun p13 => ?_)
 refine wa (nt' (CM_seq (sr (wm ?_))))
 refine wv (vlen underlying25) ?_
 refine wm (nt' (CM_block ?_))
 let F1 := fun k (_ : Unit) => impl_isNeeded_b1 x0 x1 k
 let R2 := rng (R := Bool) F1
 let K3 : List Value := [.int .i64 x0.Id, .slice A4 x0.Values.length c5, .int .i64 x0.Born, .int .i64 x0.Died]
 refine CM_loop (σ := Nat × (Unit) × (Unit)) (fun s => [(2, .pointer (some (⟨p13, 0, none⟩ : Addr))), (7, .slice A9 x1.length c10), (8, .int .i64 ((x1.length : Nat) : Int)), (9, .int .i64 ((s.1 : Nat) : Int))]) (fun s => [iBox p13 191 K3]) (fun s => s.1 ≤ x1.length ∧ R2 (x1.length - s.1) s.1 s.2.1 = R2 (x1.length - 0) 0 ()) (fun s => x1.length - s.1) (0, (), ()) sl4 (fun W hm => hm) ⟨(by omega), rfl⟩ ?_
 rintro ⟨k14, ⟨⟩, ⟨⟩⟩ H17
 obtain ⟨hk15, hF16⟩ : k14 ≤ x1.length ∧ R2 (x1.length - k14) k14 () = R2 (x1.length - 0) 0 () := H17
 show CM Tryz.prog 20 _ _ _ _ [(2, .pointer (some (⟨p13, 0, none⟩ : Addr))), (7, .slice A9 x1.length c10), (8, .int .i64 ((x1.length : Nat) : Int)), (9, .int .i64 ((k14 : Nat) : Int))] [iBox p13 191 K3]
 refine sr ?_
 refine wv vlss ?_
 refine nt' (CM_seq ?_)
 by_cases hl18 : k14 < x1.length
 ·have g19 := dlT hl18
  refine CM_condT rfl g19 ?_
  refine CM_skip (QM_then (CM_seq (CM_block (sr ?_))))
  obtain ⟨a20, rfl, hb21, he22⟩ := q11 (by omega)
  refine wv (vix 1 k14 underlying25 type3) ?_
  refine wv (fun W hm => rv_load underlying3 rfl rfl ((hm.cell0 (show (a20.add (k14 * 1)).block < w.heap.size from by rw [add_block]; exact hb21.1)).trans (rdS_int he22 k14 (by omega)))) ?_
  refine wa (nt' (sr ?_))
  refine wv (fun W hm => rv_loadN (cs := K3) underlying191 type191 rfl rfl (hm.boxCells (n := 0) rfl)) ?_
  refine wm ?_
  refine wcv (cl_fn cb176 rfl) (fun W hm => impl_IsVisible_c W _ x0 (gt x1 k14) (tyVersion_mk (x := x0) (hm.rdS0 r7))) ?_
  refine nt' ?_
  rcases Bool.eq_false_or_eq_true (impl_IsVisible_m x0 (gt x1 k14)) with g24 | g24
  ·
   refine CM_condT rfl g24 ?_
   refine sr (wa (nt' (CM_ret (QM_block_ret (QM_then_ret (QM_then_ret (QM_block_ret (QM_then_ret ?_))))))))
   exact rtb (h := fin_inl (rng_ret (body := F1) (k := k14) (s := ()) (show k14 < x1.length from by omega) (cond_t g24 (rfl)) hF16) rfl)
  ·
   refine CM_condF rfl g24 ?_
   refine CM_skip (QM_block_normal (QM_then (CM_region ?_)))
   refine wv (vadN k14 1 (by omega)) ?_
   refine wm (WM_nil ?_)
   have hn25 := rng_next (R := Bool) (body := F1) (k := k14) (s := ()) (s' := ()) (show k14 < x1.length from by omega) (cond_f g24 (rfl)) hF16
   exact QM_round (k14 + 1, (), ()) sl4 (fun W hm => hm) ⟨(by omega), hn25⟩ (rl (by omega))
 ·have g19 := dlF hl18
  refine CM_condF rfl g19 ?_
  refine CM_exit (QM_then_exit (QM_then_exit ?_))
  have hE26 : R2 (x1.length - 0) 0 () = Sum.inr () := rng_end hl18 hF16
  refine QM_block_hit (QM_then (sr ?_))
  refine wv (vf underlying191 rfl type3) ?_
  refine wv (vl 0 3 underlying3) ?_
  refine wv (fun W hm => rv_eql rfl rfl) ?_
  refine wa (nt' (CM_ret ?_))
  exact rtb (h := fin_inr hE26 (rfl))

def impl_CountVersions_b1 (x0 : DStore) (k9 : Nat) (s10 : Int) : Int ⊕ (Int) :=
 Sum.inr (IntKind.i64.wrap (s10 + ((((gt x0.Segments k9)).length : Nat) : Int)))
def impl_CountVersions_m (x0 : DStore) : Int :=
 Sum.elim id (fun (s : Int) => s) (rng (R := Int) (fun k (s : Int) => impl_CountVersions_b1 x0 k s) (x0.Segments.length - 0) 0 0)
theorem cb223 : Cb Tryz.prog 223 := ⟨f223, _, func223, rfl, by decide⟩
theorem impl_CountVersions_c (w : World) (z0 : List Value) (x0 : DStore) (r_0 : tyStore.rd w w.heap.size z0 x0) :
  Calls Tryz.prog 223 #[.agg z0.toArray] w fun e w' => e = .returned (.int .i64 (impl_CountVersions_m x0)) ∧ Below w.heap.size w w' := by
 obtain ⟨v1, rfl, r2⟩ := tyStore_rd r_0
 obtain ⟨m3, A4, c5, rfl, q6, r7⟩ := rdS_op r2
 refine ce1 (L := [(0, .agg #[.slice A4 x0.Segments.length c5, .int .i64 x0.Now])]) (N := 19) func223 ?_
 refine sr ?_
 refine WM_box rfl (Wd_none rfl) (by decide) (fun p8 => ?_)
 refine wa (nt' (sr (wa (nt' (CM_seq (sr ?_))))))
 refine wv (vf underlying42 rfl type40) ?_
 refine wv (vl 0 0 underlying40) ?_
 refine wv (vlen underlying40) ?_
 refine wm (nt' (CM_block ?_))
 let F1 := fun k (s : Int) => impl_CountVersions_b1 x0 k s
 let R2 := rng (R := Int) F1
 let I3 : It := iBox p8 42 [.slice A4 x0.Segments.length c5, .int .i64 x0.Now]
 refine CM_loop (σ := Nat × (Int) × (Unit)) (fun s => [(3, .int .i64 s.2.1), (7, .slice A4 x0.Segments.length c5), (8, .int .i64 ((x0.Segments.length : Nat) : Int)), (9, .int .i64 ((s.1 : Nat) : Int))]) (fun s => [I3]) (fun s => s.1 ≤ x0.Segments.length ∧ R2 (x0.Segments.length - s.1) s.1 s.2.1 = R2 (x0.Segments.length - 0) 0 0) (fun s => x0.Segments.length - s.1) (0, 0, ()) sl4 (fun W hm => hm) ⟨(by omega), rfl⟩ ?_
 rintro ⟨k9, s10, ⟨⟩⟩ H13
 obtain ⟨hk11, hF12⟩ : k9 ≤ x0.Segments.length ∧ R2 (x0.Segments.length - k9) k9 s10 = R2 (x0.Segments.length - 0) 0 0 := H13
 show CM Tryz.prog 19 _ _ _ _ [(3, .int .i64 s10), (7, .slice A4 x0.Segments.length c5), (8, .int .i64 ((x0.Segments.length : Nat) : Int)), (9, .int .i64 ((k9 : Nat) : Int))] [I3]
 refine sr ?_
 refine wv vlss ?_
 refine nt' (CM_seq ?_)
 by_cases hl14 : k9 < x0.Segments.length
 ·have g15 := dlT hl14
  refine CM_condT rfl g15 ?_
  refine CM_skip (QM_then (CM_seq (CM_block (sr ?_))))
  obtain ⟨a16, rfl, hb17, he18⟩ := q6 (by omega)
  refine wv (vix 1 k9 underlying40 type131) ?_
  obtain ⟨_, e20, hc19⟩ := he18 k9 _ (gt_some (show k9 < x0.Segments.length from by omega))
  obtain ⟨v21, rfl, r22⟩ := e20
  obtain ⟨m23, A24, c25, rfl, q26, r27⟩ := rdS_op r22
  refine wv (fun W hm => rv_load underlying131 rfl rfl ((hm.cell0 (show (a16.add (k9 * 1)).block < w.heap.size from by rw [add_block]; exact hb17.1)).trans (hc19 0 _ rfl))) ?_
  refine wa (nt' (CM_region (wm (wm ?_))))
  refine wv (vlen underlying131) ?_
  refine wv vadd ?_
  refine wa (WM_nil (QM_block_normal (QM_then (CM_region ?_))))
  refine wv (vadN k9 1 (by omega)) ?_
  refine wm (WM_nil ?_)
  have hn28 := rng_next (R := Int) (body := F1) (k := k9) (s := s10) (s' := (IntKind.i64.wrap (s10 + ((((gt x0.Segments k9)).length : Nat) : Int)))) (show k9 < x0.Segments.length from by omega) (rfl) hF12
  exact QM_round (k9 + 1, (IntKind.i64.wrap (s10 + ((((gt x0.Segments k9)).length : Nat) : Int))), ()) sl4 (fun W hm => hm) ⟨(by omega), hn28⟩ (rl (by omega))
 ·have g15 := dlF hl14
  refine CM_condF rfl g15 ?_
  refine CM_exit (QM_then_exit (QM_then_exit ?_))
  have hE29 : R2 (x0.Segments.length - 0) 0 0 = Sum.inr s10 := rng_end hl14 hF12
  refine QM_block_hit (QM_then (sr (wm (wa (nt' (CM_ret ?_))))))
  exact rti (h := fin_inr hE29 (rfl))

def impl_ReclaimStore_b2 (x1 : (List Int)) (k26 : Nat) (d27 : (List (List DVersion))) (k43 : Nat) (d44 : (List DVersion)) : (DStore × Int) ⊕ ((List DVersion)) :=
 cond (impl_isNeeded_m (gt (gt d27 k26) k43) x1) (Sum.inr (d44 ++ [(gt (gt d27 k26) k43)])) (Sum.inr d44)
def impl_ReclaimStore_b1 (x1 : (List Int)) (k26 : Nat) (d27 : (List (List DVersion))) : (DStore × Int) ⊕ ((List (List DVersion))) :=
 Sum.elim Sum.inl (fun (s : (List DVersion)) => Sum.inr (d27.set k26 s)) (rng (R := (DStore × Int)) (fun k (s : (List DVersion)) => impl_ReclaimStore_b2 x1 k26 d27 k s) ((gt d27 k26).length - 0) 0 [])
def impl_ReclaimStore_m (x0 : DStore) (x1 : (List Int)) : (DStore × Int) :=
 cond (impl_IsStore_m x0) (Sum.elim id (fun (s : (List (List DVersion))) => ((⟨s, x0.Now⟩ : DStore), (IntKind.i64.wrap ((impl_CountVersions_m x0) - (impl_CountVersions_m (⟨s, x0.Now⟩ : DStore)))))) (rng (R := (DStore × Int)) (fun k (s : (List (List DVersion))) => impl_ReclaimStore_b1 x1 k s) (x0.Segments.length - 0) 0 x0.Segments)) (x0, 0)
theorem cb180 : Cb Tryz.prog 180 := ⟨f180, _, func180, rfl, by decide⟩
theorem impl_ReclaimStore_c (w : World) (z0 : List Value) (x0 : DStore) (z1 : Value) (x1 : (List Int)) (r_0 : tyStore.rd w w.heap.size z0 x0) (r_1 : rdS tInt w w.heap.size z1 x1) (s_0 : smStore 68719476736 x0) (s_1 : x1.length ≤ 68719476736) :
  Calls Tryz.prog 180 #[.agg z0.toArray, z1] w fun e w' => ∃ v : List Value, e = .returned (.tuple #[.agg v.toArray, .int .i64 ((impl_ReclaimStore_m x0 x1).2)]) ∧ Mem w.heap.size w [iOwn tyStore v (impl_ReclaimStore_m x0 x1).1] w' := by
 obtain ⟨v1, rfl, r2⟩ := tyStore_rd r_0
 obtain ⟨m3, A4, c5, rfl, q6, r7⟩ := rdS_op r2
 obtain ⟨m8, A9, c10, rfl, q11, r12⟩ := rdS_op r_1
 have l13 : x0.Segments.length ≤ 68719476736 := s_0.1
 have l14 : x1.length ≤ 68719476736 := s_1
 refine ce2 (L := [(0, .agg #[.slice A4 x0.Segments.length c5, .int .i64 x0.Now]), (1, .slice A9 x1.length c10)]) (N := 53) func180 ?_
 refine sr ?_
 refine WM_box rfl (Wd_none rfl) (by decide) (fun p15 => ?_)
 refine WM_alloc type42 rfl (Wd_none rfl) (by decide) (fun p16 => ?_)
 refine wa (nt' (sr ?_))
 refine wv (fun W hm => rv_loadN (cs := [.slice A4 x0.Segments.length c5, .int .i64 x0.Now]) underlying42 type42 rfl rfl (hm.boxCells (n := 1) rfl)) ?_
 refine wcs tyStore x0 (cl_fn cb173 rfl) (fun W hm => impl_copyStore_c2 W _ x0 (tyStore_mk (x := x0) (hm.rdS0 r7)) s_0) (fun z17 => ?_)
 refine tyStore_sp ?_
 rintro v18 rfl
 refine WM_form (n := 0) rfl ?_
 rintro A19 c20 rfl m21
 refine WM_alloc type42 rfl (Wd_none rfl) (by decide) (fun p23 => ?_)
 let I7 : It := iOwn (tSl (tSl tyVersion 191) 131) [.slice A19 x0.Segments.length c20] x0.Segments
 let I8 : It := iBox p15 42 [.slice A4 x0.Segments.length c5, .int .i64 x0.Now]
 refine sb 0 [.slice A19 x0.Segments.length c20, .int .i64 x0.Now] [I7, iBox p16 42 [.slice none 0 0, .int .i64 0], I8] (fun W hm => hm) type42 ?_
 refine nt' (CM_seq (sr ?_))
 refine wv (fun W hm => rv_loadN (cs := [.slice A4 x0.Segments.length c5, .int .i64 x0.Now]) underlying42 type42 rfl rfl (hm.boxCells (n := 3) rfl)) ?_
 refine wcv (cl_fn cb117 rfl) (fun W hm => impl_IsStore_c W _ x0 (tyStore_mk (x := x0) (hm.rdS0 r7)) s_0) ?_
 refine wv vnot ?_
 refine nt' ?_
 rcases Bool.eq_false_or_eq_true (impl_IsStore_m x0) with g25 | g25
 ·
  refine CM_condF rfl (nt g25) ?_
  refine CM_skip (QM_then (CM_seq (sr ?_)))
  refine wv (vf underlying42 rfl type40) ?_
  refine wv (vl 0 0 underlying40) ?_
  refine wv (vlen underlying40) ?_
  refine wm (nt' (CM_block ?_))
  let F1 := fun k (s : (List (List DVersion))) => impl_ReclaimStore_b1 x1 k s
  let R3 := rng (R := (DStore × Int)) F1
  let I9 : It := iBox p23 42 [.slice A19 x0.Segments.length c20, .int .i64 x0.Now]
  refine CM_loop (σ := Nat × ((List (List DVersion))) × (Unit)) (fun s => [(1, .slice A9 x1.length c10), (2, .pointer (some (⟨p15, 0, none⟩ : Addr))), (4, .pointer (some (⟨p16, 0, none⟩ : Addr))), (6, .pointer (some (⟨p23, 0, none⟩ : Addr))), (19, .slice A19 x0.Segments.length c20), (20, .int .i64 ((x0.Segments.length : Nat) : Int)), (21, .int .i64 ((s.1 : Nat) : Int))]) (fun s => [I9, iOwn (tSl (tSl tyVersion 191) 131) [.slice A19 x0.Segments.length c20] s.2.1, iBox p16 42 [.slice none 0 0, .int .i64 0], I8]) (fun s => s.1 ≤ x0.Segments.length ∧ R3 (x0.Segments.length - s.1) s.1 s.2.1 = R3 (x0.Segments.length - 0) 0 x0.Segments ∧ ∀ j, s.1 ≤ j → gt s.2.1 j = gt x0.Segments j) (fun s => x0.Segments.length - s.1) (0, x0.Segments, ()) sl7 (fun W hm => hm) ⟨(by omega), rfl, (fun _ _ => rfl)⟩ ?_
  rintro ⟨k26, d27, ⟨⟩⟩ H30
  obtain ⟨hk28, hF29, hi31⟩ : k26 ≤ x0.Segments.length ∧ R3 (x0.Segments.length - k26) k26 d27 = R3 (x0.Segments.length - 0) 0 x0.Segments ∧ ∀ j, k26 ≤ j → gt d27 j = gt x0.Segments j := H30
  let I10 : It := iOwn (tSl (tSl tyVersion 191) 131) [.slice A19 x0.Segments.length c20] d27
  show CM Tryz.prog 53 _ _ _ _ [(1, .slice A9 x1.length c10), (2, .pointer (some (⟨p15, 0, none⟩ : Addr))), (4, .pointer (some (⟨p16, 0, none⟩ : Addr))), (6, .pointer (some (⟨p23, 0, none⟩ : Addr))), (19, .slice A19 x0.Segments.length c20), (20, .int .i64 ((x0.Segments.length : Nat) : Int)), (21, .int .i64 ((k26 : Nat) : Int))] [I9, I10, iBox p16 42 [.slice none 0 0, .int .i64 0], I8]
  refine sr ?_
  refine wv vlss ?_
  refine nt' (CM_seq ?_)
  by_cases hl32 : k26 < x0.Segments.length
  ·have g33 := dlT hl32
   have hq1 : (gt d27 k26).length ≤ 68719476736 := by rw [hi31 k26 (Nat.le_refl _)]; exact (s_0.2 _ (gt_mem (by omega))).1
   refine CM_condT rfl g33 ?_
   refine CM_skip (QM_then (CM_seq (CM_block (sr (wm ?_)))))
   refine WM_formO (n := 1) rfl (by omega) ?_
   rintro g34 rfl
   refine wv (vix 1 k26 underlying40 type131) ?_
   let K5 : List Value := [.slice (some ⟨g34, 0, none⟩) x0.Segments.length c20, .int .i64 x0.Now]
   refine WM_focus (E := (tSl tyVersion 191)) (e := 131) (A := (some ⟨g34, 0, none⟩)) (n := x0.Segments.length) (c := c20) (xs := d27) (k := k26) (js := [iBox p23 42 K5, iBox p16 42 [.slice none 0 0, .int .i64 0], I8]) (by omega) (pk [1, 0, 2, 3]) (fun ck35 => ?_)
   refine WM_split (γ := Value) (js := fun g => [iOwn (tSl tyVersion 191) [g] (gt d27 k26)]) (C := fun g => ck35 = [g]) (fun _ _ h => tSl_split h) ?_
   rintro v36 rfl
   refine WM_form (n := 0) rfl ?_
   rintro A37 c38 rfl m39
   refine wv (fun W hm => rv_load underlying131 rfl rfl (hm.focInt (i := 1) rfl rfl)) ?_
   refine wa (wa (nt' (sr ?_)))
   refine WM_build0 (E := tyVersion) underlying131 type191 (Wd_none rfl) (by decide) (fun p41 => ?_)
   refine wa (nt' (CM_seq (sr (wm ?_))))
   refine wv (vlen underlying131) ?_
   refine wm (nt' (CM_block ?_))
   refine CM_items (fun W hm => Mem.toRest (hm.pick [1, 0, 2, 3, 4, 5] (by decide))) ?_
   let F2 := fun k (s : (List DVersion)) => impl_ReclaimStore_b2 x1 k26 d27 k s
   let R4 := rng (R := (DStore × Int)) F2
   refine CM_loop (σ := Nat × ((List DVersion)) × (Option Addr × Nat)) (fun s => [(1, .slice A9 x1.length c10), (2, .pointer (some (⟨p15, 0, none⟩ : Addr))), (4, .pointer (some (⟨p16, 0, none⟩ : Addr))), (6, .pointer (some (⟨p23, 0, none⟩ : Addr))), (7, .int .i64 ((k26 : Nat) : Int)), (9, .slice s.2.2.1 s.2.1.length s.2.2.2), (19, .slice (some ⟨g34, 0, none⟩) x0.Segments.length c20), (20, .int .i64 ((x0.Segments.length : Nat) : Int)), (21, .int .i64 ((k26 : Nat) : Int)), (27, .slice A37 (gt d27 k26).length c38), (28, .int .i64 (((gt d27 k26).length : Nat) : Int)), (29, .int .i64 ((s.1 : Nat) : Int))]) (fun s => [iRest tyVersion 191 A37 ((gt d27 k26).length) (gt d27 k26) s.1, iOwn (tSl tyVersion 191) [.slice s.2.2.1 s.2.1.length s.2.2.2] s.2.1, iFoc (tSl tyVersion 191) 131 (some ⟨g34, 0, none⟩) x0.Segments.length c20 d27 k26 [.slice A37 (gt d27 k26).length c38], iBox p23 42 K5, iBox p16 42 [.slice none 0 0, .int .i64 0], I8]) (fun s => s.1 ≤ (gt d27 k26).length ∧ R4 ((gt d27 k26).length - s.1) s.1 s.2.1 = R4 ((gt d27 k26).length - 0) 0 [] ∧ s.2.1.length ≤ 0 + s.1) (fun s => (gt d27 k26).length - s.1) (0, [], ((some ⟨p41, 0, none⟩), 0)) sl12 (fun W hm => hm) ⟨(by omega), rfl, Nat.le_refl _⟩ ?_
   rintro ⟨k43, d44, ⟨A45, c46⟩⟩ H49
   obtain ⟨hk47, hF48, hi50⟩ : k43 ≤ (gt d27 k26).length ∧ R4 ((gt d27 k26).length - k43) k43 d44 = R4 ((gt d27 k26).length - 0) 0 [] ∧ d44.length ≤ 0 + k43 := H49
   let I11 : It := iOwn (tSl tyVersion 191) [.slice A45 d44.length c46] d44
   show CM Tryz.prog 53 _ _ _ _ [(1, .slice A9 x1.length c10), (2, .pointer (some (⟨p15, 0, none⟩ : Addr))), (4, .pointer (some (⟨p16, 0, none⟩ : Addr))), (6, .pointer (some (⟨p23, 0, none⟩ : Addr))), (7, .int .i64 ((k26 : Nat) : Int)), (9, .slice A45 d44.length c46), (19, .slice (some ⟨g34, 0, none⟩) x0.Segments.length c20), (20, .int .i64 ((x0.Segments.length : Nat) : Int)), (21, .int .i64 ((k26 : Nat) : Int)), (27, .slice A37 (gt d27 k26).length c38), (28, .int .i64 (((gt d27 k26).length : Nat) : Int)), (29, .int .i64 ((k43 : Nat) : Int))] [iRest tyVersion 191 A37 ((gt d27 k26).length) (gt d27 k26) k43, I11, iFoc (tSl tyVersion 191) 131 (some ⟨g34, 0, none⟩) x0.Segments.length c20 d27 k26 [.slice A37 (gt d27 k26).length c38], iBox p23 42 K5, iBox p16 42 [.slice none 0 0, .int .i64 0], I8]
   refine sr ?_
   refine wv vlss ?_
   refine nt' (CM_seq ?_)
   by_cases hl51 : k43 < (gt d27 k26).length
   ·have g52 := dlT hl51
    refine CM_condT rfl g52 ?_
    refine CM_skip (QM_then (CM_seq (CM_block (sr ?_))))
    refine WM_formR (n := 0) rfl (by omega) ?_
    rintro g53 rfl
    refine wv (vix 4 k43 underlying131 type191) ?_
    refine WM_pop (E := tyVersion) (e := 191) (A := (some ⟨g53, 0, none⟩)) (n := (gt d27 k26).length) (xs := (gt d27 k26)) (k := k43) (js := [I11, iFoc (tSl tyVersion 191) 131 (some ⟨g34, 0, none⟩) x0.Segments.length c20 d27 k26 [.slice (some ⟨g53, 0, none⟩) (gt d27 k26).length c38], iBox p23 42 K5, iBox p16 42 [.slice none 0 0, .int .i64 0], I8]) (by omega) (fun W hm => hm) (fun ck54 => ?_)
    refine tyVersion_sp ?_
    rintro v55 rfl
    refine WM_form (n := 0) rfl ?_
    rintro A56 c57 rfl m58
    let K6 : List Value := [.int .i64 ((gt (gt d27 k26) k43).Id), .slice A56 ((gt (gt d27 k26) k43).Values).length c57, .int .i64 ((gt (gt d27 k26) k43).Born), .int .i64 ((gt (gt d27 k26) k43).Died)]
    refine wv (fun W hm => rv_loadN (cs := K6) underlying191 type191 rfl rfl (hm.restCells (i := 1) rfl rfl)) ?_
    refine WM_alloc type191 rfl (Wd_none rfl) (by decide) (fun p60 => ?_)
    let I12 : It := iOwn (tSl tInt 3) [.slice A56 ((gt (gt d27 k26) k43).Values).length c57] ((gt (gt d27 k26) k43).Values)
    refine sb 0 K6 [I12, iRestF tyVersion 191 (some ⟨g53, 0, none⟩) ((gt d27 k26).length) (gt d27 k26) k43 K6, I11, iFoc (tSl tyVersion 191) 131 (some ⟨g34, 0, none⟩) x0.Segments.length c20 d27 k26 [.slice (some ⟨g53, 0, none⟩) (gt d27 k26).length c38], iBox p23 42 K5, iBox p16 42 [.slice none 0 0, .int .i64 0], I8] (fun W hm => hm) type191 ?_
    refine nt' (sr ?_)
    refine wv (fun W hm => rv_loadN (cs := K6) underlying191 type191 rfl rfl (hm.boxCells (n := 0) rfl)) ?_
    refine wm ?_
    refine wcv (cl_fn cb222 rfl) (fun W hm => impl_isNeeded_c W _ (gt (gt d27 k26) k43) _ x1 (tyVersion_mk (x := (gt (gt d27 k26) k43)) (hm.rdSI (n := 1) rfl)) (hm.rdS0 r12)) ?_
    refine nt' ?_
    rcases Bool.eq_false_or_eq_true (impl_isNeeded_m (gt (gt d27 k26) k43) x1) with g62 | g62
    ·
     refine CM_condT rfl g62 ?_
     refine CM_region (wm ?_)
     refine wv (fun W hm => rv_loadN (cs := K6) underlying191 type191 rfl rfl (hm.boxCells (n := 0) rfl)) ?_
     refine WM_build (cs := K6) underlying131 type191 rfl (by decide) (by decide) rfl (by kernel_rfl) (Wd_none rfl) (by decide) (fun p63 => ?_)
     refine ap1 tyVersion 191 (.slice A45 d44.length c46) d44 (gt (gt d27 k26) k43) [I12] [iBox p60 191 K6, iRestF tyVersion 191 (some ⟨g53, 0, none⟩) ((gt d27 k26).length) (gt d27 k26) k43 K6, iFoc (tSl tyVersion 191) 131 (some ⟨g34, 0, none⟩) x0.Segments.length c20 d27 k26 [.slice (some ⟨g53, 0, none⟩) (gt d27 k26).length c38], iBox p23 42 K5, iBox p16 42 [.slice none 0 0, .int .i64 0], I8] K6 (pk [0, 4, 2, 1, 3, 5, 6, 7, 8]) (fun _ _ hs => Els.single (tyVersion_join (x := (gt (gt d27 k26) k43)) hs)) underlying131 type191 (show (d44.length + 1) * 48 ≤ 140737488355328 from by omega) (fun v64 => ?_)
     refine WM_form (n := 0) rfl ?_
     rintro A65 c66 rfl m67
     refine wa (WM_nil (QM_block_normal (QM_then (CM_region ?_))))
     refine wv (vadN k43 1 (by omega)) ?_
     refine wm (WM_nil ?_)
     refine QM_items (fun W hm => Mem.restNext (hm.pick [2, 0, 1, 3, 4, 5, 6] (by decide))) ?_
     have hn69 := rng_next (R := (DStore × Int)) (body := F2) (k := k43) (s := d44) (s' := (d44 ++ [(gt (gt d27 k26) k43)])) (show k43 < (gt d27 k26).length from by omega) (cond_t g62 (rfl)) hF48
     exact QM_round (k43 + 1, (d44 ++ [(gt (gt d27 k26) k43)]), (A65, c66)) sl12 (pk [0, 1, 3, 4, 5, 6]) ⟨(by omega), hn69, (show (d44 ++ [(gt (gt d27 k26) k43)]).length ≤ 0 + (k43 + 1) from by first | omega | (simp only [List.length_append, List.length_cons, List.length_nil] at *; omega))⟩ (show (gt d27 k26).length - (k43 + 1) < (gt d27 k26).length - k43 from by omega)
    ·
     refine CM_condF rfl g62 ?_
     refine CM_skip (QM_block_normal (QM_then (CM_region ?_)))
     refine wv (vadN k43 1 (by omega)) ?_
     refine wm (WM_nil ?_)
     refine QM_items (fun W hm => Mem.restNext (hm.pick [2, 0, 1, 3, 4, 5, 6, 7] (by decide))) ?_
     have hn70 := rng_next (R := (DStore × Int)) (body := F2) (k := k43) (s := d44) (s' := d44) (show k43 < (gt d27 k26).length from by omega) (cond_f g62 (rfl)) hF48
     exact QM_round (k43 + 1, d44, (A45, c46)) sl12 (pk [0, 3, 4, 5, 6, 7]) ⟨(by omega), hn70, (show d44.length ≤ 0 + (k43 + 1) from by first | omega | (simp only [List.length_append, List.length_cons, List.length_nil] at *; omega))⟩ (show (gt d27 k26).length - (k43 + 1) < (gt d27 k26).length - k43 from by omega)
   ·have g52 := dlF hl51
    refine CM_condF rfl g52 ?_
    refine CM_exit (QM_then_exit (QM_then_exit ?_))
    have hE71 : R4 ((gt d27 k26).length - 0) 0 [] = Sum.inr d44 := rng_end hl51 hF48
    refine QM_block_hit (QM_then (CM_region ?_))
    refine wv (vf underlying42 rfl type40) ?_
    refine wv (vl 3 0 underlying40) ?_
    refine wm (wm ?_)
    refine wv (vix 1 k26 underlying40 type131) ?_
    refine sf 0 1 [.slice A45 d44.length c46] [iRest tyVersion 191 A37 ((gt d27 k26).length) (gt d27 k26) k43, I11, iBox p23 42 K5, iBox p16 42 [.slice none 0 0, .int .i64 0], I8] (pk [2, 0, 1, 3, 4, 5]) type131 ?_
    refine WM_nil (QM_block_normal (QM_then (CM_region ?_)))
    refine wv (vadN k26 1 (by omega)) ?_
    refine wm (WM_nil ?_)
    refine QM_items (fun W hm => Mem.unfocus (Mem.join (is := [I11]) (js := (iFoc (tSl tyVersion 191) 131 (some ⟨g34, 0, none⟩) x0.Segments.length c20 d27 k26 [.slice A45 d44.length c46] :: [iRest tyVersion 191 A37 ((gt d27 k26).length) (gt d27 k26) k43, iBox p23 42 K5, iBox p16 42 [.slice none 0 0, .int .i64 0], I8])) (fun _ _ hs => Sep.one hs) (hm.pick [2, 0, 1, 3, 4, 5] (by decide)))) ?_
    have hn72 := rng_next (R := (DStore × Int)) (body := F1) (k := k26) (s := d27) (s' := (d27.set k26 d44)) (show k26 < x0.Segments.length from by omega) (fin_inr hE71 (rfl)) hF29
    exact QM_round (k26 + 1, (d27.set k26 d44), ()) sl7 (pk [2, 0, 3, 4]) ⟨(by omega), hn72, (show ∀ j, (k26 + 1) ≤ j → gt (d27.set k26 d44) j = gt x0.Segments j from by intro j hj; rw [gt_set_ne (by omega)]; exact hi31 j (by omega))⟩ (rl (by omega))
  ·have g33 := dlF hl32
   refine CM_condF rfl g33 ?_
   refine CM_exit (QM_then_exit (QM_then_exit ?_))
   have hE73 : R3 (x0.Segments.length - 0) 0 x0.Segments = Sum.inr d27 := rng_end hl32 hF29
   refine QM_block_hit (QM_then (CM_seq ?_))
   refine rb 8 (s := [I9, I10, I8]) (pk [0, 1, 3]) ?_
   refine qt 8 0 1 rfl (fun W hm => rv_loadN (cs := [.slice A19 x0.Segments.length c20, .int .i64 x0.Now]) underlying42 type42 rfl rfl (hm.boxCells (n := 0) rfl)) ?_
   refine qt 8 1 3 rfl (fun W hm => rv_loadN (cs := [.slice A4 x0.Segments.length c5, .int .i64 x0.Now]) underlying42 type42 rfl rfl (hm.boxCells (n := 2) rfl)) ?_
   refine qt 8 3 11 rfl (fun W hm => rv_loadN (cs := [.slice A19 x0.Segments.length c20, .int .i64 x0.Now]) underlying42 type42 rfl rfl (hm.boxCells (n := 0) rfl)) ?_
   refine qo 8 2 15 rfl ?_
   refine wcv (cl_fn cb223 rfl) (fun W hm => impl_CountVersions_c W _ x0 (tyStore_mk (x := x0) (hm.rdS0 r7))) ?_
   refine qn (pk [0, 1, 3]) ?_
   refine qo 8 4 31 rfl ?_
   refine wcv (cl_fn cb223 rfl) (fun W hm => impl_CountVersions_c W _ (⟨d27, x0.Now⟩ : DStore) (tyStore_mk (x := (⟨d27, x0.Now⟩ : DStore)) (hm.rdSI (n := 1) rfl))) ?_
   refine qn (pk [0, 1, 3]) ?_
   refine qt 8 5 63 rfl (fun W hm => rv_sub rfl rfl) ?_
   refine qo 8 6 127 rfl ?_
   refine sb 0 [.slice A19 x0.Segments.length c20, .int .i64 x0.Now] [I9, I10, I8] (pk [2, 0, 1, 3]) type42 ?_
   refine qn (pk [1, 2, 3]) ?_
   refine qt 8 7 255 rfl (fun W hm => rv_assign rfl) ?_
   refine QB_done (by kernel_rfl) ?_
   refine QM_then (CM_ret ?_)
   have he74 := (show impl_ReclaimStore_m x0 x1 = ((⟨d27, x0.Now⟩ : DStore), (IntKind.i64.wrap ((impl_CountVersions_m x0) - (impl_CountVersions_m (⟨d27, x0.Now⟩ : DStore))))) from cond_t g25 (fin_inr hE73 (rfl)))
   refine QM_r2 rfl (RR_cell (n := 0) rfl rfl underlying42 type42 rfl) (RR_tmp rfl) (fun W hm => ⟨[.slice A19 x0.Segments.length c20, .int .i64 x0.Now], ?_, ?_⟩)
   ·first | rw [he74] | rfl
    try rfl
   ·rw [he74]; exact Mem.join (is := [I10]) (js := []) (fun _ _ hs => tyStore_join (x := (⟨d27, x0.Now⟩ : DStore)) hs) (hm.pick [2] (by decide))
 ·
  refine CM_condT rfl (nf g25) ?_
  refine sr ?_
  refine wv (fun W hm => rv_loadN (cs := [.slice A19 x0.Segments.length c20, .int .i64 x0.Now]) underlying42 type42 rfl rfl (hm.boxCells (n := 0) rfl)) ?_
  refine sb 0 [.slice A19 x0.Segments.length c20, .int .i64 x0.Now] [iBox p23 42 [.slice A19 x0.Segments.length c20, .int .i64 x0.Now], I7, I8] (pk [2, 0, 1, 3]) type42 ?_
  refine wa (nt' (CM_ret (QM_then_ret ?_)))
  have he75 := (show impl_ReclaimStore_m x0 x1 = (x0, 0) from cond_f g25 (rfl))
  refine QM_r2 rfl (RR_cell (n := 0) rfl rfl underlying42 type42 rfl) (RR_tmp rfl) (fun W hm => ⟨[.slice A19 x0.Segments.length c20, .int .i64 x0.Now], ?_, ?_⟩)
  ·first | rw [he75] | rfl
   try rfl
  ·rw [he75]; exact Mem.join (is := [I7]) (js := []) (fun _ _ hs => tyStore_join (x := x0) hs) (hm.pick [2] (by decide))

def impl_reclaimed_b1 (x0 : DEngine) (k35 : Nat) (d36 : (List Int)) : DEngine ⊕ ((List Int)) :=
 Sum.inr (d36 ++ [(gt x0.Active k35).Time])
def impl_reclaimed_m (x0 : DEngine) : DEngine :=
 Sum.elim id (fun (s : (List Int)) => (⟨((impl_ReclaimStore_m x0.Store s).1), x0.Cursor, x0.Order, x0.Active, x0.Done, x0.Ledger, x0.Steps⟩ : DEngine)) (rng (R := DEngine) (fun k (s : (List Int)) => impl_reclaimed_b1 x0 k s) (x0.Active.length - 0) 0 [])
theorem cb105 : Cb Tryz.prog 105 := ⟨f105, _, func105, rfl, by decide⟩
theorem impl_reclaimed_c (B : Nat) (w0 : World) (is : List It) (w : World) (z0 : List Value) (x0 : DEngine) (s_0 : smEngine 68719476736 x0) (hm : Mem B w0 (iOwn tyEngine z0 x0 :: is) w) :
  Calls Tryz.prog 105 #[.agg z0.toArray] w fun e w' => ∃ v : List Value, e = .returned (.agg v.toArray) ∧ Mem B w0 (iOwn tyEngine v (impl_reclaimed_m x0) :: is) w' := by
 refine call_enterW (L := [(0, .agg z0.toArray)]) (N := 29) func105 rfl rfl (Nat.le_of_ble_eq_true rfl) (argsL_cons rfl argsL_nil) hm ?_
 refine CM_split (γ := Value × Value × Value × Value × Value) (js := fun g => [iOwn (tSl (tSl tyVersion 191) 131) [g.1] x0.Store.Segments, iOwn (tSl tInt 3) [g.2.1] x0.Order, iOwn (tSl tyActive 64) [g.2.2.1] x0.Active, iOwn (tSl tyFinished 37) [g.2.2.2.1] x0.Done, iOwn (tSl tyCharge 133) [g.2.2.2.2] x0.Ledger]) (C := fun g => z0 = [g.1, .int .i64 x0.Store.Now, .int .i64 x0.Cursor, g.2.1, g.2.2.1, g.2.2.2.1, g.2.2.2.2, .int .i64 x0.Steps]) (fun _ _ h => tyEngine_split h) ?_
 rintro ⟨v1, v2, v3, v4, v5⟩ rfl
 refine CM_form (n := 0) rfl ?_
 rintro A6 c7 rfl m8
 refine CM_form (n := 1) rfl ?_
 rintro A10 c11 rfl m12
 refine CM_form (n := 2) rfl ?_
 rintro A14 c15 rfl m16
 refine CM_form (n := 3) rfl ?_
 rintro A18 c19 rfl m20
 refine CM_form (n := 4) rfl ?_
 rintro A22 c23 rfl m24
 have l26 : x0.Store.Segments.length ≤ 68719476736 := s_0.1.1
 have l27 : x0.Order.length ≤ 68719476736 := s_0.2.1
 have l28 : x0.Active.length ≤ 68719476736 := s_0.2.2.1.1
 have l29 : x0.Done.length ≤ 68719476736 := s_0.2.2.2.1.1
 have l30 : x0.Ledger.length ≤ 68719476736 := s_0.2.2.2.2.1
 refine sr ?_
 refine WM_box rfl (Wd_none rfl) (by decide) (fun p31 => ?_)
 refine WM_alloc type47 rfl (Wd_none rfl) (by decide) (fun p32 => ?_)
 refine nt' (sr ?_)
 refine WM_build0 (E := tInt) underlying25 type3 (Wd_none rfl) (by decide) (fun p33 => ?_)
 refine wa (nt' (CM_seq (sr ?_)))
 refine wv (vf underlying47 rfl type43) ?_
 refine wv (vl 2 4 underlying43) ?_
 refine wv (vlen underlying43) ?_
 refine wm (nt' (CM_block ?_))
 let F1 := fun k (s : (List Int)) => impl_reclaimed_b1 x0 k s
 let R2 := rng (R := DEngine) F1
 let K3 : List Value := [.slice none 0 0, .int .i64 0, .int .i64 0, .slice none 0 0, .slice none 0 0, .slice none 0 0, .slice none 0 0, .int .i64 0]
 let K4 : List Value := [.slice A6 x0.Store.Segments.length c7, .int .i64 x0.Store.Now, .int .i64 x0.Cursor, .slice A10 x0.Order.length c11, .slice A14 x0.Active.length c15, .slice A18 x0.Done.length c19, .slice A22 x0.Ledger.length c23, .int .i64 x0.Steps]
 let I8 : It := iOwn (tSl (tSl tyVersion 191) 131) [.slice A6 x0.Store.Segments.length c7] x0.Store.Segments
 let I9 : It := iOwn (tSl tInt 3) [.slice A10 x0.Order.length c11] x0.Order
 let I10 : It := iOwn (tSl tyActive 64) [.slice A14 x0.Active.length c15] x0.Active
 let I11 : It := iOwn (tSl tyFinished 37) [.slice A18 x0.Done.length c19] x0.Done
 let I12 : It := iOwn (tSl tyCharge 133) [.slice A22 x0.Ledger.length c23] x0.Ledger
 refine CM_loop (σ := Nat × ((List Int)) × (Option Addr × Nat)) (fun s => [(1, .pointer (some (⟨p31, 0, none⟩ : Addr))), (2, .pointer (some (⟨p32, 0, none⟩ : Addr))), (3, .slice s.2.2.1 s.2.1.length s.2.2.2), (8, .slice A14 x0.Active.length c15), (9, .int .i64 ((x0.Active.length : Nat) : Int)), (10, .int .i64 ((s.1 : Nat) : Int))]) (fun s => (iOwn (tSl tInt 3) [.slice s.2.2.1 s.2.1.length s.2.2.2] s.2.1 :: iBox p32 47 K3 :: iBox p31 47 K4 :: I8 :: I9 :: I10 :: I11 :: I12 :: is)) (fun s => s.1 ≤ x0.Active.length ∧ R2 (x0.Active.length - s.1) s.1 s.2.1 = R2 (x0.Active.length - 0) 0 [] ∧ s.2.1.length ≤ 0 + s.1) (fun s => x0.Active.length - s.1) (0, [], ((some ⟨p33, 0, none⟩), 0)) sl6 (fun W hm => hm) ⟨(by omega), rfl, Nat.le_refl _⟩ ?_
 rintro ⟨k35, d36, ⟨A37, c38⟩⟩ H41
 obtain ⟨hk39, hF40, hi42⟩ : k35 ≤ x0.Active.length ∧ R2 (x0.Active.length - k35) k35 d36 = R2 (x0.Active.length - 0) 0 [] ∧ d36.length ≤ 0 + k35 := H41
 let I13 : It := iOwn (tSl tInt 3) [.slice A37 d36.length c38] d36
 show CM Tryz.prog 29 _ _ _ _ [(1, .pointer (some (⟨p31, 0, none⟩ : Addr))), (2, .pointer (some (⟨p32, 0, none⟩ : Addr))), (3, .slice A37 d36.length c38), (8, .slice A14 x0.Active.length c15), (9, .int .i64 ((x0.Active.length : Nat) : Int)), (10, .int .i64 ((k35 : Nat) : Int))] (I13 :: iBox p32 47 K3 :: iBox p31 47 K4 :: I8 :: I9 :: I10 :: I11 :: I12 :: is)
 refine sr ?_
 refine wv vlss ?_
 refine nt' (CM_seq ?_)
 by_cases hl43 : k35 < x0.Active.length
 ·have g44 := dlT hl43
  refine CM_condT rfl g44 ?_
  refine CM_skip (QM_then (CM_seq (CM_block (sr ?_))))
  refine WM_formO (n := 5) rfl (by omega) ?_
  rintro g45 rfl
  refine wv (vix 10 k35 underlying43 type64) ?_
  let K5 : List Value := [.slice A6 x0.Store.Segments.length c7, .int .i64 x0.Store.Now, .int .i64 x0.Cursor, .slice A10 x0.Order.length c11, .slice (some ⟨g45, 0, none⟩) x0.Active.length c15, .slice A18 x0.Done.length c19, .slice A22 x0.Ledger.length c23, .int .i64 x0.Steps]
  refine WM_focus (E := tyActive) (e := 64) (A := (some ⟨g45, 0, none⟩)) (n := x0.Active.length) (c := c15) (xs := x0.Active) (k := k35) (js := (I13 :: iBox p32 47 K3 :: iBox p31 47 K5 :: I8 :: I9 :: I11 :: I12 :: is)) (by omega) (fun W hm => (hm.front (n := 5) rfl)) (fun ck46 => ?_)
  refine tyActive_sp ?_
  rintro ⟨v47, v48, v49, v50⟩ rfl
  refine WM_form (n := 0) rfl ?_
  rintro A51 c52 rfl m53
  refine WM_form (n := 1) rfl ?_
  rintro A55 c56 rfl m57
  refine WM_form (n := 2) rfl ?_
  rintro A59 c60 rfl m61
  refine WM_form (n := 3) rfl ?_
  rintro A63 c64 rfl m65
  let K6 : List Value := [.int .i64 ((gt x0.Active k35).Query.Id), .int .i64 ((gt x0.Active k35).Query.Tenant), .slice A51 ((gt x0.Active k35).Query.Conds).length c52, .slice A55 ((gt x0.Active k35).Query.Out).length c56, .int .i64 ((gt x0.Active k35).Time), .slice A59 ((gt x0.Active k35).Todo).length c60, .int .i64 ((gt x0.Active k35).Age), .int .i64 ((gt x0.Active k35).Sent), .int .i64 ((gt x0.Active k35).Cap), .slice A63 ((gt x0.Active k35).Rows).length c64]
  refine wv (fun W hm => rv_loadN (cs := K6) underlying64 type64 rfl rfl (hm.focCells (i := 4) rfl rfl)) ?_
  refine WM_alloc type64 rfl (Wd_none rfl) (by decide) (fun p67 => ?_)
  refine WM_storeBox (p := p67) (o := 0) (cs' := K6) (fun w hm => hm.front (n := 0) rfl) type64 rfl (Nat.le_of_ble_eq_true rfl) rfl rfl rfl rfl (Wd_none rfl) ?_
  refine nt' (CM_region (wm ?_))
  refine wv (vf underlying64 rfl type3) ?_
  refine wv (vl 0 4 underlying3) ?_
  refine WM_build (cs := [.int .i64 ((gt x0.Active k35).Time)]) underlying25 type3 rfl (by decide) (by decide) rfl (by kernel_rfl) (Wd_none rfl) (by decide) (fun p68 => ?_)
  let I14 : It := iOwn (tSl tyCond 201) [.slice A51 ((gt x0.Active k35).Query.Conds).length c52] ((gt x0.Active k35).Query.Conds)
  let I15 : It := iOwn (tSl tInt 3) [.slice A55 ((gt x0.Active k35).Query.Out).length c56] ((gt x0.Active k35).Query.Out)
  let I16 : It := iOwn (tSl tInt 3) [.slice A59 ((gt x0.Active k35).Todo).length c60] ((gt x0.Active k35).Todo)
  let I17 : It := iOwn (tSl tyRow 73) [.slice A63 ((gt x0.Active k35).Rows).length c64] ((gt x0.Active k35).Rows)
  refine ap1 tInt 3 (.slice A37 d36.length c38) d36 ((gt x0.Active k35).Time) [] (iBox p67 64 K6 :: I14 :: I15 :: I16 :: I17 :: iFoc tyActive 64 (some ⟨g45, 0, none⟩) x0.Active.length c15 x0.Active k35 K6 :: iBox p32 47 K3 :: iBox p31 47 K5 :: I8 :: I9 :: I11 :: I12 :: is) [.int .i64 ((gt x0.Active k35).Time)] (fun W hm => ((hm.front (n := 7) rfl).front (n := 1) rfl)) (fun _ _ hs => by cases (Sep.nil hs); exact (els_cons tInt_own els_nil)) underlying25 type3 (show (d36.length + 1) * 8 ≤ 140737488355328 from by omega) (fun v69 => ?_)
  refine WM_form (n := 0) rfl ?_
  rintro A70 c71 rfl m72
  refine wa (WM_nil (QM_block_normal (QM_then (CM_region ?_))))
  refine wv (vadN k35 1 (by omega)) ?_
  refine wm (WM_nil ?_)
  refine QM_items (fun W hm => Mem.unfocus0 (Mem.join (is := [I14, I15, I16, I17]) (js := (iFoc tyActive 64 (some ⟨g45, 0, none⟩) x0.Active.length c15 x0.Active k35 K6 :: (iOwn (tSl tInt 3) [.slice A70 (d36 ++ [(gt x0.Active k35).Time]).length c71] (d36 ++ [(gt x0.Active k35).Time]) :: iBox p67 64 K6 :: iBox p32 47 K3 :: iBox p31 47 K5 :: I8 :: I9 :: I11 :: I12 :: is))) (fun _ _ hs => tyActive_join (x := (gt x0.Active k35)) hs) (((((hm.front (n := 6) rfl).front (n := 6) rfl).front (n := 6) rfl).front (n := 6) rfl).front (n := 6) rfl))) ?_
  have hn74 := rng_next (R := DEngine) (body := F1) (k := k35) (s := d36) (s' := (d36 ++ [(gt x0.Active k35).Time])) (show k35 < x0.Active.length from by omega) (rfl) hF40
  exact QM_round (k35 + 1, (d36 ++ [(gt x0.Active k35).Time]), (A70, c71)) sl6 (fun W hm => (((((((((hm.front (n := 8) rfl).front (n := 8) rfl).front (n := 2) rfl).front (n := 8) rfl).front (n := 8) rfl).front (n := 8) rfl).front (n := 8) rfl).front (n := 7) rfl).front (n := 8) rfl).tail) ⟨(by omega), hn74, (show (d36 ++ [(gt x0.Active k35).Time]).length ≤ 0 + (k35 + 1) from by first | omega | (simp only [List.length_append, List.length_cons, List.length_nil] at *; omega))⟩ (rl (by omega))
 ·have g44 := dlF hl43
  refine CM_condF rfl g44 ?_
  refine CM_exit (QM_then_exit (QM_then_exit ?_))
  have hE75 : R2 (x0.Active.length - 0) 0 [] = Sum.inr d36 := rng_end hl43 hF40
  refine QM_block_hit (QM_then (sr ?_))
  refine wv (vf underlying47 rfl type42) ?_
  refine wv (fun W hm => rv_loadN (cs := [.slice A6 x0.Store.Segments.length c7, .int .i64 x0.Store.Now]) underlying42 type42 rfl rfl (hm.boxPart (n := 2) rfl rfl)) ?_
  refine wm ?_
  refine WM_call (χ := List Value) (val := fun x => .tuple #[.agg x.toArray, .int .i64 ((impl_ReclaimStore_m x0.Store d36).2)]) (js := fun x => [iOwn tyStore x ((impl_ReclaimStore_m x0.Store d36).1)]) (cl_fn cb180 rfl) (fun W hm => impl_ReclaimStore_c W _ x0.Store _ d36 (tyStore_mk (x := x0.Store) (hm.rdSI (n := 3) rfl)) (hm.rdSI (n := 0) rfl) s_0.1 (show _ ≤ 68719476736 from by omega)) (Wd_none rfl) (by decide) (fun z76 => ?_)
  refine tyStore_sp ?_
  rintro v77 rfl
  refine WM_form (n := 0) rfl ?_
  rintro A78 c79 rfl m80
  refine wm ?_
  refine wv (fun W hm => rv_extract rfl rfl) ?_
  refine wv (fun W hm => rv_extract rfl rfl) ?_
  refine wv (vf underlying47 rfl type42) ?_
  let K7 : List Value := [.slice A78 (((impl_ReclaimStore_m x0.Store d36).1).Segments).length c79, .int .i64 (((impl_ReclaimStore_m x0.Store d36).1).Now), .int .i64 x0.Cursor, .slice A10 x0.Order.length c11, .slice A14 x0.Active.length c15, .slice A18 x0.Done.length c19, .slice A22 x0.Ledger.length c23, .int .i64 x0.Steps]
  refine WM_storeBox (p := p31) (o := 0) (cs' := K7) (fun w hm => hm.front (n := 3) rfl) type42 rfl (Nat.le_of_ble_eq_true rfl) rfl rfl rfl rfl (Wd_none rfl) ?_
  refine nt' (sr ?_)
  refine wv (fun W hm => rv_loadN (cs := K7) underlying47 type47 rfl rfl (hm.boxCells (n := 0) rfl)) ?_
  refine WM_storeBox (p := p32) (o := 0) (cs' := K7) (fun w hm => hm.front (n := 3) rfl) type47 rfl (Nat.le_of_ble_eq_true rfl) rfl rfl rfl rfl (Wd_none rfl) ?_
  refine nt' (CM_ret ?_)
  have he82 := (show impl_reclaimed_m x0 = (⟨((impl_ReclaimStore_m x0.Store d36).1), x0.Cursor, x0.Order, x0.Active, x0.Done, x0.Ledger, x0.Steps⟩ : DEngine) from fin_inr hE75 (rfl))
  refine QM_r1 rfl (RR_cell (n := 0) rfl rfl underlying47 type47 rfl) (fun W hm => ⟨K7, ?_, ?_⟩)
  ·first | rw [he82] | rfl
  ·rw [he82]; exact Mem.join (is := [iOwn (tSl (tSl tyVersion 191) 131) [.slice A78 (((impl_ReclaimStore_m x0.Store d36).1).Segments).length c79] (((impl_ReclaimStore_m x0.Store d36).1).Segments), I9, I10, I11, I12]) (js := is) (fun _ _ hs => tyEngine_join (x := (⟨((impl_ReclaimStore_m x0.Store d36).1), x0.Cursor, x0.Order, x0.Active, x0.Done, x0.Ledger, x0.Steps⟩ : DEngine)) hs) (((((((((hm.front (n := 8) rfl).front (n := 8) rfl).front (n := 8) rfl).front (n := 8) rfl).front (n := 6) rfl).front (n := 5) rfl).tail.front (n := 5) rfl).tail.front (n := 5) rfl).tail.front (n := 5) rfl).tail

theorem impl_FindActive_lt (x : DEngine) (i : Int) : impl_FindActive_m x i < ((x.Active.length : Nat) : Int) := by
  unfold impl_FindActive_m
  rcases rng_find (P := fun (r : Int) => r < ((x.Active.length : Nat) : Int)) (n := x.Active.length) (b := fun k (_ : Unit) => impl_FindActive_b1 x i k) (fun j hj => by
    show (∃ r, impl_FindActive_b1 x i j = _ ∧ _) ∨ impl_FindActive_b1 x i j = _
    unfold impl_FindActive_b1
    cases (gt x.Active j).Query.Id == i
    · exact .inr rfl
    · exact .inl ⟨_, rfl, by omega⟩) (x.Active.length - 0) 0 (by omega) with ⟨r, e, hp⟩ | e
  · rw [e]; exact hp
  · rw [e]; show (-1 : Int) < _; omega
def impl_CancelQuery_m (x0 : DEngine) (x1 : Int) : (DEngine × Bool) :=
 cond (impl_IsEngine_m x0) (cond (decide ((impl_FindActive_m x0 x1) < 0)) (x0, false) ((impl_reclaimed_m (⟨x0.Store, x0.Cursor, x0.Order, (List.take ((impl_FindActive_m x0 x1).toNat) x0.Active ++ List.drop ((IntKind.i64.wrap ((impl_FindActive_m x0 x1) + 1)).toNat) x0.Active), x0.Done, x0.Ledger, x0.Steps⟩ : DEngine)), true)) (x0, false)
theorem cb39 : Cb Tryz.prog 39 := ⟨f39, _, func39, rfl, by decide⟩
theorem impl_CancelQuery_c (w : World) (z0 : List Value) (x0 : DEngine) (x1 : Int) (r_0 : tyEngine.rd w w.heap.size z0 x0) (s_0 : smEngine 68719476736 x0) :
  Calls Tryz.prog 39 #[.agg z0.toArray, .int .i64 x1] w fun e w' => ∃ v : List Value, e = .returned (.tuple #[.agg v.toArray, .bool ((impl_CancelQuery_m x0 x1).2)]) ∧ Mem w.heap.size w [iOwn tyEngine v (impl_CancelQuery_m x0 x1).1] w' := by
 obtain ⟨v1, v3, v5, v7, v9, rfl, r2, r4, r6, r8, r10⟩ := tyEngine_rd r_0
 obtain ⟨m11, A12, c13, rfl, q14, r15⟩ := rdS_op r2
 obtain ⟨m16, A17, c18, rfl, q19, r20⟩ := rdS_op r4
 obtain ⟨m21, A22, c23, rfl, q24, r25⟩ := rdS_op r6
 obtain ⟨m26, A27, c28, rfl, q29, r30⟩ := rdS_op r8
 obtain ⟨m31, A32, c33, rfl, q34, r35⟩ := rdS_op r10
 have l36 : x0.Store.Segments.length ≤ 68719476736 := s_0.1.1
 have l37 : x0.Order.length ≤ 68719476736 := s_0.2.1
 have l38 : x0.Active.length ≤ 68719476736 := s_0.2.2.1.1
 have l39 : x0.Done.length ≤ 68719476736 := s_0.2.2.2.1.1
 have l40 : x0.Ledger.length ≤ 68719476736 := s_0.2.2.2.2.1
 refine ce2 (L := [(0, .agg #[.slice A12 x0.Store.Segments.length c13, .int .i64 x0.Store.Now, .int .i64 x0.Cursor, .slice A17 x0.Order.length c18, .slice A22 x0.Active.length c23, .slice A27 x0.Done.length c28, .slice A32 x0.Ledger.length c33, .int .i64 x0.Steps]), (1, .int .i64 x1)]) (N := 34) func39 ?_
 refine sr ?_
 refine WM_box rfl (Wd_none rfl) (by decide) (fun p41 => ?_)
 refine WM_alloc type47 rfl (Wd_none rfl) (by decide) (fun p42 => ?_)
 refine wa (nt' (sr ?_))
 let K1 : List Value := [.slice A12 x0.Store.Segments.length c13, .int .i64 x0.Store.Now, .int .i64 x0.Cursor, .slice A17 x0.Order.length c18, .slice A22 x0.Active.length c23, .slice A27 x0.Done.length c28, .slice A32 x0.Ledger.length c33, .int .i64 x0.Steps]
 refine wv (fun W hm => rv_loadN (cs := K1) underlying47 type47 rfl rfl (hm.boxCells (n := 1) rfl)) ?_
 refine wcs tyEngine x0 (cl_fn cb101 rfl) (fun W hm => impl_copyEngine_c2 W _ x0 (tyEngine_mk (x := x0) (hm.rdS0 r15) (hm.rdS0 r20) (hm.rdS0 r25) (hm.rdS0 r30) (hm.rdS0 r35)) s_0) (fun z43 => ?_)
 refine tyEngine_sp ?_
 rintro ⟨v44, v45, v46, v47, v48⟩ rfl
 refine WM_form (n := 0) rfl ?_
 rintro A49 c50 rfl m51
 refine WM_form (n := 1) rfl ?_
 rintro A53 c54 rfl m55
 refine WM_form (n := 2) rfl ?_
 rintro A57 c58 rfl m59
 refine WM_form (n := 3) rfl ?_
 rintro A61 c62 rfl m63
 refine WM_form (n := 4) rfl ?_
 rintro A65 c66 rfl m67
 refine WM_alloc type47 rfl (Wd_none rfl) (by decide) (fun p69 => ?_)
 let K2 : List Value := [.slice A49 x0.Store.Segments.length c50, .int .i64 x0.Store.Now, .int .i64 x0.Cursor, .slice A53 x0.Order.length c54, .slice A57 x0.Active.length c58, .slice A61 x0.Done.length c62, .slice A65 x0.Ledger.length c66, .int .i64 x0.Steps]
 let K3 : List Value := [.slice none 0 0, .int .i64 0, .int .i64 0, .slice none 0 0, .slice none 0 0, .slice none 0 0, .slice none 0 0, .int .i64 0]
 let I11 : It := iOwn (tSl (tSl tyVersion 191) 131) [.slice A49 x0.Store.Segments.length c50] x0.Store.Segments
 let I12 : It := iOwn (tSl tInt 3) [.slice A53 x0.Order.length c54] x0.Order
 let I13 : It := iOwn (tSl tyActive 64) [.slice A57 x0.Active.length c58] x0.Active
 let I14 : It := iOwn (tSl tyFinished 37) [.slice A61 x0.Done.length c62] x0.Done
 let I15 : It := iOwn (tSl tyCharge 133) [.slice A65 x0.Ledger.length c66] x0.Ledger
 refine sb 0 K2 [I11, I12, I13, I14, I15, iBox p42 47 K3, iBox p41 47 K1] (fun W hm => hm) type47 ?_
 refine nt' (sr ?_)
 refine wv (fun W hm => rv_loadN (cs := K1) underlying47 type47 rfl rfl (hm.boxCells (n := 7) rfl)) ?_
 refine wm ?_
 refine wcv (cl_fn cb38 rfl) (fun W hm => impl_FindActive_c W _ x0 x1 (tyEngine_mk (x := x0) (hm.rdS0 r15) (hm.rdS0 r20) (hm.rdS0 r25) (hm.rdS0 r30) (hm.rdS0 r35))) ?_
 have hfa := impl_FindActive_lt x0 x1
 refine wa (nt' (CM_seq (sr ?_)))
 refine wv (fun W hm => rv_loadN (cs := K1) underlying47 type47 rfl rfl (hm.boxCells (n := 7) rfl)) ?_
 refine wcv (cl_fn cb32 rfl) (fun W hm => impl_IsEngine_c W _ x0 (tyEngine_mk (x := x0) (hm.rdS0 r15) (hm.rdS0 r20) (hm.rdS0 r25) (hm.rdS0 r30) (hm.rdS0 r35)) s_0) ?_
 refine wv vnot ?_
 refine wm ?_
 rcases Bool.eq_false_or_eq_true (impl_IsEngine_m x0) with g71 | g71
 ·
  refine wg vmv (nt g71) ?_
  refine wg vlss (nt g71) ?_
  refine wv (vpF (nt g71)) ?_
  refine nt' ?_
  by_cases h72 : (impl_FindActive_m x0 x1) < 0
  ·have g73 := decide_eq_true h72
   refine CM_condT rfl g73 ?_
   refine sr ?_
   refine wv (fun W hm => rv_loadN (cs := K2) underlying47 type47 rfl rfl (hm.boxCells (n := 0) rfl)) ?_
   refine sb 0 K2 [iBox p69 47 K2, I11, I12, I13, I14, I15, iBox p41 47 K1] (pk [6, 0, 1, 2, 3, 4, 5, 7]) type47 ?_
   refine wa (nt' (CM_ret (QM_then_ret ?_)))
   have he74 := (show impl_CancelQuery_m x0 x1 = (x0, false) from cond_t g71 (cond_t g73 (rfl)))
   refine QM_r2 rfl (RR_cell (n := 0) rfl rfl underlying47 type47 rfl) (RR_tmp rfl) (fun W hm => ⟨K2, ?_, ?_⟩)
   ·first | rw [he74] | rfl
    try rfl
   ·rw [he74]; exact Mem.join (is := [I11, I12, I13, I14, I15]) (js := []) (fun _ _ hs => tyEngine_join (x := x0) hs) (hm.pick [2, 3, 4, 5, 6] (by decide))
  ·have g73 := decide_eq_false h72
   have hf0 := of_decide_eq_false g73
   have hwf := wrap_id (n := impl_FindActive_m x0 x1 + 1) (by omega) (by omega)
   refine CM_condF rfl g73 ?_
   refine CM_skip (QM_then (CM_seq ?_))
   refine CM_toCk (E := tyActive) (e := 64) (v := .slice A57 x0.Active.length c58) (xs := x0.Active) (js := [iBox p69 47 K2, I11, I12, I14, I15, iBox p42 47 K3, iBox p41 47 K1]) (pk [3, 0, 1, 2, 4, 5, 6, 7]) (fun ps75 hps76 => ?_)
   have hl77 : ps75.length = x0.Active.length := by rw [← hps76, List.length_map]
   refine CM_cap (i := 0) rfl (fun hcap78 => ?_)
   refine CM_cut (σ := Option Addr × Nat) (fun s => [(4, .pointer (some (⟨p42, 0, none⟩ : Addr))), (6, .pointer (some (⟨p69, 0, none⟩ : Addr)))]) (fun s => [iBox p69 47 [.slice A49 x0.Store.Segments.length c50, .int .i64 x0.Store.Now, .int .i64 x0.Cursor, .slice A53 x0.Order.length c54, .slice s.1 ((List.take ((impl_FindActive_m x0 x1).toNat) ps75) ++ (List.drop ((IntKind.i64.wrap ((impl_FindActive_m x0 x1) + 1)).toNat) ps75)).length s.2, .slice A61 x0.Done.length c62, .slice A65 x0.Ledger.length c66, .int .i64 x0.Steps], iOwn (tSl (tCk (ckA tyActive)) 64) [.slice s.1 ((List.take ((impl_FindActive_m x0 x1).toNat) ps75) ++ (List.drop ((IntKind.i64.wrap ((impl_FindActive_m x0 x1) + 1)).toNat) ps75)).length s.2] ((List.take ((impl_FindActive_m x0 x1).toNat) ps75) ++ (List.drop ((IntKind.i64.wrap ((impl_FindActive_m x0 x1) + 1)).toNat) ps75)), iCk tyActive ps75, I11, I12, I14, I15, iBox p42 47 K3, iBox p41 47 K1]) (fun _ => True) ?_ ?_
   ·
    refine rd2 12 [11] (s := [iCk tyActive ps75, I11, I12, I14, I15, iBox p42 47 K3, iBox p41 47 K1]) (s2 := [iCk tyActive ps75, iBox p69 47 K2, I11, I12, I14, I15, iBox p42 47 K3, iBox p41 47 K1]) (pk [1, 3, 4, 5, 6, 7, 8]) (pk [1, 2, 3, 4, 5, 6, 7, 8]) ?_
    refine qtD 12 0 1 rfl (vf underlying47 rfl type43) ?_
    refine qtD 12 1 3 rfl (vl 1 4 underlying43) ?_
    refine qtD 12 2 7 rfl vmv ?_
    refine qtD 12 4 23 rfl (vf underlying47 rfl type43) ?_
    refine qtD 12 5 55 rfl (vl 1 4 underlying43) ?_
    refine qtD 12 6 119 rfl vmv ?_
    refine qtD 12 7 247 rfl vadd ?_
    refine qaD [3, 8] ?_
    refine qcD 12 255 rfl ?_ ?_
    ·
     refine wv (fun W hm => rv_sliceHiI (k := (impl_FindActive_m x0 x1)) underlying43 type64 rfl rfl (by omega) (by omega)) ?_
     refine qnD (pk [1, 3, 4, 5, 6, 7, 8]) (pk [1, 2, 3, 4, 5, 6, 7, 8]) ?_
     refine qoD 12 8 511 rfl ?_
     refine wv (fun W hm => rv_sliceLoI (k := (IntKind.i64.wrap ((impl_FindActive_m x0 x1) + 1))) (s := 10) underlying43 type64 rfl rfl rfl (by omega) (by omega)) ?_
     refine qnD (pk [1, 3, 4, 5, 6, 7, 8]) (pk [1, 2, 3, 4, 5, 6, 7, 8]) ?_
     refine qoD 12 9 1023 rfl ?_
     refine apR (tCk (ckA tyActive)) (tCk (ckA tyActive)) 64 (.slice A57 ((impl_FindActive_m x0 x1).toNat) c58) (List.take ((impl_FindActive_m x0 x1).toNat) ps75) (List.drop ((IntKind.i64.wrap ((impl_FindActive_m x0 x1) + 1)).toNat) ps75) [iCk tyActive ps75, iBox p69 47 K2, I11, I12, I14, I15, iBox p42 47 K3, iBox p41 47 K1] (fun W hm => Mem.ckTake (by omega) hm) (fun W hm => src_flat flat_ck (rdS_drop (k := (IntKind.i64.wrap ((impl_FindActive_m x0 x1) + 1)).toNat) (by omega) (hm.rdSI (n := 0) rfl))) underlying43 type64 (show ((List.take ((impl_FindActive_m x0 x1).toNat) ps75).length + (List.drop ((IntKind.i64.wrap ((impl_FindActive_m x0 x1) + 1)).toNat) ps75).length) * 144 ≤ 140737488355328 from by first | omega | (simp only [List.length_append, List.length_cons, List.length_nil, List.length_take, List.length_drop] at *; omega)) (fun v84 => ?_)
     refine WM_form (n := 0) rfl ?_
     rintro A85 c86 rfl m87
     refine qnD (pk [1, 3, 4, 5, 6, 7, 8]) (pk [1, 2, 3, 4, 5, 6, 7, 8]) ?_
     refine qtD 12 10 2047 rfl (vf underlying47 rfl type43) ?_
     refine qoD 12 11 4095 rfl ?_
     refine sb 4 [.slice A49 x0.Store.Segments.length c50, .int .i64 x0.Store.Now, .int .i64 x0.Cursor, .slice A53 x0.Order.length c54, .slice A85 ((List.take ((impl_FindActive_m x0 x1).toNat) ps75) ++ (List.drop ((IntKind.i64.wrap ((impl_FindActive_m x0 x1) + 1)).toNat) ps75)).length c86, .slice A61 x0.Done.length c62, .slice A65 x0.Ledger.length c66, .int .i64 x0.Steps] [iOwn (tSl (tCk (ckA tyActive)) 64) [.slice A85 ((List.take ((impl_FindActive_m x0 x1).toNat) ps75) ++ (List.drop ((IntKind.i64.wrap ((impl_FindActive_m x0 x1) + 1)).toNat) ps75)).length c86] ((List.take ((impl_FindActive_m x0 x1).toNat) ps75) ++ (List.drop ((IntKind.i64.wrap ((impl_FindActive_m x0 x1) + 1)).toNat) ps75)), iCk tyActive ps75, I11, I12, I14, I15, iBox p42 47 K3, iBox p41 47 K1] (pk [2, 0, 1, 3, 4, 5, 6, 7, 8]) type43 ?_
     refine qxD (pk [2, 3, 4, 5, 6, 7, 8]) ?_
     refine QB_done (by kernel_rfl) ?_
     exact QM_cut_normal (A85, c86) sl2 (fun W hm => hm) trivial
    refine qcD 12 503 rfl ?_ ?_
    ·
     refine wv (fun W hm => rv_sliceLoI (k := (IntKind.i64.wrap ((impl_FindActive_m x0 x1) + 1))) (s := 10) underlying43 type64 rfl rfl rfl (by omega) (by omega)) ?_
     refine qnD (pk [1, 3, 4, 5, 6, 7, 8]) (pk [1, 2, 3, 4, 5, 6, 7, 8]) ?_
     refine qoD 12 3 511 rfl ?_
     refine wv (fun W hm => rv_sliceHiI (k := (impl_FindActive_m x0 x1)) underlying43 type64 rfl rfl (by omega) (by omega)) ?_
     refine qnD (pk [1, 3, 4, 5, 6, 7, 8]) (pk [1, 2, 3, 4, 5, 6, 7, 8]) ?_
     refine qoD 12 9 1023 rfl ?_
     refine apR (tCk (ckA tyActive)) (tCk (ckA tyActive)) 64 (.slice A57 ((impl_FindActive_m x0 x1).toNat) c58) (List.take ((impl_FindActive_m x0 x1).toNat) ps75) (List.drop ((IntKind.i64.wrap ((impl_FindActive_m x0 x1) + 1)).toNat) ps75) [iCk tyActive ps75, iBox p69 47 K2, I11, I12, I14, I15, iBox p42 47 K3, iBox p41 47 K1] (fun W hm => Mem.ckTake (by omega) hm) (fun W hm => src_flat flat_ck (rdS_drop (k := (IntKind.i64.wrap ((impl_FindActive_m x0 x1) + 1)).toNat) (by omega) (hm.rdSI (n := 0) rfl))) underlying43 type64 (show ((List.take ((impl_FindActive_m x0 x1).toNat) ps75).length + (List.drop ((IntKind.i64.wrap ((impl_FindActive_m x0 x1) + 1)).toNat) ps75).length) * 144 ≤ 140737488355328 from by first | omega | (simp only [List.length_append, List.length_cons, List.length_nil, List.length_take, List.length_drop] at *; omega)) (fun v89 => ?_)
     refine WM_form (n := 0) rfl ?_
     rintro A90 c91 rfl m92
     refine qnD (pk [1, 3, 4, 5, 6, 7, 8]) (pk [1, 2, 3, 4, 5, 6, 7, 8]) ?_
     refine qtD 12 10 2047 rfl (vf underlying47 rfl type43) ?_
     refine qoD 12 11 4095 rfl ?_
     refine sb 4 [.slice A49 x0.Store.Segments.length c50, .int .i64 x0.Store.Now, .int .i64 x0.Cursor, .slice A53 x0.Order.length c54, .slice A90 ((List.take ((impl_FindActive_m x0 x1).toNat) ps75) ++ (List.drop ((IntKind.i64.wrap ((impl_FindActive_m x0 x1) + 1)).toNat) ps75)).length c91, .slice A61 x0.Done.length c62, .slice A65 x0.Ledger.length c66, .int .i64 x0.Steps] [iOwn (tSl (tCk (ckA tyActive)) 64) [.slice A90 ((List.take ((impl_FindActive_m x0 x1).toNat) ps75) ++ (List.drop ((IntKind.i64.wrap ((impl_FindActive_m x0 x1) + 1)).toNat) ps75)).length c91] ((List.take ((impl_FindActive_m x0 x1).toNat) ps75) ++ (List.drop ((IntKind.i64.wrap ((impl_FindActive_m x0 x1) + 1)).toNat) ps75)), iCk tyActive ps75, I11, I12, I14, I15, iBox p42 47 K3, iBox p41 47 K1] (pk [2, 0, 1, 3, 4, 5, 6, 7, 8]) type43 ?_
     refine qxD (pk [2, 3, 4, 5, 6, 7, 8]) ?_
     refine QB_done (by kernel_rfl) ?_
     exact QM_cut_normal (A90, c91) sl2 (fun W hm => hm) trivial
    exact QDs_nil
   ·
    rintro ⟨A80, c81⟩ -
    show QM 34 _ _ _ .normal [(4, .pointer (some (⟨p42, 0, none⟩ : Addr))), (6, .pointer (some (⟨p69, 0, none⟩ : Addr)))] [iBox p69 47 [.slice A49 x0.Store.Segments.length c50, .int .i64 x0.Store.Now, .int .i64 x0.Cursor, .slice A53 x0.Order.length c54, .slice A80 ((List.take ((impl_FindActive_m x0 x1).toNat) ps75) ++ (List.drop ((IntKind.i64.wrap ((impl_FindActive_m x0 x1) + 1)).toNat) ps75)).length c81, .slice A61 x0.Done.length c62, .slice A65 x0.Ledger.length c66, .int .i64 x0.Steps], iOwn (tSl (tCk (ckA tyActive)) 64) [.slice A80 ((List.take ((impl_FindActive_m x0 x1).toNat) ps75) ++ (List.drop ((IntKind.i64.wrap ((impl_FindActive_m x0 x1) + 1)).toNat) ps75)).length c81] ((List.take ((impl_FindActive_m x0 x1).toNat) ps75) ++ (List.drop ((IntKind.i64.wrap ((impl_FindActive_m x0 x1) + 1)).toNat) ps75)), iCk tyActive ps75, I11, I12, I14, I15, iBox p42 47 K3, iBox p41 47 K1]
    refine QM_len (n := 1) rfl ?_
    intro m94 m95
    refine QM_then (sr ?_)
    refine wv (fun W hm => rv_loadN (cs := [.slice A49 x0.Store.Segments.length c50, .int .i64 x0.Store.Now, .int .i64 x0.Cursor, .slice A53 x0.Order.length c54, .slice A80 ((List.take ((impl_FindActive_m x0 x1).toNat) ps75) ++ (List.drop ((IntKind.i64.wrap ((impl_FindActive_m x0 x1) + 1)).toNat) ps75)).length c81, .slice A61 x0.Done.length c62, .slice A65 x0.Ledger.length c66, .int .i64 x0.Steps]) underlying47 type47 rfl rfl (hm.boxCells (n := 0) rfl)) ?_
    refine WM_items (js := (iOwn (tSl tyActive 64) [.slice A80 ((List.take ((impl_FindActive_m x0 x1).toNat) ps75) ++ (List.drop ((IntKind.i64.wrap ((impl_FindActive_m x0 x1) + 1)).toNat) ps75)).length c81] (List.take ((impl_FindActive_m x0 x1).toNat) x0.Active ++ List.drop ((IntKind.i64.wrap ((impl_FindActive_m x0 x1) + 1)).toNat) x0.Active) :: [iBox p69 47 [.slice A49 x0.Store.Segments.length c50, .int .i64 x0.Store.Now, .int .i64 x0.Cursor, .slice A53 x0.Order.length c54, .slice A80 ((List.take ((impl_FindActive_m x0 x1).toNat) ps75) ++ (List.drop ((IntKind.i64.wrap ((impl_FindActive_m x0 x1) + 1)).toNat) ps75)).length c81, .slice A61 x0.Done.length c62, .slice A65 x0.Ledger.length c66, .int .i64 x0.Steps], I11, I12, I14, I15, iBox p42 47 K3, iBox p41 47 K1])) (fun W hm => Mem.ckErase (k := ((impl_FindActive_m x0 x1).toNat)) (k2 := ((IntKind.i64.wrap ((impl_FindActive_m x0 x1) + 1)).toNat)) (show (impl_FindActive_m x0 x1).toNat ≤ (IntKind.i64.wrap ((impl_FindActive_m x0 x1) + 1)).toNat from by omega) hps76 (hm.pick [1, 2, 0, 3, 4, 5, 6, 7, 8] (by decide))) ?_
    have hl96 : ((List.take ((impl_FindActive_m x0 x1).toNat) ps75) ++ (List.drop ((IntKind.i64.wrap ((impl_FindActive_m x0 x1) + 1)).toNat) ps75)).length = (List.take ((impl_FindActive_m x0 x1).toNat) x0.Active ++ List.drop ((IntKind.i64.wrap ((impl_FindActive_m x0 x1) + 1)).toNat) x0.Active).length := by rw [← hps76]; simp only [List.length_append, List.length_take, List.length_drop, List.length_map, List.length_cons, List.length_nil]
    rw [hl96]
    let K4 : List Value := [.slice A49 x0.Store.Segments.length c50, .int .i64 x0.Store.Now, .int .i64 x0.Cursor, .slice A53 x0.Order.length c54, .slice A80 (List.take ((impl_FindActive_m x0 x1).toNat) x0.Active ++ List.drop ((IntKind.i64.wrap ((impl_FindActive_m x0 x1) + 1)).toNat) x0.Active).length c81, .slice A61 x0.Done.length c62, .slice A65 x0.Ledger.length c66, .int .i64 x0.Steps]
    refine WM_items (js := (iOwn tyEngine K4 (⟨x0.Store, x0.Cursor, x0.Order, (List.take ((impl_FindActive_m x0 x1).toNat) x0.Active ++ List.drop ((IntKind.i64.wrap ((impl_FindActive_m x0 x1) + 1)).toNat) x0.Active), x0.Done, x0.Ledger, x0.Steps⟩ : DEngine) :: [iBox p69 47 K4, iBox p42 47 K3, iBox p41 47 K1])) (fun W hm => Mem.join (is := [I11, I12, iOwn (tSl tyActive 64) [.slice A80 (List.take ((impl_FindActive_m x0 x1).toNat) x0.Active ++ List.drop ((IntKind.i64.wrap ((impl_FindActive_m x0 x1) + 1)).toNat) x0.Active).length c81] (List.take ((impl_FindActive_m x0 x1).toNat) x0.Active ++ List.drop ((IntKind.i64.wrap ((impl_FindActive_m x0 x1) + 1)).toNat) x0.Active), I14, I15]) (js := [iBox p69 47 K4, iBox p42 47 K3, iBox p41 47 K1]) (fun _ _ hs => tyEngine_join (x := (⟨x0.Store, x0.Cursor, x0.Order, (List.take ((impl_FindActive_m x0 x1).toNat) x0.Active ++ List.drop ((IntKind.i64.wrap ((impl_FindActive_m x0 x1) + 1)).toNat) x0.Active), x0.Done, x0.Ledger, x0.Steps⟩ : DEngine)) hs) (hm.pick [2, 3, 0, 4, 5, 1, 6, 7] (by decide))) ?_
    refine WM_callW (χ := List Value) (val := fun x => .agg x.toArray) (js := fun x => (iOwn tyEngine x (impl_reclaimed_m (⟨x0.Store, x0.Cursor, x0.Order, (List.take ((impl_FindActive_m x0 x1).toNat) x0.Active ++ List.drop ((IntKind.i64.wrap ((impl_FindActive_m x0 x1) + 1)).toNat) x0.Active), x0.Done, x0.Ledger, x0.Steps⟩ : DEngine)) :: [iBox p69 47 K4, iBox p42 47 K3, iBox p41 47 K1])) (cl_fn cb105 rfl) (fun W hm => impl_reclaimed_c w.heap.size w [iBox p69 47 K4, iBox p42 47 K3, iBox p41 47 K1] W K4 (⟨x0.Store, x0.Cursor, x0.Order, (List.take ((impl_FindActive_m x0 x1).toNat) x0.Active ++ List.drop ((IntKind.i64.wrap ((impl_FindActive_m x0 x1) + 1)).toNat) x0.Active), x0.Done, x0.Ledger, x0.Steps⟩ : DEngine)  (Engine_cut_sm s_0 (by omega)) hm) (Wd_none rfl) (by decide) (fun z97 => ?_)
    refine tyEngine_sp ?_
    rintro ⟨v98, v99, v100, v101, v102⟩ rfl
    refine WM_form (n := 0) rfl ?_
    rintro A103 c104 rfl m105
    refine WM_form (n := 1) rfl ?_
    rintro A107 c108 rfl m109
    refine WM_form (n := 2) rfl ?_
    rintro A111 c112 rfl m113
    refine WM_form (n := 3) rfl ?_
    rintro A115 c116 rfl m117
    refine WM_form (n := 4) rfl ?_
    rintro A119 c120 rfl m121
    let K5 : List Value := [.slice A103 ((impl_reclaimed_m (⟨x0.Store, x0.Cursor, x0.Order, (List.take ((impl_FindActive_m x0 x1).toNat) x0.Active ++ List.drop ((IntKind.i64.wrap ((impl_FindActive_m x0 x1) + 1)).toNat) x0.Active), x0.Done, x0.Ledger, x0.Steps⟩ : DEngine)).Store.Segments).length c104, .int .i64 ((impl_reclaimed_m (⟨x0.Store, x0.Cursor, x0.Order, (List.take ((impl_FindActive_m x0 x1).toNat) x0.Active ++ List.drop ((IntKind.i64.wrap ((impl_FindActive_m x0 x1) + 1)).toNat) x0.Active), x0.Done, x0.Ledger, x0.Steps⟩ : DEngine)).Store.Now), .int .i64 ((impl_reclaimed_m (⟨x0.Store, x0.Cursor, x0.Order, (List.take ((impl_FindActive_m x0 x1).toNat) x0.Active ++ List.drop ((IntKind.i64.wrap ((impl_FindActive_m x0 x1) + 1)).toNat) x0.Active), x0.Done, x0.Ledger, x0.Steps⟩ : DEngine)).Cursor), .slice A107 ((impl_reclaimed_m (⟨x0.Store, x0.Cursor, x0.Order, (List.take ((impl_FindActive_m x0 x1).toNat) x0.Active ++ List.drop ((IntKind.i64.wrap ((impl_FindActive_m x0 x1) + 1)).toNat) x0.Active), x0.Done, x0.Ledger, x0.Steps⟩ : DEngine)).Order).length c108, .slice A111 ((impl_reclaimed_m (⟨x0.Store, x0.Cursor, x0.Order, (List.take ((impl_FindActive_m x0 x1).toNat) x0.Active ++ List.drop ((IntKind.i64.wrap ((impl_FindActive_m x0 x1) + 1)).toNat) x0.Active), x0.Done, x0.Ledger, x0.Steps⟩ : DEngine)).Active).length c112, .slice A115 ((impl_reclaimed_m (⟨x0.Store, x0.Cursor, x0.Order, (List.take ((impl_FindActive_m x0 x1).toNat) x0.Active ++ List.drop ((IntKind.i64.wrap ((impl_FindActive_m x0 x1) + 1)).toNat) x0.Active), x0.Done, x0.Ledger, x0.Steps⟩ : DEngine)).Done).length c116, .slice A119 ((impl_reclaimed_m (⟨x0.Store, x0.Cursor, x0.Order, (List.take ((impl_FindActive_m x0 x1).toNat) x0.Active ++ List.drop ((IntKind.i64.wrap ((impl_FindActive_m x0 x1) + 1)).toNat) x0.Active), x0.Done, x0.Ledger, x0.Steps⟩ : DEngine)).Ledger).length c120, .int .i64 ((impl_reclaimed_m (⟨x0.Store, x0.Cursor, x0.Order, (List.take ((impl_FindActive_m x0 x1).toNat) x0.Active ++ List.drop ((IntKind.i64.wrap ((impl_FindActive_m x0 x1) + 1)).toNat) x0.Active), x0.Done, x0.Ledger, x0.Steps⟩ : DEngine)).Steps)]
    let K6 : List Value := [.slice A103 ((impl_reclaimed_m (⟨x0.Store, x0.Cursor, x0.Order, (List.take ((impl_FindActive_m x0 x1).toNat) x0.Active ++ List.drop ((IntKind.i64.wrap ((impl_FindActive_m x0 x1) + 1)).toNat) x0.Active), x0.Done, x0.Ledger, x0.Steps⟩ : DEngine)).Store.Segments).length c104]
    let K7 : List Value := [.slice A107 ((impl_reclaimed_m (⟨x0.Store, x0.Cursor, x0.Order, (List.take ((impl_FindActive_m x0 x1).toNat) x0.Active ++ List.drop ((IntKind.i64.wrap ((impl_FindActive_m x0 x1) + 1)).toNat) x0.Active), x0.Done, x0.Ledger, x0.Steps⟩ : DEngine)).Order).length c108]
    let K8 : List Value := [.slice A111 ((impl_reclaimed_m (⟨x0.Store, x0.Cursor, x0.Order, (List.take ((impl_FindActive_m x0 x1).toNat) x0.Active ++ List.drop ((IntKind.i64.wrap ((impl_FindActive_m x0 x1) + 1)).toNat) x0.Active), x0.Done, x0.Ledger, x0.Steps⟩ : DEngine)).Active).length c112]
    let K9 : List Value := [.slice A115 ((impl_reclaimed_m (⟨x0.Store, x0.Cursor, x0.Order, (List.take ((impl_FindActive_m x0 x1).toNat) x0.Active ++ List.drop ((IntKind.i64.wrap ((impl_FindActive_m x0 x1) + 1)).toNat) x0.Active), x0.Done, x0.Ledger, x0.Steps⟩ : DEngine)).Done).length c116]
    let K10 : List Value := [.slice A119 ((impl_reclaimed_m (⟨x0.Store, x0.Cursor, x0.Order, (List.take ((impl_FindActive_m x0 x1).toNat) x0.Active ++ List.drop ((IntKind.i64.wrap ((impl_FindActive_m x0 x1) + 1)).toNat) x0.Active), x0.Done, x0.Ledger, x0.Steps⟩ : DEngine)).Ledger).length c120]
    let I16 : It := iOwn (tSl (tSl tyVersion 191) 131) K6 ((impl_reclaimed_m (⟨x0.Store, x0.Cursor, x0.Order, (List.take ((impl_FindActive_m x0 x1).toNat) x0.Active ++ List.drop ((IntKind.i64.wrap ((impl_FindActive_m x0 x1) + 1)).toNat) x0.Active), x0.Done, x0.Ledger, x0.Steps⟩ : DEngine)).Store.Segments)
    let I17 : It := iOwn (tSl tInt 3) K7 ((impl_reclaimed_m (⟨x0.Store, x0.Cursor, x0.Order, (List.take ((impl_FindActive_m x0 x1).toNat) x0.Active ++ List.drop ((IntKind.i64.wrap ((impl_FindActive_m x0 x1) + 1)).toNat) x0.Active), x0.Done, x0.Ledger, x0.Steps⟩ : DEngine)).Order)
    let I18 : It := iOwn (tSl tyActive 64) K8 ((impl_reclaimed_m (⟨x0.Store, x0.Cursor, x0.Order, (List.take ((impl_FindActive_m x0 x1).toNat) x0.Active ++ List.drop ((IntKind.i64.wrap ((impl_FindActive_m x0 x1) + 1)).toNat) x0.Active), x0.Done, x0.Ledger, x0.Steps⟩ : DEngine)).Active)
    let I19 : It := iOwn (tSl tyFinished 37) K9 ((impl_reclaimed_m (⟨x0.Store, x0.Cursor, x0.Order, (List.take ((impl_FindActive_m x0 x1).toNat) x0.Active ++ List.drop ((IntKind.i64.wrap ((impl_FindActive_m x0 x1) + 1)).toNat) x0.Active), x0.Done, x0.Ledger, x0.Steps⟩ : DEngine)).Done)
    let I20 : It := iOwn (tSl tyCharge 133) K10 ((impl_reclaimed_m (⟨x0.Store, x0.Cursor, x0.Order, (List.take ((impl_FindActive_m x0 x1).toNat) x0.Active ++ List.drop ((IntKind.i64.wrap ((impl_FindActive_m x0 x1) + 1)).toNat) x0.Active), x0.Done, x0.Ledger, x0.Steps⟩ : DEngine)).Ledger)
    refine sb 0 K5 [I16, I17, I18, I19, I20, iBox p69 47 K4, iBox p41 47 K1] (pk [6, 0, 1, 2, 3, 4, 5, 7]) type47 ?_
    refine wa (nt' (CM_ret ?_))
    have he123 := (show impl_CancelQuery_m x0 x1 = ((impl_reclaimed_m (⟨x0.Store, x0.Cursor, x0.Order, (List.take ((impl_FindActive_m x0 x1).toNat) x0.Active ++ List.drop ((IntKind.i64.wrap ((impl_FindActive_m x0 x1) + 1)).toNat) x0.Active), x0.Done, x0.Ledger, x0.Steps⟩ : DEngine)), true) from cond_t g71 (cond_f g73 (rfl)))
    refine QM_r2 rfl (RR_cell (n := 0) rfl rfl underlying47 type47 rfl) (RR_tmp rfl) (fun W hm => ⟨K5, ?_, ?_⟩)
    ·first | rw [he123] | rfl
     try rfl
    ·rw [he123]; exact Mem.join (is := [I16, I17, I18, I19, I20]) (js := []) (fun _ _ hs => tyEngine_join (x := (impl_reclaimed_m (⟨x0.Store, x0.Cursor, x0.Order, (List.take ((impl_FindActive_m x0 x1).toNat) x0.Active ++ List.drop ((IntKind.i64.wrap ((impl_FindActive_m x0 x1) + 1)).toNat) x0.Active), x0.Done, x0.Ledger, x0.Steps⟩ : DEngine))) hs) (hm.pick [1, 2, 3, 4, 5] (by decide))
 ·
  refine ws (nf g71) ?_
  refine ws (nf g71) ?_
  refine wv (vpT (nf g71)) ?_
  refine nt' ?_
  refine CM_condT rfl rfl ?_
  refine sr ?_
  refine wv (fun W hm => rv_loadN (cs := K2) underlying47 type47 rfl rfl (hm.boxCells (n := 0) rfl)) ?_
  refine sb 0 K2 [iBox p69 47 K2, I11, I12, I13, I14, I15, iBox p41 47 K1] (pk [6, 0, 1, 2, 3, 4, 5, 7]) type47 ?_
  refine wa (nt' (CM_ret (QM_then_ret ?_)))
  have he124 := (show impl_CancelQuery_m x0 x1 = (x0, false) from cond_f g71 (rfl))
  refine QM_r2 rfl (RR_cell (n := 0) rfl rfl underlying47 type47 rfl) (RR_tmp rfl) (fun W hm => ⟨K2, ?_, ?_⟩)
  ·first | rw [he124] | rfl
   try rfl
  ·rw [he124]; exact Mem.join (is := [I11, I12, I13, I14, I15]) (js := []) (fun _ _ hs => tyEngine_join (x := x0) hs) (hm.pick [2, 3, 4, 5, 6] (by decide))

def laws_eqIntS_b1 (x0 : (List Int)) (x1 : (List Int)) (k13 : Nat) : Bool ⊕ (Unit) :=
 cond ((gt x0 k13) != (gt x1 k13)) (Sum.inl false) (Sum.inr ())
def laws_eqIntS_m (x0 : (List Int)) (x1 : (List Int)) : Bool :=
 cond (((x0.length : Nat) : Int) != ((x1.length : Nat) : Int)) false (Sum.elim id (fun (s : Unit) => true) (rng (R := Bool) (fun k (_ : Unit) => laws_eqIntS_b1 x0 x1 k) (x0.length - 0) 0 ()))
theorem cb49 : Cb Tryz.prog 49 := ⟨f49, _, func49, rfl, by decide⟩
theorem laws_eqIntS_c (w : World) (z0 : Value) (x0 : (List Int)) (z1 : Value) (x1 : (List Int)) (r_0 : rdS tInt w w.heap.size z0 x0) (r_1 : rdS tInt w w.heap.size z1 x1) :
  Calls Tryz.prog 49 #[z0, z1] w fun e w' => e = .returned (.bool (laws_eqIntS_m x0 x1)) ∧ Below w.heap.size w w' := by
 obtain ⟨m1, A2, c3, rfl, q4, r5⟩ := rdS_op r_0
 obtain ⟨m6, A7, c8, rfl, q9, r10⟩ := rdS_op r_1
 refine ce2 (L := [(0, .slice A2 x0.length c3), (1, .slice A7 x1.length c8)]) (N := 26) func49 ?_
 refine sr (wa (nt' (CM_seq (sr (wm ?_)))))
 refine wv (vlen underlying25) ?_
 refine wm ?_
 refine wv (vlen underlying25) ?_
 refine wv vneq ?_
 refine nt' ?_
 by_cases h11 : ((x0.length : Nat) : Int) = ((x1.length : Nat) : Int)
 ·have g12 : (((x0.length : Nat) : Int) != ((x1.length : Nat) : Int)) = false := by rw [h11]; exact bne_self_eq_false _
  refine CM_condF rfl g12 ?_
  refine CM_skip (QM_then (CM_seq (sr (wa (nt' (CM_block ?_))))))
  let F1 := fun k (_ : Unit) => laws_eqIntS_b1 x0 x1 k
  let R2 := rng (R := Bool) F1
  refine CM_loop (σ := Nat × (Unit) × (Unit)) (fun s => [(0, .slice A2 x0.length c3), (1, .slice A7 x1.length c8), (5, .int .i64 ((s.1 : Nat) : Int))]) (fun s => []) (fun s => s.1 ≤ x0.length ∧ R2 (x0.length - s.1) s.1 s.2.1 = R2 (x0.length - 0) 0 ()) (fun s => x0.length - s.1) (0, (), ()) sl3 (fun W hm => hm) ⟨(by omega), rfl⟩ ?_
  rintro ⟨k13, ⟨⟩, ⟨⟩⟩ H16
  obtain ⟨hk14, hF15⟩ : k13 ≤ x0.length ∧ R2 (x0.length - k13) k13 () = R2 (x0.length - 0) 0 () := H16
  show CM Tryz.prog 26 _ _ _ _ [(0, .slice A2 x0.length c3), (1, .slice A7 x1.length c8), (5, .int .i64 ((k13 : Nat) : Int))] []
  refine CM_seq (sr (wm (wm ?_)))
  refine wv (vlen underlying25) ?_
  refine wv vlss ?_
  refine nt' ?_
  by_cases hl17 : k13 < x0.length
  ·have g18 := dlT hl17
   refine CM_condT rfl g18 ?_
   refine CM_skip (QM_then (CM_seq (CM_block (CM_seq ?_))))
   refine CM_regionD (by kernel_rfl) (by kernel_rfl) ?_
   refine qm (qm ?_)
   obtain ⟨a19, rfl, hb20, he21⟩ := q4 (by omega)
   refine qv (vix 1 k13 underlying25 type3) ?_
   refine qv (fun W hm => rv_load underlying3 rfl rfl ((hm.cell0 (show (a19.add (k13 * 1)).block < w.heap.size from by rw [add_block]; exact hb20.1)).trans (rdS_int he21 k13 (by omega)))) ?_
   refine qm (qm ?_)
   obtain ⟨a22, rfl, hb23, he24⟩ := q9 (by omega)
   refine qv (vix 1 k13 underlying25 type3) ?_
   refine qv (fun W hm => rv_load underlying3 rfl rfl ((hm.cell0 (show (a22.add (k13 * 1)).block < w.heap.size from by rw [add_block]; exact hb23.1)).trans (rdS_int he24 k13 (by omega)))) ?_
   refine qv vneq ?_
   refine nq' ?_
   by_cases h25 : (gt x0 k13) = (gt x1 k13)
   ·have g26 : ((gt x0 k13) != (gt x1 k13)) = false := by rw [h25]; exact bne_self_eq_false _
    refine CM_condF rfl g26 ?_
    refine CM_skip (QM_block_normal (QM_then (CM_region (wm ?_))))
    refine wv (vadN k13 1 (by omega)) ?_
    refine wa (WM_nil ?_)
    have hn27 := rng_next (R := Bool) (body := F1) (k := k13) (s := ()) (s' := ()) (show k13 < x0.length from by omega) (cond_f g26 (rfl)) hF15
    exact QM_round (k13 + 1, (), ()) sl3 (fun W hm => hm) ⟨(by omega), hn27⟩ (rl (by omega))
   ·have g26 : ((gt x0 k13) != (gt x1 k13)) = true := bne_iff_ne.2 h25
    refine CM_condT rfl g26 ?_
    refine sr (wa (nt' (CM_ret (QM_block_ret (QM_then_ret (QM_then_ret (QM_block_ret (QM_then_ret ?_))))))))
    exact rtb (h := cond_f g12 (fin_inl (rng_ret (body := F1) (k := k13) (s := ()) (show k13 < x0.length from by omega) (cond_t g26 (rfl)) hF15) rfl))
  ·have g18 := dlF hl17
   refine CM_condF rfl g18 ?_
   refine CM_exit (QM_then_exit (QM_then_exit ?_))
   have hE28 : R2 (x0.length - 0) 0 () = Sum.inr () := rng_end hl17 hF15
   refine QM_block_hit (QM_then (sr (wa (nt' (CM_ret ?_)))))
   exact rtb (h := cond_f g12 (fin_inr hE28 (rfl)))
 ·have g12 : (((x0.length : Nat) : Int) != ((x1.length : Nat) : Int)) = true := bne_iff_ne.2 h11
  refine CM_condT rfl g12 ?_
  refine sr (wa (nt' (CM_ret (QM_then_ret ?_))))
  exact rtb (h := cond_t g12 (rfl))

def laws_eqVersion_m (x0 : DVersion) (x1 : DVersion) : Bool :=
 cond (x0.Id != x1.Id) false (cond (laws_eqIntS_m x0.Values x1.Values) (cond (x0.Born != x1.Born) false (cond (x0.Died != x1.Died) false true)) false)
theorem cb233 : Cb Tryz.prog 233 := ⟨f233, _, func233, rfl, by decide⟩
theorem laws_eqVersion_c (w : World) (z0 : List Value) (x0 : DVersion) (z1 : List Value) (x1 : DVersion) (r_0 : tyVersion.rd w w.heap.size z0 x0) (r_1 : tyVersion.rd w w.heap.size z1 x1) :
  Calls Tryz.prog 233 #[.agg z0.toArray, .agg z1.toArray] w fun e w' => e = .returned (.bool (laws_eqVersion_m x0 x1)) ∧ Below w.heap.size w w' := by
 obtain ⟨v1, rfl, r2⟩ := tyVersion_rd r_0
 obtain ⟨m3, A4, c5, rfl, q6, r7⟩ := rdS_op r2
 obtain ⟨v8, rfl, r9⟩ := tyVersion_rd r_1
 obtain ⟨m10, A11, c12, rfl, q13, r14⟩ := rdS_op r9
 refine ce2 (L := [(0, .agg #[.int .i64 x0.Id, .slice A4 x0.Values.length c5, .int .i64 x0.Born, .int .i64 x0.Died]), (1, .agg #[.int .i64 x1.Id, .slice A11 x1.Values.length c12, .int .i64 x1.Born, .int .i64 x1.Died])]) (N := 26) func233 ?_
 refine sr ?_
 refine WM_box rfl (Wd_none rfl) (by decide) (fun p15 => ?_)
 refine WM_box rfl (Wd_none rfl) (by decide) (fun p16 => ?_)
 refine wa (nt' (CM_seq (sr ?_)))
 refine wv (vf underlying191 rfl type3) ?_
 refine wv (vl 1 0 underlying3) ?_
 refine wv (vf underlying191 rfl type3) ?_
 refine wv (vl 0 0 underlying3) ?_
 refine wv vneq ?_
 refine nt' ?_
 by_cases h17 : x0.Id = x1.Id
 ·have g18 : (x0.Id != x1.Id) = false := by rw [h17]; exact bne_self_eq_false _
  refine CM_condF rfl g18 ?_
  refine CM_skip (QM_then (CM_seq (sr ?_)))
  refine wv (vf underlying191 rfl type25) ?_
  refine wv (vl 1 1 underlying25) ?_
  refine wv (vf underlying191 rfl type25) ?_
  refine wv (vl 0 1 underlying25) ?_
  refine wcv (cl_fn cb49 rfl) (fun W hm => laws_eqIntS_c W _ x0.Values _ x1.Values (hm.rdS0 r7) (hm.rdS0 r14)) ?_
  refine wv vnot ?_
  refine nt' ?_
  rcases Bool.eq_false_or_eq_true (laws_eqIntS_m x0.Values x1.Values) with g20 | g20
  ·
   refine CM_condF rfl (nt g20) ?_
   refine CM_skip (QM_then (CM_seq (sr ?_)))
   refine wv (vf underlying191 rfl type3) ?_
   refine wv (vl 1 2 underlying3) ?_
   refine wv (vf underlying191 rfl type3) ?_
   refine wv (vl 0 2 underlying3) ?_
   refine wv vneq ?_
   refine nt' ?_
   by_cases h21 : x0.Born = x1.Born
   ·have g22 : (x0.Born != x1.Born) = false := by rw [h21]; exact bne_self_eq_false _
    refine CM_condF rfl g22 ?_
    refine CM_skip (QM_then (CM_seq (sr ?_)))
    refine wv (vf underlying191 rfl type3) ?_
    refine wv (vl 1 3 underlying3) ?_
    refine wv (vf underlying191 rfl type3) ?_
    refine wv (vl 0 3 underlying3) ?_
    refine wv vneq ?_
    refine nt' ?_
    by_cases h23 : x0.Died = x1.Died
    ·have g24 : (x0.Died != x1.Died) = false := by rw [h23]; exact bne_self_eq_false _
     refine CM_condF rfl g24 ?_
     refine CM_skip (QM_then (sr (wa (nt' (CM_ret ?_)))))
     exact rtb (h := cond_f g18 (cond_t g20 (cond_f g22 (cond_f g24 (rfl)))))
    ·have g24 : (x0.Died != x1.Died) = true := bne_iff_ne.2 h23
     refine CM_condT rfl g24 ?_
     refine sr (wa (nt' (CM_ret (QM_then_ret ?_))))
     exact rtb (h := cond_f g18 (cond_t g20 (cond_f g22 (cond_t g24 (rfl)))))
   ·have g22 : (x0.Born != x1.Born) = true := bne_iff_ne.2 h21
    refine CM_condT rfl g22 ?_
    refine sr (wa (nt' (CM_ret (QM_then_ret ?_))))
    exact rtb (h := cond_f g18 (cond_t g20 (cond_t g22 (rfl))))
  ·
   refine CM_condT rfl (nf g20) ?_
   refine sr (wa (nt' (CM_ret (QM_then_ret ?_))))
   exact rtb (h := cond_f g18 (cond_f g20 (rfl)))
 ·have g18 : (x0.Id != x1.Id) = true := bne_iff_ne.2 h17
  refine CM_condT rfl g18 ?_
  refine sr (wa (nt' (CM_ret (QM_then_ret ?_))))
  exact rtb (h := cond_t g18 (rfl))

def laws_eqVersionS_b1 (x0 : (List DVersion)) (x1 : (List DVersion)) (k13 : Nat) : Bool ⊕ (Unit) :=
 cond (laws_eqVersion_m (gt x0 k13) (gt x1 k13)) (Sum.inr ()) (Sum.inl false)
def laws_eqVersionS_m (x0 : (List DVersion)) (x1 : (List DVersion)) : Bool :=
 cond (((x0.length : Nat) : Int) != ((x1.length : Nat) : Int)) false (Sum.elim id (fun (s : Unit) => true) (rng (R := Bool) (fun k (_ : Unit) => laws_eqVersionS_b1 x0 x1 k) (x0.length - 0) 0 ()))
theorem cb218 : Cb Tryz.prog 218 := ⟨f218, _, func218, rfl, by decide⟩
theorem laws_eqVersionS_c (w : World) (z0 : Value) (x0 : (List DVersion)) (z1 : Value) (x1 : (List DVersion)) (r_0 : rdS tyVersion w w.heap.size z0 x0) (r_1 : rdS tyVersion w w.heap.size z1 x1) :
  Calls Tryz.prog 218 #[z0, z1] w fun e w' => e = .returned (.bool (laws_eqVersionS_m x0 x1)) ∧ Below w.heap.size w w' := by
 obtain ⟨m1, A2, c3, rfl, q4, r5⟩ := rdS_op r_0
 obtain ⟨m6, A7, c8, rfl, q9, r10⟩ := rdS_op r_1
 refine ce2 (L := [(0, .slice A2 x0.length c3), (1, .slice A7 x1.length c8)]) (N := 27) func218 ?_
 refine sr (wa (nt' (CM_seq (sr (wm ?_)))))
 refine wv (vlen underlying131) ?_
 refine wm ?_
 refine wv (vlen underlying131) ?_
 refine wv vneq ?_
 refine nt' ?_
 by_cases h11 : ((x0.length : Nat) : Int) = ((x1.length : Nat) : Int)
 ·have g12 : (((x0.length : Nat) : Int) != ((x1.length : Nat) : Int)) = false := by rw [h11]; exact bne_self_eq_false _
  refine CM_condF rfl g12 ?_
  refine CM_skip (QM_then (CM_seq (sr (wa (nt' (CM_block ?_))))))
  let F1 := fun k (_ : Unit) => laws_eqVersionS_b1 x0 x1 k
  let R2 := rng (R := Bool) F1
  refine CM_loop (σ := Nat × (Unit) × (Unit)) (fun s => [(0, .slice A2 x0.length c3), (1, .slice A7 x1.length c8), (5, .int .i64 ((s.1 : Nat) : Int))]) (fun s => []) (fun s => s.1 ≤ x0.length ∧ R2 (x0.length - s.1) s.1 s.2.1 = R2 (x0.length - 0) 0 ()) (fun s => x0.length - s.1) (0, (), ()) sl3 (fun W hm => hm) ⟨(by omega), rfl⟩ ?_
  rintro ⟨k13, ⟨⟩, ⟨⟩⟩ H16
  obtain ⟨hk14, hF15⟩ : k13 ≤ x0.length ∧ R2 (x0.length - k13) k13 () = R2 (x0.length - 0) 0 () := H16
  show CM Tryz.prog 27 _ _ _ _ [(0, .slice A2 x0.length c3), (1, .slice A7 x1.length c8), (5, .int .i64 ((k13 : Nat) : Int))] []
  refine CM_seq (sr (wm (wm ?_)))
  refine wv (vlen underlying131) ?_
  refine wv vlss ?_
  refine nt' ?_
  by_cases hl17 : k13 < x0.length
  ·have g18 := dlT hl17
   refine CM_condT rfl g18 ?_
   refine CM_skip (QM_then (CM_seq (CM_block (CM_seq ?_))))
   refine CM_regionD (by kernel_rfl) (by kernel_rfl) ?_
   refine qm (qm ?_)
   obtain ⟨a19, rfl, hb20, he21⟩ := q4 (by omega)
   refine qv (vix 4 k13 underlying131 type191) ?_
   obtain ⟨_, e25, hc22⟩ := he21 k13 _ (gt_some (show k13 < x0.length from by omega))
   obtain ⟨v23, rfl, r24⟩ := tyVersion_rd e25
   obtain ⟨m26, A27, c28, rfl, q29, r30⟩ := rdS_op r24
   refine qv (fun W hm => rv_loadN (cs := [.int .i64 ((gt x0 k13).Id), .slice A27 ((gt x0 k13).Values).length c28, .int .i64 ((gt x0 k13).Born), .int .i64 ((gt x0 k13).Died)]) underlying191 type191 rfl rfl (hm.elCells (show (a19.add (k13 * 4)).block < w.heap.size from by rw [add_block]; exact hb20.1) hc22)) ?_
   refine qm (qm ?_)
   obtain ⟨a31, rfl, hb32, he33⟩ := q9 (by omega)
   refine qv (vix 4 k13 underlying131 type191) ?_
   obtain ⟨_, e37, hc34⟩ := he33 k13 _ (gt_some (show k13 < x1.length from by omega))
   obtain ⟨v35, rfl, r36⟩ := tyVersion_rd e37
   obtain ⟨m38, A39, c40, rfl, q41, r42⟩ := rdS_op r36
   refine qv (fun W hm => rv_loadN (cs := [.int .i64 ((gt x1 k13).Id), .slice A39 ((gt x1 k13).Values).length c40, .int .i64 ((gt x1 k13).Born), .int .i64 ((gt x1 k13).Died)]) underlying191 type191 rfl rfl (hm.elCells (show (a31.add (k13 * 4)).block < w.heap.size from by rw [add_block]; exact hb32.1) hc34)) ?_
   refine QR_callV (cl_fn cb233 rfl) (fun W hm => laws_eqVersion_c W _ (gt x0 k13) _ (gt x1 k13) (tyVersion_mk (x := (gt x0 k13)) (hm.rdS0 r30)) (tyVersion_mk (x := (gt x1 k13)) (hm.rdS0 r42))) (Wd_none rfl) (by decide) ?_
   refine qv vnot ?_
   refine nq' ?_
   rcases Bool.eq_false_or_eq_true (laws_eqVersion_m (gt x0 k13) (gt x1 k13)) with g44 | g44
   ·
    refine CM_condF rfl (nt g44) ?_
    refine CM_skip (QM_block_normal (QM_then (CM_region (wm ?_))))
    refine wv (vadN k13 1 (by omega)) ?_
    refine wa (WM_nil ?_)
    have hn45 := rng_next (R := Bool) (body := F1) (k := k13) (s := ()) (s' := ()) (show k13 < x0.length from by omega) (cond_t g44 (rfl)) hF15
    exact QM_round (k13 + 1, (), ()) sl3 (fun W hm => hm) ⟨(by omega), hn45⟩ (rl (by omega))
   ·
    refine CM_condT rfl (nf g44) ?_
    refine sr (wa (nt' (CM_ret (QM_block_ret (QM_then_ret (QM_then_ret (QM_block_ret (QM_then_ret ?_))))))))
    exact rtb (h := cond_f g12 (fin_inl (rng_ret (body := F1) (k := k13) (s := ()) (show k13 < x0.length from by omega) (cond_f g44 (rfl)) hF15) rfl))
  ·have g18 := dlF hl17
   refine CM_condF rfl g18 ?_
   refine CM_exit (QM_then_exit (QM_then_exit ?_))
   have hE46 : R2 (x0.length - 0) 0 () = Sum.inr () := rng_end hl17 hF15
   refine QM_block_hit (QM_then (sr (wa (nt' (CM_ret ?_)))))
   exact rtb (h := cond_f g12 (fin_inr hE46 (rfl)))
 ·have g12 : (((x0.length : Nat) : Int) != ((x1.length : Nat) : Int)) = true := bne_iff_ne.2 h11
  refine CM_condT rfl g12 ?_
  refine sr (wa (nt' (CM_ret (QM_then_ret ?_))))
  exact rtb (h := cond_t g12 (rfl))

def laws_eqVersionSS_b1 (x0 : (List (List DVersion))) (x1 : (List (List DVersion))) (k13 : Nat) : Bool ⊕ (Unit) :=
 cond (laws_eqVersionS_m (gt x0 k13) (gt x1 k13)) (Sum.inr ()) (Sum.inl false)
def laws_eqVersionSS_m (x0 : (List (List DVersion))) (x1 : (List (List DVersion))) : Bool :=
 cond (((x0.length : Nat) : Int) != ((x1.length : Nat) : Int)) false (Sum.elim id (fun (s : Unit) => true) (rng (R := Bool) (fun k (_ : Unit) => laws_eqVersionSS_b1 x0 x1 k) (x0.length - 0) 0 ()))
theorem cb167 : Cb Tryz.prog 167 := ⟨f167, _, func167, rfl, by decide⟩
theorem laws_eqVersionSS_c (w : World) (z0 : Value) (x0 : (List (List DVersion))) (z1 : Value) (x1 : (List (List DVersion))) (r_0 : rdS (tSl tyVersion 191) w w.heap.size z0 x0) (r_1 : rdS (tSl tyVersion 191) w w.heap.size z1 x1) :
  Calls Tryz.prog 167 #[z0, z1] w fun e w' => e = .returned (.bool (laws_eqVersionSS_m x0 x1)) ∧ Below w.heap.size w w' := by
 obtain ⟨m1, A2, c3, rfl, q4, r5⟩ := rdS_op r_0
 obtain ⟨m6, A7, c8, rfl, q9, r10⟩ := rdS_op r_1
 refine ce2 (L := [(0, .slice A2 x0.length c3), (1, .slice A7 x1.length c8)]) (N := 27) func167 ?_
 refine sr (wa (nt' (CM_seq (sr (wm ?_)))))
 refine wv (vlen underlying40) ?_
 refine wm ?_
 refine wv (vlen underlying40) ?_
 refine wv vneq ?_
 refine nt' ?_
 by_cases h11 : ((x0.length : Nat) : Int) = ((x1.length : Nat) : Int)
 ·have g12 : (((x0.length : Nat) : Int) != ((x1.length : Nat) : Int)) = false := by rw [h11]; exact bne_self_eq_false _
  refine CM_condF rfl g12 ?_
  refine CM_skip (QM_then (CM_seq (sr (wa (nt' (CM_block ?_))))))
  let F1 := fun k (_ : Unit) => laws_eqVersionSS_b1 x0 x1 k
  let R2 := rng (R := Bool) F1
  refine CM_loop (σ := Nat × (Unit) × (Unit)) (fun s => [(0, .slice A2 x0.length c3), (1, .slice A7 x1.length c8), (5, .int .i64 ((s.1 : Nat) : Int))]) (fun s => []) (fun s => s.1 ≤ x0.length ∧ R2 (x0.length - s.1) s.1 s.2.1 = R2 (x0.length - 0) 0 ()) (fun s => x0.length - s.1) (0, (), ()) sl3 (fun W hm => hm) ⟨(by omega), rfl⟩ ?_
  rintro ⟨k13, ⟨⟩, ⟨⟩⟩ H16
  obtain ⟨hk14, hF15⟩ : k13 ≤ x0.length ∧ R2 (x0.length - k13) k13 () = R2 (x0.length - 0) 0 () := H16
  show CM Tryz.prog 27 _ _ _ _ [(0, .slice A2 x0.length c3), (1, .slice A7 x1.length c8), (5, .int .i64 ((k13 : Nat) : Int))] []
  refine CM_seq (sr (wm (wm ?_)))
  refine wv (vlen underlying40) ?_
  refine wv vlss ?_
  refine nt' ?_
  by_cases hl17 : k13 < x0.length
  ·have g18 := dlT hl17
   refine CM_condT rfl g18 ?_
   refine CM_skip (QM_then (CM_seq (CM_block (CM_seq ?_))))
   refine CM_regionD (by kernel_rfl) (by kernel_rfl) ?_
   refine qm (qm ?_)
   obtain ⟨a19, rfl, hb20, he21⟩ := q4 (by omega)
   refine qv (vix 1 k13 underlying40 type131) ?_
   obtain ⟨_, e23, hc22⟩ := he21 k13 _ (gt_some (show k13 < x0.length from by omega))
   obtain ⟨v24, rfl, r25⟩ := e23
   obtain ⟨m26, A27, c28, rfl, q29, r30⟩ := rdS_op r25
   refine qv (fun W hm => rv_load underlying131 rfl rfl ((hm.cell0 (show (a19.add (k13 * 1)).block < w.heap.size from by rw [add_block]; exact hb20.1)).trans (hc22 0 _ rfl))) ?_
   refine qm (qm ?_)
   obtain ⟨a31, rfl, hb32, he33⟩ := q9 (by omega)
   refine qv (vix 1 k13 underlying40 type131) ?_
   obtain ⟨_, e35, hc34⟩ := he33 k13 _ (gt_some (show k13 < x1.length from by omega))
   obtain ⟨v36, rfl, r37⟩ := e35
   obtain ⟨m38, A39, c40, rfl, q41, r42⟩ := rdS_op r37
   refine qv (fun W hm => rv_load underlying131 rfl rfl ((hm.cell0 (show (a31.add (k13 * 1)).block < w.heap.size from by rw [add_block]; exact hb32.1)).trans (hc34 0 _ rfl))) ?_
   refine QR_callV (cl_fn cb218 rfl) (fun W hm => laws_eqVersionS_c W _ (gt x0 k13) _ (gt x1 k13) (hm.rdS0 r30) (hm.rdS0 r42)) (Wd_none rfl) (by decide) ?_
   refine qv vnot ?_
   refine nq' ?_
   rcases Bool.eq_false_or_eq_true (laws_eqVersionS_m (gt x0 k13) (gt x1 k13)) with g44 | g44
   ·
    refine CM_condF rfl (nt g44) ?_
    refine CM_skip (QM_block_normal (QM_then (CM_region (wm ?_))))
    refine wv (vadN k13 1 (by omega)) ?_
    refine wa (WM_nil ?_)
    have hn45 := rng_next (R := Bool) (body := F1) (k := k13) (s := ()) (s' := ()) (show k13 < x0.length from by omega) (cond_t g44 (rfl)) hF15
    exact QM_round (k13 + 1, (), ()) sl3 (fun W hm => hm) ⟨(by omega), hn45⟩ (rl (by omega))
   ·
    refine CM_condT rfl (nf g44) ?_
    refine sr (wa (nt' (CM_ret (QM_block_ret (QM_then_ret (QM_then_ret (QM_block_ret (QM_then_ret ?_))))))))
    exact rtb (h := cond_f g12 (fin_inl (rng_ret (body := F1) (k := k13) (s := ()) (show k13 < x0.length from by omega) (cond_f g44 (rfl)) hF15) rfl))
  ·have g18 := dlF hl17
   refine CM_condF rfl g18 ?_
   refine CM_exit (QM_then_exit (QM_then_exit ?_))
   have hE46 : R2 (x0.length - 0) 0 () = Sum.inr () := rng_end hl17 hF15
   refine QM_block_hit (QM_then (sr (wa (nt' (CM_ret ?_)))))
   exact rtb (h := cond_f g12 (fin_inr hE46 (rfl)))
 ·have g12 : (((x0.length : Nat) : Int) != ((x1.length : Nat) : Int)) = true := bne_iff_ne.2 h11
  refine CM_condT rfl g12 ?_
  refine sr (wa (nt' (CM_ret (QM_then_ret ?_))))
  exact rtb (h := cond_t g12 (rfl))

def laws_eqStore_m (x0 : DStore) (x1 : DStore) : Bool :=
 cond (laws_eqVersionSS_m x0.Segments x1.Segments) (cond (x0.Now != x1.Now) false true) false
theorem cb88 : Cb Tryz.prog 88 := ⟨f88, _, func88, rfl, by decide⟩
theorem laws_eqStore_c (w : World) (z0 : List Value) (x0 : DStore) (z1 : List Value) (x1 : DStore) (r_0 : tyStore.rd w w.heap.size z0 x0) (r_1 : tyStore.rd w w.heap.size z1 x1) :
  Calls Tryz.prog 88 #[.agg z0.toArray, .agg z1.toArray] w fun e w' => e = .returned (.bool (laws_eqStore_m x0 x1)) ∧ Below w.heap.size w w' := by
 obtain ⟨v1, rfl, r2⟩ := tyStore_rd r_0
 obtain ⟨m3, A4, c5, rfl, q6, r7⟩ := rdS_op r2
 obtain ⟨v8, rfl, r9⟩ := tyStore_rd r_1
 obtain ⟨m10, A11, c12, rfl, q13, r14⟩ := rdS_op r9
 refine ce2 (L := [(0, .agg #[.slice A4 x0.Segments.length c5, .int .i64 x0.Now]), (1, .agg #[.slice A11 x1.Segments.length c12, .int .i64 x1.Now])]) (N := 16) func88 ?_
 refine sr ?_
 refine WM_box rfl (Wd_none rfl) (by decide) (fun p15 => ?_)
 refine WM_box rfl (Wd_none rfl) (by decide) (fun p16 => ?_)
 refine wa (nt' (CM_seq (sr ?_)))
 refine wv (vf underlying42 rfl type40) ?_
 refine wv (vl 1 0 underlying40) ?_
 refine wv (vf underlying42 rfl type40) ?_
 refine wv (vl 0 0 underlying40) ?_
 refine wcv (cl_fn cb167 rfl) (fun W hm => laws_eqVersionSS_c W _ x0.Segments _ x1.Segments (hm.rdS0 r7) (hm.rdS0 r14)) ?_
 refine wv vnot ?_
 refine nt' ?_
 rcases Bool.eq_false_or_eq_true (laws_eqVersionSS_m x0.Segments x1.Segments) with g18 | g18
 ·
  refine CM_condF rfl (nt g18) ?_
  refine CM_skip (QM_then (CM_seq (sr ?_)))
  refine wv (vf underlying42 rfl type3) ?_
  refine wv (vl 1 1 underlying3) ?_
  refine wv (vf underlying42 rfl type3) ?_
  refine wv (vl 0 1 underlying3) ?_
  refine wv vneq ?_
  refine nt' ?_
  by_cases h19 : x0.Now = x1.Now
  ·have g20 : (x0.Now != x1.Now) = false := by rw [h19]; exact bne_self_eq_false _
   refine CM_condF rfl g20 ?_
   refine CM_skip (QM_then (sr (wa (nt' (CM_ret ?_)))))
   exact rtb (h := cond_t g18 (cond_f g20 (rfl)))
  ·have g20 : (x0.Now != x1.Now) = true := bne_iff_ne.2 h19
   refine CM_condT rfl g20 ?_
   refine sr (wa (nt' (CM_ret (QM_then_ret ?_))))
   exact rtb (h := cond_t g18 (cond_t g20 (rfl)))
 ·
  refine CM_condT rfl (nf g18) ?_
  refine sr (wa (nt' (CM_ret (QM_then_ret ?_))))
  exact rtb (h := cond_f g18 (rfl))

def laws_eqCond_m (x0 : DCond) (x1 : DCond) : Bool :=
 cond (x0.Field != x1.Field) false (cond (x0.Low != x1.Low) false (cond (x0.High != x1.High) false true))
theorem cb204 : Cb Tryz.prog 204 := ⟨f204, _, func204, rfl, by decide⟩
theorem laws_eqCond_c (w : World) (z0 : List Value) (x0 : DCond) (z1 : List Value) (x1 : DCond) (r_0 : tyCond.rd w w.heap.size z0 x0) (r_1 : tyCond.rd w w.heap.size z1 x1) :
  Calls Tryz.prog 204 #[.agg z0.toArray, .agg z1.toArray] w fun e w' => e = .returned (.bool (laws_eqCond_m x0 x1)) ∧ Below w.heap.size w w' := by
 obtain rfl := tyCond_rd r_0
 obtain rfl := tyCond_rd r_1
 refine ce2 (L := [(0, .agg #[.int .i64 x0.Field, .int .i64 x0.Low, .int .i64 x0.High]), (1, .agg #[.int .i64 x1.Field, .int .i64 x1.Low, .int .i64 x1.High])]) (N := 20) func204 ?_
 refine sr ?_
 refine WM_box rfl (Wd_none rfl) (by decide) (fun p1 => ?_)
 refine WM_box rfl (Wd_none rfl) (by decide) (fun p2 => ?_)
 refine wa (nt' (CM_seq (sr ?_)))
 refine wv (vf underlying201 rfl type3) ?_
 refine wv (vl 1 0 underlying3) ?_
 refine wv (vf underlying201 rfl type3) ?_
 refine wv (vl 0 0 underlying3) ?_
 refine wv vneq ?_
 refine nt' ?_
 by_cases h3 : x0.Field = x1.Field
 ·have g4 : (x0.Field != x1.Field) = false := by rw [h3]; exact bne_self_eq_false _
  refine CM_condF rfl g4 ?_
  refine CM_skip (QM_then (CM_seq (sr ?_)))
  refine wv (vf underlying201 rfl type3) ?_
  refine wv (vl 1 1 underlying3) ?_
  refine wv (vf underlying201 rfl type3) ?_
  refine wv (vl 0 1 underlying3) ?_
  refine wv vneq ?_
  refine nt' ?_
  by_cases h5 : x0.Low = x1.Low
  ·have g6 : (x0.Low != x1.Low) = false := by rw [h5]; exact bne_self_eq_false _
   refine CM_condF rfl g6 ?_
   refine CM_skip (QM_then (CM_seq (sr ?_)))
   refine wv (vf underlying201 rfl type3) ?_
   refine wv (vl 1 2 underlying3) ?_
   refine wv (vf underlying201 rfl type3) ?_
   refine wv (vl 0 2 underlying3) ?_
   refine wv vneq ?_
   refine nt' ?_
   by_cases h7 : x0.High = x1.High
   ·have g8 : (x0.High != x1.High) = false := by rw [h7]; exact bne_self_eq_false _
    refine CM_condF rfl g8 ?_
    refine CM_skip (QM_then (sr (wa (nt' (CM_ret ?_)))))
    exact rtb (h := cond_f g4 (cond_f g6 (cond_f g8 (rfl))))
   ·have g8 : (x0.High != x1.High) = true := bne_iff_ne.2 h7
    refine CM_condT rfl g8 ?_
    refine sr (wa (nt' (CM_ret (QM_then_ret ?_))))
    exact rtb (h := cond_f g4 (cond_f g6 (cond_t g8 (rfl))))
  ·have g6 : (x0.Low != x1.Low) = true := bne_iff_ne.2 h5
   refine CM_condT rfl g6 ?_
   refine sr (wa (nt' (CM_ret (QM_then_ret ?_))))
   exact rtb (h := cond_f g4 (cond_t g6 (rfl)))
 ·have g4 : (x0.Field != x1.Field) = true := bne_iff_ne.2 h3
  refine CM_condT rfl g4 ?_
  refine sr (wa (nt' (CM_ret (QM_then_ret ?_))))
  exact rtb (h := cond_t g4 (rfl))

def laws_eqCondS_b1 (x0 : (List DCond)) (x1 : (List DCond)) (k13 : Nat) : Bool ⊕ (Unit) :=
 cond (laws_eqCond_m (gt x0 k13) (gt x1 k13)) (Sum.inr ()) (Sum.inl false)
def laws_eqCondS_m (x0 : (List DCond)) (x1 : (List DCond)) : Bool :=
 cond (((x0.length : Nat) : Int) != ((x1.length : Nat) : Int)) false (Sum.elim id (fun (s : Unit) => true) (rng (R := Bool) (fun k (_ : Unit) => laws_eqCondS_b1 x0 x1 k) (x0.length - 0) 0 ()))
theorem cb145 : Cb Tryz.prog 145 := ⟨f145, _, func145, rfl, by decide⟩
theorem laws_eqCondS_c (w : World) (z0 : Value) (x0 : (List DCond)) (z1 : Value) (x1 : (List DCond)) (r_0 : rdS tyCond w w.heap.size z0 x0) (r_1 : rdS tyCond w w.heap.size z1 x1) :
  Calls Tryz.prog 145 #[z0, z1] w fun e w' => e = .returned (.bool (laws_eqCondS_m x0 x1)) ∧ Below w.heap.size w w' := by
 obtain ⟨m1, A2, c3, rfl, q4, r5⟩ := rdS_op r_0
 obtain ⟨m6, A7, c8, rfl, q9, r10⟩ := rdS_op r_1
 refine ce2 (L := [(0, .slice A2 x0.length c3), (1, .slice A7 x1.length c8)]) (N := 27) func145 ?_
 refine sr (wa (nt' (CM_seq (sr (wm ?_)))))
 refine wv (vlen underlying32) ?_
 refine wm ?_
 refine wv (vlen underlying32) ?_
 refine wv vneq ?_
 refine nt' ?_
 by_cases h11 : ((x0.length : Nat) : Int) = ((x1.length : Nat) : Int)
 ·have g12 : (((x0.length : Nat) : Int) != ((x1.length : Nat) : Int)) = false := by rw [h11]; exact bne_self_eq_false _
  refine CM_condF rfl g12 ?_
  refine CM_skip (QM_then (CM_seq (sr (wa (nt' (CM_block ?_))))))
  let F1 := fun k (_ : Unit) => laws_eqCondS_b1 x0 x1 k
  let R2 := rng (R := Bool) F1
  refine CM_loop (σ := Nat × (Unit) × (Unit)) (fun s => [(0, .slice A2 x0.length c3), (1, .slice A7 x1.length c8), (5, .int .i64 ((s.1 : Nat) : Int))]) (fun s => []) (fun s => s.1 ≤ x0.length ∧ R2 (x0.length - s.1) s.1 s.2.1 = R2 (x0.length - 0) 0 ()) (fun s => x0.length - s.1) (0, (), ()) sl3 (fun W hm => hm) ⟨(by omega), rfl⟩ ?_
  rintro ⟨k13, ⟨⟩, ⟨⟩⟩ H16
  obtain ⟨hk14, hF15⟩ : k13 ≤ x0.length ∧ R2 (x0.length - k13) k13 () = R2 (x0.length - 0) 0 () := H16
  show CM Tryz.prog 27 _ _ _ _ [(0, .slice A2 x0.length c3), (1, .slice A7 x1.length c8), (5, .int .i64 ((k13 : Nat) : Int))] []
  refine CM_seq (sr (wm (wm ?_)))
  refine wv (vlen underlying32) ?_
  refine wv vlss ?_
  refine nt' ?_
  by_cases hl17 : k13 < x0.length
  ·have g18 := dlT hl17
   refine CM_condT rfl g18 ?_
   refine CM_skip (QM_then (CM_seq (CM_block (CM_seq ?_))))
   refine CM_regionD (by kernel_rfl) (by kernel_rfl) ?_
   refine qm (qm ?_)
   obtain ⟨a19, rfl, hb20, he21⟩ := q4 (by omega)
   refine qv (vix 3 k13 underlying32 type201) ?_
   obtain ⟨_, e23, hc22⟩ := he21 k13 _ (gt_some (show k13 < x0.length from by omega))
   obtain rfl := tyCond_rd e23
   refine qv (fun W hm => rv_loadN (cs := [.int .i64 ((gt x0 k13).Field), .int .i64 ((gt x0 k13).Low), .int .i64 ((gt x0 k13).High)]) underlying201 type201 rfl rfl (hm.elCells (show (a19.add (k13 * 3)).block < w.heap.size from by rw [add_block]; exact hb20.1) hc22)) ?_
   refine qm (qm ?_)
   obtain ⟨a24, rfl, hb25, he26⟩ := q9 (by omega)
   refine qv (vix 3 k13 underlying32 type201) ?_
   obtain ⟨_, e28, hc27⟩ := he26 k13 _ (gt_some (show k13 < x1.length from by omega))
   obtain rfl := tyCond_rd e28
   refine qv (fun W hm => rv_loadN (cs := [.int .i64 ((gt x1 k13).Field), .int .i64 ((gt x1 k13).Low), .int .i64 ((gt x1 k13).High)]) underlying201 type201 rfl rfl (hm.elCells (show (a24.add (k13 * 3)).block < w.heap.size from by rw [add_block]; exact hb25.1) hc27)) ?_
   refine QR_callV (cl_fn cb204 rfl) (fun W hm => laws_eqCond_c W _ (gt x0 k13) _ (gt x1 k13) (tyCond_mk (x := (gt x0 k13))) (tyCond_mk (x := (gt x1 k13)))) (Wd_none rfl) (by decide) ?_
   refine qv vnot ?_
   refine nq' ?_
   rcases Bool.eq_false_or_eq_true (laws_eqCond_m (gt x0 k13) (gt x1 k13)) with g30 | g30
   ·
    refine CM_condF rfl (nt g30) ?_
    refine CM_skip (QM_block_normal (QM_then (CM_region (wm ?_))))
    refine wv (vadN k13 1 (by omega)) ?_
    refine wa (WM_nil ?_)
    have hn31 := rng_next (R := Bool) (body := F1) (k := k13) (s := ()) (s' := ()) (show k13 < x0.length from by omega) (cond_t g30 (rfl)) hF15
    exact QM_round (k13 + 1, (), ()) sl3 (fun W hm => hm) ⟨(by omega), hn31⟩ (rl (by omega))
   ·
    refine CM_condT rfl (nf g30) ?_
    refine sr (wa (nt' (CM_ret (QM_block_ret (QM_then_ret (QM_then_ret (QM_block_ret (QM_then_ret ?_))))))))
    exact rtb (h := cond_f g12 (fin_inl (rng_ret (body := F1) (k := k13) (s := ()) (show k13 < x0.length from by omega) (cond_f g30 (rfl)) hF15) rfl))
  ·have g18 := dlF hl17
   refine CM_condF rfl g18 ?_
   refine CM_exit (QM_then_exit (QM_then_exit ?_))
   have hE32 : R2 (x0.length - 0) 0 () = Sum.inr () := rng_end hl17 hF15
   refine QM_block_hit (QM_then (sr (wa (nt' (CM_ret ?_)))))
   exact rtb (h := cond_f g12 (fin_inr hE32 (rfl)))
 ·have g12 : (((x0.length : Nat) : Int) != ((x1.length : Nat) : Int)) = true := bne_iff_ne.2 h11
  refine CM_condT rfl g12 ?_
  refine sr (wa (nt' (CM_ret (QM_then_ret ?_))))
  exact rtb (h := cond_t g12 (rfl))

def laws_eqQuery_m (x0 : DQuery) (x1 : DQuery) : Bool :=
 cond (x0.Id != x1.Id) false (cond (x0.Tenant != x1.Tenant) false (cond (laws_eqCondS_m x0.Conds x1.Conds) (cond (laws_eqIntS_m x0.Out x1.Out) true false) false))
theorem cb54 : Cb Tryz.prog 54 := ⟨f54, _, func54, rfl, by decide⟩
theorem laws_eqQuery_c (w : World) (z0 : List Value) (x0 : DQuery) (z1 : List Value) (x1 : DQuery) (r_0 : tyQuery.rd w w.heap.size z0 x0) (r_1 : tyQuery.rd w w.heap.size z1 x1) :
  Calls Tryz.prog 54 #[.agg z0.toArray, .agg z1.toArray] w fun e w' => e = .returned (.bool (laws_eqQuery_m x0 x1)) ∧ Below w.heap.size w w' := by
 obtain ⟨v1, v3, rfl, r2, r4⟩ := tyQuery_rd r_0
 obtain ⟨m5, A6, c7, rfl, q8, r9⟩ := rdS_op r2
 obtain ⟨m10, A11, c12, rfl, q13, r14⟩ := rdS_op r4
 obtain ⟨v15, v17, rfl, r16, r18⟩ := tyQuery_rd r_1
 obtain ⟨m19, A20, c21, rfl, q22, r23⟩ := rdS_op r16
 obtain ⟨m24, A25, c26, rfl, q27, r28⟩ := rdS_op r18
 refine ce2 (L := [(0, .agg #[.int .i64 x0.Id, .int .i64 x0.Tenant, .slice A6 x0.Conds.length c7, .slice A11 x0.Out.length c12]), (1, .agg #[.int .i64 x1.Id, .int .i64 x1.Tenant, .slice A20 x1.Conds.length c21, .slice A25 x1.Out.length c26])]) (N := 27) func54 ?_
 refine sr ?_
 refine WM_box rfl (Wd_none rfl) (by decide) (fun p29 => ?_)
 refine WM_box rfl (Wd_none rfl) (by decide) (fun p30 => ?_)
 refine wa (nt' (CM_seq (sr ?_)))
 refine wv (vf underlying34 rfl type3) ?_
 refine wv (vl 1 0 underlying3) ?_
 refine wv (vf underlying34 rfl type3) ?_
 refine wv (vl 0 0 underlying3) ?_
 refine wv vneq ?_
 refine nt' ?_
 by_cases h31 : x0.Id = x1.Id
 ·have g32 : (x0.Id != x1.Id) = false := by rw [h31]; exact bne_self_eq_false _
  refine CM_condF rfl g32 ?_
  refine CM_skip (QM_then (CM_seq (sr ?_)))
  refine wv (vf underlying34 rfl type3) ?_
  refine wv (vl 1 1 underlying3) ?_
  refine wv (vf underlying34 rfl type3) ?_
  refine wv (vl 0 1 underlying3) ?_
  refine wv vneq ?_
  refine nt' ?_
  by_cases h33 : x0.Tenant = x1.Tenant
  ·have g34 : (x0.Tenant != x1.Tenant) = false := by rw [h33]; exact bne_self_eq_false _
   refine CM_condF rfl g34 ?_
   refine CM_skip (QM_then (CM_seq (sr ?_)))
   refine wv (vf underlying34 rfl type32) ?_
   refine wv (vl 1 2 underlying32) ?_
   refine wv (vf underlying34 rfl type32) ?_
   refine wv (vl 0 2 underlying32) ?_
   refine wcv (cl_fn cb145 rfl) (fun W hm => laws_eqCondS_c W _ x0.Conds _ x1.Conds (hm.rdS0 r9) (hm.rdS0 r23)) ?_
   refine wv vnot ?_
   refine nt' ?_
   rcases Bool.eq_false_or_eq_true (laws_eqCondS_m x0.Conds x1.Conds) with g36 | g36
   ·
    refine CM_condF rfl (nt g36) ?_
    refine CM_skip (QM_then (CM_seq (sr ?_)))
    refine wv (vf underlying34 rfl type25) ?_
    refine wv (vl 1 3 underlying25) ?_
    refine wv (vf underlying34 rfl type25) ?_
    refine wv (vl 0 3 underlying25) ?_
    refine wcv (cl_fn cb49 rfl) (fun W hm => laws_eqIntS_c W _ x0.Out _ x1.Out (hm.rdS0 r14) (hm.rdS0 r28)) ?_
    refine wv vnot ?_
    refine nt' ?_
    rcases Bool.eq_false_or_eq_true (laws_eqIntS_m x0.Out x1.Out) with g38 | g38
    ·
     refine CM_condF rfl (nt g38) ?_
     refine CM_skip (QM_then (sr (wa (nt' (CM_ret ?_)))))
     exact rtb (h := cond_f g32 (cond_f g34 (cond_t g36 (cond_t g38 (rfl)))))
    ·
     refine CM_condT rfl (nf g38) ?_
     refine sr (wa (nt' (CM_ret (QM_then_ret ?_))))
     exact rtb (h := cond_f g32 (cond_f g34 (cond_t g36 (cond_f g38 (rfl)))))
   ·
    refine CM_condT rfl (nf g36) ?_
    refine sr (wa (nt' (CM_ret (QM_then_ret ?_))))
    exact rtb (h := cond_f g32 (cond_f g34 (cond_f g36 (rfl))))
  ·have g34 : (x0.Tenant != x1.Tenant) = true := bne_iff_ne.2 h33
   refine CM_condT rfl g34 ?_
   refine sr (wa (nt' (CM_ret (QM_then_ret ?_))))
   exact rtb (h := cond_f g32 (cond_t g34 (rfl)))
 ·have g32 : (x0.Id != x1.Id) = true := bne_iff_ne.2 h31
  refine CM_condT rfl g32 ?_
  refine sr (wa (nt' (CM_ret (QM_then_ret ?_))))
  exact rtb (h := cond_t g32 (rfl))

def laws_eqRow_m (x0 : DRow) (x1 : DRow) : Bool :=
 cond (x0.Id != x1.Id) false (cond (laws_eqIntS_m x0.Values x1.Values) true false)
theorem cb149 : Cb Tryz.prog 149 := ⟨f149, _, func149, rfl, by decide⟩
theorem laws_eqRow_c (w : World) (z0 : List Value) (x0 : DRow) (z1 : List Value) (x1 : DRow) (r_0 : tyRow.rd w w.heap.size z0 x0) (r_1 : tyRow.rd w w.heap.size z1 x1) :
  Calls Tryz.prog 149 #[.agg z0.toArray, .agg z1.toArray] w fun e w' => e = .returned (.bool (laws_eqRow_m x0 x1)) ∧ Below w.heap.size w w' := by
 obtain ⟨v1, rfl, r2⟩ := tyRow_rd r_0
 obtain ⟨m3, A4, c5, rfl, q6, r7⟩ := rdS_op r2
 obtain ⟨v8, rfl, r9⟩ := tyRow_rd r_1
 obtain ⟨m10, A11, c12, rfl, q13, r14⟩ := rdS_op r9
 refine ce2 (L := [(0, .agg #[.int .i64 x0.Id, .slice A4 x0.Values.length c5]), (1, .agg #[.int .i64 x1.Id, .slice A11 x1.Values.length c12])]) (N := 16) func149 ?_
 refine sr ?_
 refine WM_box rfl (Wd_none rfl) (by decide) (fun p15 => ?_)
 refine WM_box rfl (Wd_none rfl) (by decide) (fun p16 => ?_)
 refine wa (nt' (CM_seq (sr ?_)))
 refine wv (vf underlying73 rfl type3) ?_
 refine wv (vl 1 0 underlying3) ?_
 refine wv (vf underlying73 rfl type3) ?_
 refine wv (vl 0 0 underlying3) ?_
 refine wv vneq ?_
 refine nt' ?_
 by_cases h17 : x0.Id = x1.Id
 ·have g18 : (x0.Id != x1.Id) = false := by rw [h17]; exact bne_self_eq_false _
  refine CM_condF rfl g18 ?_
  refine CM_skip (QM_then (CM_seq (sr ?_)))
  refine wv (vf underlying73 rfl type25) ?_
  refine wv (vl 1 1 underlying25) ?_
  refine wv (vf underlying73 rfl type25) ?_
  refine wv (vl 0 1 underlying25) ?_
  refine wcv (cl_fn cb49 rfl) (fun W hm => laws_eqIntS_c W _ x0.Values _ x1.Values (hm.rdS0 r7) (hm.rdS0 r14)) ?_
  refine wv vnot ?_
  refine nt' ?_
  rcases Bool.eq_false_or_eq_true (laws_eqIntS_m x0.Values x1.Values) with g20 | g20
  ·
   refine CM_condF rfl (nt g20) ?_
   refine CM_skip (QM_then (sr (wa (nt' (CM_ret ?_)))))
   exact rtb (h := cond_f g18 (cond_t g20 (rfl)))
  ·
   refine CM_condT rfl (nf g20) ?_
   refine sr (wa (nt' (CM_ret (QM_then_ret ?_))))
   exact rtb (h := cond_f g18 (cond_f g20 (rfl)))
 ·have g18 : (x0.Id != x1.Id) = true := bne_iff_ne.2 h17
  refine CM_condT rfl g18 ?_
  refine sr (wa (nt' (CM_ret (QM_then_ret ?_))))
  exact rtb (h := cond_t g18 (rfl))

def laws_eqRowS_b1 (x0 : (List DRow)) (x1 : (List DRow)) (k13 : Nat) : Bool ⊕ (Unit) :=
 cond (laws_eqRow_m (gt x0 k13) (gt x1 k13)) (Sum.inr ()) (Sum.inl false)
def laws_eqRowS_m (x0 : (List DRow)) (x1 : (List DRow)) : Bool :=
 cond (((x0.length : Nat) : Int) != ((x1.length : Nat) : Int)) false (Sum.elim id (fun (s : Unit) => true) (rng (R := Bool) (fun k (_ : Unit) => laws_eqRowS_b1 x0 x1 k) (x0.length - 0) 0 ()))
theorem cb87 : Cb Tryz.prog 87 := ⟨f87, _, func87, rfl, by decide⟩
theorem laws_eqRowS_c (w : World) (z0 : Value) (x0 : (List DRow)) (z1 : Value) (x1 : (List DRow)) (r_0 : rdS tyRow w w.heap.size z0 x0) (r_1 : rdS tyRow w w.heap.size z1 x1) :
  Calls Tryz.prog 87 #[z0, z1] w fun e w' => e = .returned (.bool (laws_eqRowS_m x0 x1)) ∧ Below w.heap.size w w' := by
 obtain ⟨m1, A2, c3, rfl, q4, r5⟩ := rdS_op r_0
 obtain ⟨m6, A7, c8, rfl, q9, r10⟩ := rdS_op r_1
 refine ce2 (L := [(0, .slice A2 x0.length c3), (1, .slice A7 x1.length c8)]) (N := 27) func87 ?_
 refine sr (wa (nt' (CM_seq (sr (wm ?_)))))
 refine wv (vlen underlying35) ?_
 refine wm ?_
 refine wv (vlen underlying35) ?_
 refine wv vneq ?_
 refine nt' ?_
 by_cases h11 : ((x0.length : Nat) : Int) = ((x1.length : Nat) : Int)
 ·have g12 : (((x0.length : Nat) : Int) != ((x1.length : Nat) : Int)) = false := by rw [h11]; exact bne_self_eq_false _
  refine CM_condF rfl g12 ?_
  refine CM_skip (QM_then (CM_seq (sr (wa (nt' (CM_block ?_))))))
  let F1 := fun k (_ : Unit) => laws_eqRowS_b1 x0 x1 k
  let R2 := rng (R := Bool) F1
  refine CM_loop (σ := Nat × (Unit) × (Unit)) (fun s => [(0, .slice A2 x0.length c3), (1, .slice A7 x1.length c8), (5, .int .i64 ((s.1 : Nat) : Int))]) (fun s => []) (fun s => s.1 ≤ x0.length ∧ R2 (x0.length - s.1) s.1 s.2.1 = R2 (x0.length - 0) 0 ()) (fun s => x0.length - s.1) (0, (), ()) sl3 (fun W hm => hm) ⟨(by omega), rfl⟩ ?_
  rintro ⟨k13, ⟨⟩, ⟨⟩⟩ H16
  obtain ⟨hk14, hF15⟩ : k13 ≤ x0.length ∧ R2 (x0.length - k13) k13 () = R2 (x0.length - 0) 0 () := H16
  show CM Tryz.prog 27 _ _ _ _ [(0, .slice A2 x0.length c3), (1, .slice A7 x1.length c8), (5, .int .i64 ((k13 : Nat) : Int))] []
  refine CM_seq (sr (wm (wm ?_)))
  refine wv (vlen underlying35) ?_
  refine wv vlss ?_
  refine nt' ?_
  by_cases hl17 : k13 < x0.length
  ·have g18 := dlT hl17
   refine CM_condT rfl g18 ?_
   refine CM_skip (QM_then (CM_seq (CM_block (CM_seq ?_))))
   refine CM_regionD (by kernel_rfl) (by kernel_rfl) ?_
   refine qm (qm ?_)
   obtain ⟨a19, rfl, hb20, he21⟩ := q4 (by omega)
   refine qv (vix 2 k13 underlying35 type73) ?_
   obtain ⟨_, e25, hc22⟩ := he21 k13 _ (gt_some (show k13 < x0.length from by omega))
   obtain ⟨v23, rfl, r24⟩ := tyRow_rd e25
   obtain ⟨m26, A27, c28, rfl, q29, r30⟩ := rdS_op r24
   refine qv (fun W hm => rv_loadN (cs := [.int .i64 ((gt x0 k13).Id), .slice A27 ((gt x0 k13).Values).length c28]) underlying73 type73 rfl rfl (hm.elCells (show (a19.add (k13 * 2)).block < w.heap.size from by rw [add_block]; exact hb20.1) hc22)) ?_
   refine qm (qm ?_)
   obtain ⟨a31, rfl, hb32, he33⟩ := q9 (by omega)
   refine qv (vix 2 k13 underlying35 type73) ?_
   obtain ⟨_, e37, hc34⟩ := he33 k13 _ (gt_some (show k13 < x1.length from by omega))
   obtain ⟨v35, rfl, r36⟩ := tyRow_rd e37
   obtain ⟨m38, A39, c40, rfl, q41, r42⟩ := rdS_op r36
   refine qv (fun W hm => rv_loadN (cs := [.int .i64 ((gt x1 k13).Id), .slice A39 ((gt x1 k13).Values).length c40]) underlying73 type73 rfl rfl (hm.elCells (show (a31.add (k13 * 2)).block < w.heap.size from by rw [add_block]; exact hb32.1) hc34)) ?_
   refine QR_callV (cl_fn cb149 rfl) (fun W hm => laws_eqRow_c W _ (gt x0 k13) _ (gt x1 k13) (tyRow_mk (x := (gt x0 k13)) (hm.rdS0 r30)) (tyRow_mk (x := (gt x1 k13)) (hm.rdS0 r42))) (Wd_none rfl) (by decide) ?_
   refine qv vnot ?_
   refine nq' ?_
   rcases Bool.eq_false_or_eq_true (laws_eqRow_m (gt x0 k13) (gt x1 k13)) with g44 | g44
   ·
    refine CM_condF rfl (nt g44) ?_
    refine CM_skip (QM_block_normal (QM_then (CM_region (wm ?_))))
    refine wv (vadN k13 1 (by omega)) ?_
    refine wa (WM_nil ?_)
    have hn45 := rng_next (R := Bool) (body := F1) (k := k13) (s := ()) (s' := ()) (show k13 < x0.length from by omega) (cond_t g44 (rfl)) hF15
    exact QM_round (k13 + 1, (), ()) sl3 (fun W hm => hm) ⟨(by omega), hn45⟩ (rl (by omega))
   ·
    refine CM_condT rfl (nf g44) ?_
    refine sr (wa (nt' (CM_ret (QM_block_ret (QM_then_ret (QM_then_ret (QM_block_ret (QM_then_ret ?_))))))))
    exact rtb (h := cond_f g12 (fin_inl (rng_ret (body := F1) (k := k13) (s := ()) (show k13 < x0.length from by omega) (cond_f g44 (rfl)) hF15) rfl))
  ·have g18 := dlF hl17
   refine CM_condF rfl g18 ?_
   refine CM_exit (QM_then_exit (QM_then_exit ?_))
   have hE46 : R2 (x0.length - 0) 0 () = Sum.inr () := rng_end hl17 hF15
   refine QM_block_hit (QM_then (sr (wa (nt' (CM_ret ?_)))))
   exact rtb (h := cond_f g12 (fin_inr hE46 (rfl)))
 ·have g12 : (((x0.length : Nat) : Int) != ((x1.length : Nat) : Int)) = true := bne_iff_ne.2 h11
  refine CM_condT rfl g12 ?_
  refine sr (wa (nt' (CM_ret (QM_then_ret ?_))))
  exact rtb (h := cond_t g12 (rfl))

def laws_eqActive_m (x0 : DActive) (x1 : DActive) : Bool :=
 cond (laws_eqQuery_m x0.Query x1.Query) (cond (x0.Time != x1.Time) false (cond (laws_eqIntS_m x0.Todo x1.Todo) (cond (x0.Age != x1.Age) false (cond (x0.Sent != x1.Sent) false (cond (x0.Cap != x1.Cap) false (cond (laws_eqRowS_m x0.Rows x1.Rows) true false)))) false)) false
theorem cb168 : Cb Tryz.prog 168 := ⟨f168, _, func168, rfl, by decide⟩
theorem laws_eqActive_c (w : World) (z0 : List Value) (x0 : DActive) (z1 : List Value) (x1 : DActive) (r_0 : tyActive.rd w w.heap.size z0 x0) (r_1 : tyActive.rd w w.heap.size z1 x1) :
  Calls Tryz.prog 168 #[.agg z0.toArray, .agg z1.toArray] w fun e w' => e = .returned (.bool (laws_eqActive_m x0 x1)) ∧ Below w.heap.size w w' := by
 obtain ⟨v1, v3, v5, v7, rfl, r2, r4, r6, r8⟩ := tyActive_rd r_0
 obtain ⟨m9, A10, c11, rfl, q12, r13⟩ := rdS_op r2
 obtain ⟨m14, A15, c16, rfl, q17, r18⟩ := rdS_op r4
 obtain ⟨m19, A20, c21, rfl, q22, r23⟩ := rdS_op r6
 obtain ⟨m24, A25, c26, rfl, q27, r28⟩ := rdS_op r8
 obtain ⟨v29, v31, v33, v35, rfl, r30, r32, r34, r36⟩ := tyActive_rd r_1
 obtain ⟨m37, A38, c39, rfl, q40, r41⟩ := rdS_op r30
 obtain ⟨m42, A43, c44, rfl, q45, r46⟩ := rdS_op r32
 obtain ⟨m47, A48, c49, rfl, q50, r51⟩ := rdS_op r34
 obtain ⟨m52, A53, c54, rfl, q55, r56⟩ := rdS_op r36
 refine ce2 (L := [(0, .agg #[.int .i64 x0.Query.Id, .int .i64 x0.Query.Tenant, .slice A10 x0.Query.Conds.length c11, .slice A15 x0.Query.Out.length c16, .int .i64 x0.Time, .slice A20 x0.Todo.length c21, .int .i64 x0.Age, .int .i64 x0.Sent, .int .i64 x0.Cap, .slice A25 x0.Rows.length c26]), (1, .agg #[.int .i64 x1.Query.Id, .int .i64 x1.Query.Tenant, .slice A38 x1.Query.Conds.length c39, .slice A43 x1.Query.Out.length c44, .int .i64 x1.Time, .slice A48 x1.Todo.length c49, .int .i64 x1.Age, .int .i64 x1.Sent, .int .i64 x1.Cap, .slice A53 x1.Rows.length c54])]) (N := 43) func168 ?_
 refine sr ?_
 refine WM_box rfl (Wd_none rfl) (by decide) (fun p57 => ?_)
 refine WM_box rfl (Wd_none rfl) (by decide) (fun p58 => ?_)
 refine wa (nt' (CM_seq (sr ?_)))
 refine wv (vf underlying64 rfl type34) ?_
 refine wv (fun W hm => rv_loadN (cs := [.int .i64 x0.Query.Id, .int .i64 x0.Query.Tenant, .slice A10 x0.Query.Conds.length c11, .slice A15 x0.Query.Out.length c16]) underlying34 type34 rfl rfl (hm.boxPart (n := 1) rfl rfl)) ?_
 refine wv (vf underlying64 rfl type34) ?_
 refine wv (fun W hm => rv_loadN (cs := [.int .i64 x1.Query.Id, .int .i64 x1.Query.Tenant, .slice A38 x1.Query.Conds.length c39, .slice A43 x1.Query.Out.length c44]) underlying34 type34 rfl rfl (hm.boxPart (n := 0) rfl rfl)) ?_
 refine wcv (cl_fn cb54 rfl) (fun W hm => laws_eqQuery_c W _ x0.Query _ x1.Query (tyQuery_mk (x := x0.Query) (hm.rdS0 r13) (hm.rdS0 r18)) (tyQuery_mk (x := x1.Query) (hm.rdS0 r41) (hm.rdS0 r46))) ?_
 refine wv vnot ?_
 refine nt' ?_
 rcases Bool.eq_false_or_eq_true (laws_eqQuery_m x0.Query x1.Query) with g60 | g60
 ·
  refine CM_condF rfl (nt g60) ?_
  refine CM_skip (QM_then (CM_seq (sr ?_)))
  refine wv (vf underlying64 rfl type3) ?_
  refine wv (vl 1 4 underlying3) ?_
  refine wv (vf underlying64 rfl type3) ?_
  refine wv (vl 0 4 underlying3) ?_
  refine wv vneq ?_
  refine nt' ?_
  by_cases h61 : x0.Time = x1.Time
  ·have g62 : (x0.Time != x1.Time) = false := by rw [h61]; exact bne_self_eq_false _
   refine CM_condF rfl g62 ?_
   refine CM_skip (QM_then (CM_seq (sr ?_)))
   refine wv (vf underlying64 rfl type25) ?_
   refine wv (vl 1 5 underlying25) ?_
   refine wv (vf underlying64 rfl type25) ?_
   refine wv (vl 0 5 underlying25) ?_
   refine wcv (cl_fn cb49 rfl) (fun W hm => laws_eqIntS_c W _ x0.Todo _ x1.Todo (hm.rdS0 r23) (hm.rdS0 r51)) ?_
   refine wv vnot ?_
   refine nt' ?_
   rcases Bool.eq_false_or_eq_true (laws_eqIntS_m x0.Todo x1.Todo) with g64 | g64
   ·
    refine CM_condF rfl (nt g64) ?_
    refine CM_skip (QM_then (CM_seq (sr ?_)))
    refine wv (vf underlying64 rfl type3) ?_
    refine wv (vl 1 6 underlying3) ?_
    refine wv (vf underlying64 rfl type3) ?_
    refine wv (vl 0 6 underlying3) ?_
    refine wv vneq ?_
    refine nt' ?_
    by_cases h65 : x0.Age = x1.Age
    ·have g66 : (x0.Age != x1.Age) = false := by rw [h65]; exact bne_self_eq_false _
     refine CM_condF rfl g66 ?_
     refine CM_skip (QM_then (CM_seq (sr ?_)))
     refine wv (vf underlying64 rfl type3) ?_
     refine wv (vl 1 7 underlying3) ?_
     refine wv (vf underlying64 rfl type3) ?_
     refine wv (vl 0 7 underlying3) ?_
     refine wv vneq ?_
     refine nt' ?_
     by_cases h67 : x0.Sent = x1.Sent
     ·have g68 : (x0.Sent != x1.Sent) = false := by rw [h67]; exact bne_self_eq_false _
      refine CM_condF rfl g68 ?_
      refine CM_skip (QM_then (CM_seq (sr ?_)))
      refine wv (vf underlying64 rfl type3) ?_
      refine wv (vl 1 8 underlying3) ?_
      refine wv (vf underlying64 rfl type3) ?_
      refine wv (vl 0 8 underlying3) ?_
      refine wv vneq ?_
      refine nt' ?_
      by_cases h69 : x0.Cap = x1.Cap
      ·have g70 : (x0.Cap != x1.Cap) = false := by rw [h69]; exact bne_self_eq_false _
       refine CM_condF rfl g70 ?_
       refine CM_skip (QM_then (CM_seq (sr ?_)))
       refine wv (vf underlying64 rfl type35) ?_
       refine wv (vl 1 9 underlying35) ?_
       refine wv (vf underlying64 rfl type35) ?_
       refine wv (vl 0 9 underlying35) ?_
       refine wcv (cl_fn cb87 rfl) (fun W hm => laws_eqRowS_c W _ x0.Rows _ x1.Rows (hm.rdS0 r28) (hm.rdS0 r56)) ?_
       refine wv vnot ?_
       refine nt' ?_
       rcases Bool.eq_false_or_eq_true (laws_eqRowS_m x0.Rows x1.Rows) with g72 | g72
       ·
        refine CM_condF rfl (nt g72) ?_
        refine CM_skip (QM_then (sr (wa (nt' (CM_ret ?_)))))
        exact rtb (h := cond_t g60 (cond_f g62 (cond_t g64 (cond_f g66 (cond_f g68 (cond_f g70 (cond_t g72 (rfl))))))))
       ·
        refine CM_condT rfl (nf g72) ?_
        refine sr (wa (nt' (CM_ret (QM_then_ret ?_))))
        exact rtb (h := cond_t g60 (cond_f g62 (cond_t g64 (cond_f g66 (cond_f g68 (cond_f g70 (cond_f g72 (rfl))))))))
      ·have g70 : (x0.Cap != x1.Cap) = true := bne_iff_ne.2 h69
       refine CM_condT rfl g70 ?_
       refine sr (wa (nt' (CM_ret (QM_then_ret ?_))))
       exact rtb (h := cond_t g60 (cond_f g62 (cond_t g64 (cond_f g66 (cond_f g68 (cond_t g70 (rfl)))))))
     ·have g68 : (x0.Sent != x1.Sent) = true := bne_iff_ne.2 h67
      refine CM_condT rfl g68 ?_
      refine sr (wa (nt' (CM_ret (QM_then_ret ?_))))
      exact rtb (h := cond_t g60 (cond_f g62 (cond_t g64 (cond_f g66 (cond_t g68 (rfl))))))
    ·have g66 : (x0.Age != x1.Age) = true := bne_iff_ne.2 h65
     refine CM_condT rfl g66 ?_
     refine sr (wa (nt' (CM_ret (QM_then_ret ?_))))
     exact rtb (h := cond_t g60 (cond_f g62 (cond_t g64 (cond_t g66 (rfl)))))
   ·
    refine CM_condT rfl (nf g64) ?_
    refine sr (wa (nt' (CM_ret (QM_then_ret ?_))))
    exact rtb (h := cond_t g60 (cond_f g62 (cond_f g64 (rfl))))
  ·have g62 : (x0.Time != x1.Time) = true := bne_iff_ne.2 h61
   refine CM_condT rfl g62 ?_
   refine sr (wa (nt' (CM_ret (QM_then_ret ?_))))
   exact rtb (h := cond_t g60 (cond_t g62 (rfl)))
 ·
  refine CM_condT rfl (nf g60) ?_
  refine sr (wa (nt' (CM_ret (QM_then_ret ?_))))
  exact rtb (h := cond_f g60 (rfl))

def laws_eqActiveS_b1 (x0 : (List DActive)) (x1 : (List DActive)) (k13 : Nat) : Bool ⊕ (Unit) :=
 cond (laws_eqActive_m (gt x0 k13) (gt x1 k13)) (Sum.inr ()) (Sum.inl false)
def laws_eqActiveS_m (x0 : (List DActive)) (x1 : (List DActive)) : Bool :=
 cond (((x0.length : Nat) : Int) != ((x1.length : Nat) : Int)) false (Sum.elim id (fun (s : Unit) => true) (rng (R := Bool) (fun k (_ : Unit) => laws_eqActiveS_b1 x0 x1 k) (x0.length - 0) 0 ()))
theorem cb89 : Cb Tryz.prog 89 := ⟨f89, _, func89, rfl, by decide⟩
theorem laws_eqActiveS_c (w : World) (z0 : Value) (x0 : (List DActive)) (z1 : Value) (x1 : (List DActive)) (r_0 : rdS tyActive w w.heap.size z0 x0) (r_1 : rdS tyActive w w.heap.size z1 x1) :
  Calls Tryz.prog 89 #[z0, z1] w fun e w' => e = .returned (.bool (laws_eqActiveS_m x0 x1)) ∧ Below w.heap.size w w' := by
 obtain ⟨m1, A2, c3, rfl, q4, r5⟩ := rdS_op r_0
 obtain ⟨m6, A7, c8, rfl, q9, r10⟩ := rdS_op r_1
 refine ce2 (L := [(0, .slice A2 x0.length c3), (1, .slice A7 x1.length c8)]) (N := 27) func89 ?_
 refine sr (wa (nt' (CM_seq (sr (wm ?_)))))
 refine wv (vlen underlying43) ?_
 refine wm ?_
 refine wv (vlen underlying43) ?_
 refine wv vneq ?_
 refine nt' ?_
 by_cases h11 : ((x0.length : Nat) : Int) = ((x1.length : Nat) : Int)
 ·have g12 : (((x0.length : Nat) : Int) != ((x1.length : Nat) : Int)) = false := by rw [h11]; exact bne_self_eq_false _
  refine CM_condF rfl g12 ?_
  refine CM_skip (QM_then (CM_seq (sr (wa (nt' (CM_block ?_))))))
  let F1 := fun k (_ : Unit) => laws_eqActiveS_b1 x0 x1 k
  let R2 := rng (R := Bool) F1
  refine CM_loop (σ := Nat × (Unit) × (Unit)) (fun s => [(0, .slice A2 x0.length c3), (1, .slice A7 x1.length c8), (5, .int .i64 ((s.1 : Nat) : Int))]) (fun s => []) (fun s => s.1 ≤ x0.length ∧ R2 (x0.length - s.1) s.1 s.2.1 = R2 (x0.length - 0) 0 ()) (fun s => x0.length - s.1) (0, (), ()) sl3 (fun W hm => hm) ⟨(by omega), rfl⟩ ?_
  rintro ⟨k13, ⟨⟩, ⟨⟩⟩ H16
  obtain ⟨hk14, hF15⟩ : k13 ≤ x0.length ∧ R2 (x0.length - k13) k13 () = R2 (x0.length - 0) 0 () := H16
  show CM Tryz.prog 27 _ _ _ _ [(0, .slice A2 x0.length c3), (1, .slice A7 x1.length c8), (5, .int .i64 ((k13 : Nat) : Int))] []
  refine CM_seq (sr (wm (wm ?_)))
  refine wv (vlen underlying43) ?_
  refine wv vlss ?_
  refine nt' ?_
  by_cases hl17 : k13 < x0.length
  ·have g18 := dlT hl17
   refine CM_condT rfl g18 ?_
   refine CM_skip (QM_then (CM_seq (CM_block (CM_seq ?_))))
   refine CM_regionD (by kernel_rfl) (by kernel_rfl) ?_
   refine qm (qm ?_)
   obtain ⟨a19, rfl, hb20, he21⟩ := q4 (by omega)
   refine qv (vix 10 k13 underlying43 type64) ?_
   obtain ⟨_, e31, hc22⟩ := he21 k13 _ (gt_some (show k13 < x0.length from by omega))
   obtain ⟨v23, v25, v27, v29, rfl, r24, r26, r28, r30⟩ := tyActive_rd e31
   obtain ⟨m32, A33, c34, rfl, q35, r36⟩ := rdS_op r24
   obtain ⟨m37, A38, c39, rfl, q40, r41⟩ := rdS_op r26
   obtain ⟨m42, A43, c44, rfl, q45, r46⟩ := rdS_op r28
   obtain ⟨m47, A48, c49, rfl, q50, r51⟩ := rdS_op r30
   refine qv (fun W hm => rv_loadN (cs := [.int .i64 ((gt x0 k13).Query.Id), .int .i64 ((gt x0 k13).Query.Tenant), .slice A33 ((gt x0 k13).Query.Conds).length c34, .slice A38 ((gt x0 k13).Query.Out).length c39, .int .i64 ((gt x0 k13).Time), .slice A43 ((gt x0 k13).Todo).length c44, .int .i64 ((gt x0 k13).Age), .int .i64 ((gt x0 k13).Sent), .int .i64 ((gt x0 k13).Cap), .slice A48 ((gt x0 k13).Rows).length c49]) underlying64 type64 rfl rfl (hm.elCells (show (a19.add (k13 * 10)).block < w.heap.size from by rw [add_block]; exact hb20.1) hc22)) ?_
   refine qm (qm ?_)
   obtain ⟨a52, rfl, hb53, he54⟩ := q9 (by omega)
   refine qv (vix 10 k13 underlying43 type64) ?_
   obtain ⟨_, e64, hc55⟩ := he54 k13 _ (gt_some (show k13 < x1.length from by omega))
   obtain ⟨v56, v58, v60, v62, rfl, r57, r59, r61, r63⟩ := tyActive_rd e64
   obtain ⟨m65, A66, c67, rfl, q68, r69⟩ := rdS_op r57
   obtain ⟨m70, A71, c72, rfl, q73, r74⟩ := rdS_op r59
   obtain ⟨m75, A76, c77, rfl, q78, r79⟩ := rdS_op r61
   obtain ⟨m80, A81, c82, rfl, q83, r84⟩ := rdS_op r63
   refine qv (fun W hm => rv_loadN (cs := [.int .i64 ((gt x1 k13).Query.Id), .int .i64 ((gt x1 k13).Query.Tenant), .slice A66 ((gt x1 k13).Query.Conds).length c67, .slice A71 ((gt x1 k13).Query.Out).length c72, .int .i64 ((gt x1 k13).Time), .slice A76 ((gt x1 k13).Todo).length c77, .int .i64 ((gt x1 k13).Age), .int .i64 ((gt x1 k13).Sent), .int .i64 ((gt x1 k13).Cap), .slice A81 ((gt x1 k13).Rows).length c82]) underlying64 type64 rfl rfl (hm.elCells (show (a52.add (k13 * 10)).block < w.heap.size from by rw [add_block]; exact hb53.1) hc55)) ?_
   refine QR_callV (cl_fn cb168 rfl) (fun W hm => laws_eqActive_c W _ (gt x0 k13) _ (gt x1 k13) (tyActive_mk (x := (gt x0 k13)) (hm.rdS0 r36) (hm.rdS0 r41) (hm.rdS0 r46) (hm.rdS0 r51)) (tyActive_mk (x := (gt x1 k13)) (hm.rdS0 r69) (hm.rdS0 r74) (hm.rdS0 r79) (hm.rdS0 r84))) (Wd_none rfl) (by decide) ?_
   refine qv vnot ?_
   refine nq' ?_
   rcases Bool.eq_false_or_eq_true (laws_eqActive_m (gt x0 k13) (gt x1 k13)) with g86 | g86
   ·
    refine CM_condF rfl (nt g86) ?_
    refine CM_skip (QM_block_normal (QM_then (CM_region (wm ?_))))
    refine wv (vadN k13 1 (by omega)) ?_
    refine wa (WM_nil ?_)
    have hn87 := rng_next (R := Bool) (body := F1) (k := k13) (s := ()) (s' := ()) (show k13 < x0.length from by omega) (cond_t g86 (rfl)) hF15
    exact QM_round (k13 + 1, (), ()) sl3 (fun W hm => hm) ⟨(by omega), hn87⟩ (rl (by omega))
   ·
    refine CM_condT rfl (nf g86) ?_
    refine sr (wa (nt' (CM_ret (QM_block_ret (QM_then_ret (QM_then_ret (QM_block_ret (QM_then_ret ?_))))))))
    exact rtb (h := cond_f g12 (fin_inl (rng_ret (body := F1) (k := k13) (s := ()) (show k13 < x0.length from by omega) (cond_f g86 (rfl)) hF15) rfl))
  ·have g18 := dlF hl17
   refine CM_condF rfl g18 ?_
   refine CM_exit (QM_then_exit (QM_then_exit ?_))
   have hE88 : R2 (x0.length - 0) 0 () = Sum.inr () := rng_end hl17 hF15
   refine QM_block_hit (QM_then (sr (wa (nt' (CM_ret ?_)))))
   exact rtb (h := cond_f g12 (fin_inr hE88 (rfl)))
 ·have g12 : (((x0.length : Nat) : Int) != ((x1.length : Nat) : Int)) = true := bne_iff_ne.2 h11
  refine CM_condT rfl g12 ?_
  refine sr (wa (nt' (CM_ret (QM_then_ret ?_))))
  exact rtb (h := cond_t g12 (rfl))

def laws_eqFinished_m (x0 : DFinished) (x1 : DFinished) : Bool :=
 cond (laws_eqQuery_m x0.Query x1.Query) (cond (x0.Time != x1.Time) false (cond (x0.Steps != x1.Steps) false (cond (laws_eqRowS_m x0.Rows x1.Rows) true false))) false
theorem cb18 : Cb Tryz.prog 18 := ⟨f18, _, func18, rfl, by decide⟩
theorem laws_eqFinished_c (w : World) (z0 : List Value) (x0 : DFinished) (z1 : List Value) (x1 : DFinished) (r_0 : tyFinished.rd w w.heap.size z0 x0) (r_1 : tyFinished.rd w w.heap.size z1 x1) :
  Calls Tryz.prog 18 #[.agg z0.toArray, .agg z1.toArray] w fun e w' => e = .returned (.bool (laws_eqFinished_m x0 x1)) ∧ Below w.heap.size w w' := by
 obtain ⟨v1, v3, v5, rfl, r2, r4, r6⟩ := tyFinished_rd r_0
 obtain ⟨m7, A8, c9, rfl, q10, r11⟩ := rdS_op r2
 obtain ⟨m12, A13, c14, rfl, q15, r16⟩ := rdS_op r4
 obtain ⟨m17, A18, c19, rfl, q20, r21⟩ := rdS_op r6
 obtain ⟨v22, v24, v26, rfl, r23, r25, r27⟩ := tyFinished_rd r_1
 obtain ⟨m28, A29, c30, rfl, q31, r32⟩ := rdS_op r23
 obtain ⟨m33, A34, c35, rfl, q36, r37⟩ := rdS_op r25
 obtain ⟨m38, A39, c40, rfl, q41, r42⟩ := rdS_op r27
 refine ce2 (L := [(0, .agg #[.int .i64 x0.Query.Id, .int .i64 x0.Query.Tenant, .slice A8 x0.Query.Conds.length c9, .slice A13 x0.Query.Out.length c14, .int .i64 x0.Time, .int .i64 x0.Steps, .slice A18 x0.Rows.length c19]), (1, .agg #[.int .i64 x1.Query.Id, .int .i64 x1.Query.Tenant, .slice A29 x1.Query.Conds.length c30, .slice A34 x1.Query.Out.length c35, .int .i64 x1.Time, .int .i64 x1.Steps, .slice A39 x1.Rows.length c40])]) (N := 27) func18 ?_
 refine sr ?_
 refine WM_box rfl (Wd_none rfl) (by decide) (fun p43 => ?_)
 refine WM_box rfl (Wd_none rfl) (by decide) (fun p44 => ?_)
 refine wa (nt' (CM_seq (sr ?_)))
 refine wv (vf underlying37 rfl type34) ?_
 refine wv (fun W hm => rv_loadN (cs := [.int .i64 x0.Query.Id, .int .i64 x0.Query.Tenant, .slice A8 x0.Query.Conds.length c9, .slice A13 x0.Query.Out.length c14]) underlying34 type34 rfl rfl (hm.boxPart (n := 1) rfl rfl)) ?_
 refine wv (vf underlying37 rfl type34) ?_
 refine wv (fun W hm => rv_loadN (cs := [.int .i64 x1.Query.Id, .int .i64 x1.Query.Tenant, .slice A29 x1.Query.Conds.length c30, .slice A34 x1.Query.Out.length c35]) underlying34 type34 rfl rfl (hm.boxPart (n := 0) rfl rfl)) ?_
 refine wcv (cl_fn cb54 rfl) (fun W hm => laws_eqQuery_c W _ x0.Query _ x1.Query (tyQuery_mk (x := x0.Query) (hm.rdS0 r11) (hm.rdS0 r16)) (tyQuery_mk (x := x1.Query) (hm.rdS0 r32) (hm.rdS0 r37))) ?_
 refine wv vnot ?_
 refine nt' ?_
 rcases Bool.eq_false_or_eq_true (laws_eqQuery_m x0.Query x1.Query) with g46 | g46
 ·
  refine CM_condF rfl (nt g46) ?_
  refine CM_skip (QM_then (CM_seq (sr ?_)))
  refine wv (vf underlying37 rfl type3) ?_
  refine wv (vl 1 4 underlying3) ?_
  refine wv (vf underlying37 rfl type3) ?_
  refine wv (vl 0 4 underlying3) ?_
  refine wv vneq ?_
  refine nt' ?_
  by_cases h47 : x0.Time = x1.Time
  ·have g48 : (x0.Time != x1.Time) = false := by rw [h47]; exact bne_self_eq_false _
   refine CM_condF rfl g48 ?_
   refine CM_skip (QM_then (CM_seq (sr ?_)))
   refine wv (vf underlying37 rfl type3) ?_
   refine wv (vl 1 5 underlying3) ?_
   refine wv (vf underlying37 rfl type3) ?_
   refine wv (vl 0 5 underlying3) ?_
   refine wv vneq ?_
   refine nt' ?_
   by_cases h49 : x0.Steps = x1.Steps
   ·have g50 : (x0.Steps != x1.Steps) = false := by rw [h49]; exact bne_self_eq_false _
    refine CM_condF rfl g50 ?_
    refine CM_skip (QM_then (CM_seq (sr ?_)))
    refine wv (vf underlying37 rfl type35) ?_
    refine wv (vl 1 6 underlying35) ?_
    refine wv (vf underlying37 rfl type35) ?_
    refine wv (vl 0 6 underlying35) ?_
    refine wcv (cl_fn cb87 rfl) (fun W hm => laws_eqRowS_c W _ x0.Rows _ x1.Rows (hm.rdS0 r21) (hm.rdS0 r42)) ?_
    refine wv vnot ?_
    refine nt' ?_
    rcases Bool.eq_false_or_eq_true (laws_eqRowS_m x0.Rows x1.Rows) with g52 | g52
    ·
     refine CM_condF rfl (nt g52) ?_
     refine CM_skip (QM_then (sr (wa (nt' (CM_ret ?_)))))
     exact rtb (h := cond_t g46 (cond_f g48 (cond_f g50 (cond_t g52 (rfl)))))
    ·
     refine CM_condT rfl (nf g52) ?_
     refine sr (wa (nt' (CM_ret (QM_then_ret ?_))))
     exact rtb (h := cond_t g46 (cond_f g48 (cond_f g50 (cond_f g52 (rfl)))))
   ·have g50 : (x0.Steps != x1.Steps) = true := bne_iff_ne.2 h49
    refine CM_condT rfl g50 ?_
    refine sr (wa (nt' (CM_ret (QM_then_ret ?_))))
    exact rtb (h := cond_t g46 (cond_f g48 (cond_t g50 (rfl))))
  ·have g48 : (x0.Time != x1.Time) = true := bne_iff_ne.2 h47
   refine CM_condT rfl g48 ?_
   refine sr (wa (nt' (CM_ret (QM_then_ret ?_))))
   exact rtb (h := cond_t g46 (cond_t g48 (rfl)))
 ·
  refine CM_condT rfl (nf g46) ?_
  refine sr (wa (nt' (CM_ret (QM_then_ret ?_))))
  exact rtb (h := cond_f g46 (rfl))

def laws_eqFinishedS_b1 (x0 : (List DFinished)) (x1 : (List DFinished)) (k13 : Nat) : Bool ⊕ (Unit) :=
 cond (laws_eqFinished_m (gt x0 k13) (gt x1 k13)) (Sum.inr ()) (Sum.inl false)
def laws_eqFinishedS_m (x0 : (List DFinished)) (x1 : (List DFinished)) : Bool :=
 cond (((x0.length : Nat) : Int) != ((x1.length : Nat) : Int)) false (Sum.elim id (fun (s : Unit) => true) (rng (R := Bool) (fun k (_ : Unit) => laws_eqFinishedS_b1 x0 x1 k) (x0.length - 0) 0 ()))
theorem cb90 : Cb Tryz.prog 90 := ⟨f90, _, func90, rfl, by decide⟩
theorem laws_eqFinishedS_c (w : World) (z0 : Value) (x0 : (List DFinished)) (z1 : Value) (x1 : (List DFinished)) (r_0 : rdS tyFinished w w.heap.size z0 x0) (r_1 : rdS tyFinished w w.heap.size z1 x1) :
  Calls Tryz.prog 90 #[z0, z1] w fun e w' => e = .returned (.bool (laws_eqFinishedS_m x0 x1)) ∧ Below w.heap.size w w' := by
 obtain ⟨m1, A2, c3, rfl, q4, r5⟩ := rdS_op r_0
 obtain ⟨m6, A7, c8, rfl, q9, r10⟩ := rdS_op r_1
 refine ce2 (L := [(0, .slice A2 x0.length c3), (1, .slice A7 x1.length c8)]) (N := 27) func90 ?_
 refine sr (wa (nt' (CM_seq (sr (wm ?_)))))
 refine wv (vlen underlying44) ?_
 refine wm ?_
 refine wv (vlen underlying44) ?_
 refine wv vneq ?_
 refine nt' ?_
 by_cases h11 : ((x0.length : Nat) : Int) = ((x1.length : Nat) : Int)
 ·have g12 : (((x0.length : Nat) : Int) != ((x1.length : Nat) : Int)) = false := by rw [h11]; exact bne_self_eq_false _
  refine CM_condF rfl g12 ?_
  refine CM_skip (QM_then (CM_seq (sr (wa (nt' (CM_block ?_))))))
  let F1 := fun k (_ : Unit) => laws_eqFinishedS_b1 x0 x1 k
  let R2 := rng (R := Bool) F1
  refine CM_loop (σ := Nat × (Unit) × (Unit)) (fun s => [(0, .slice A2 x0.length c3), (1, .slice A7 x1.length c8), (5, .int .i64 ((s.1 : Nat) : Int))]) (fun s => []) (fun s => s.1 ≤ x0.length ∧ R2 (x0.length - s.1) s.1 s.2.1 = R2 (x0.length - 0) 0 ()) (fun s => x0.length - s.1) (0, (), ()) sl3 (fun W hm => hm) ⟨(by omega), rfl⟩ ?_
  rintro ⟨k13, ⟨⟩, ⟨⟩⟩ H16
  obtain ⟨hk14, hF15⟩ : k13 ≤ x0.length ∧ R2 (x0.length - k13) k13 () = R2 (x0.length - 0) 0 () := H16
  show CM Tryz.prog 27 _ _ _ _ [(0, .slice A2 x0.length c3), (1, .slice A7 x1.length c8), (5, .int .i64 ((k13 : Nat) : Int))] []
  refine CM_seq (sr (wm (wm ?_)))
  refine wv (vlen underlying44) ?_
  refine wv vlss ?_
  refine nt' ?_
  by_cases hl17 : k13 < x0.length
  ·have g18 := dlT hl17
   refine CM_condT rfl g18 ?_
   refine CM_skip (QM_then (CM_seq (CM_block (CM_seq ?_))))
   refine CM_regionD (by kernel_rfl) (by kernel_rfl) ?_
   refine qm (qm ?_)
   obtain ⟨a19, rfl, hb20, he21⟩ := q4 (by omega)
   refine qv (vix 7 k13 underlying44 type37) ?_
   obtain ⟨_, e29, hc22⟩ := he21 k13 _ (gt_some (show k13 < x0.length from by omega))
   obtain ⟨v23, v25, v27, rfl, r24, r26, r28⟩ := tyFinished_rd e29
   obtain ⟨m30, A31, c32, rfl, q33, r34⟩ := rdS_op r24
   obtain ⟨m35, A36, c37, rfl, q38, r39⟩ := rdS_op r26
   obtain ⟨m40, A41, c42, rfl, q43, r44⟩ := rdS_op r28
   refine qv (fun W hm => rv_loadN (cs := [.int .i64 ((gt x0 k13).Query.Id), .int .i64 ((gt x0 k13).Query.Tenant), .slice A31 ((gt x0 k13).Query.Conds).length c32, .slice A36 ((gt x0 k13).Query.Out).length c37, .int .i64 ((gt x0 k13).Time), .int .i64 ((gt x0 k13).Steps), .slice A41 ((gt x0 k13).Rows).length c42]) underlying37 type37 rfl rfl (hm.elCells (show (a19.add (k13 * 7)).block < w.heap.size from by rw [add_block]; exact hb20.1) hc22)) ?_
   refine qm (qm ?_)
   obtain ⟨a45, rfl, hb46, he47⟩ := q9 (by omega)
   refine qv (vix 7 k13 underlying44 type37) ?_
   obtain ⟨_, e55, hc48⟩ := he47 k13 _ (gt_some (show k13 < x1.length from by omega))
   obtain ⟨v49, v51, v53, rfl, r50, r52, r54⟩ := tyFinished_rd e55
   obtain ⟨m56, A57, c58, rfl, q59, r60⟩ := rdS_op r50
   obtain ⟨m61, A62, c63, rfl, q64, r65⟩ := rdS_op r52
   obtain ⟨m66, A67, c68, rfl, q69, r70⟩ := rdS_op r54
   refine qv (fun W hm => rv_loadN (cs := [.int .i64 ((gt x1 k13).Query.Id), .int .i64 ((gt x1 k13).Query.Tenant), .slice A57 ((gt x1 k13).Query.Conds).length c58, .slice A62 ((gt x1 k13).Query.Out).length c63, .int .i64 ((gt x1 k13).Time), .int .i64 ((gt x1 k13).Steps), .slice A67 ((gt x1 k13).Rows).length c68]) underlying37 type37 rfl rfl (hm.elCells (show (a45.add (k13 * 7)).block < w.heap.size from by rw [add_block]; exact hb46.1) hc48)) ?_
   refine QR_callV (cl_fn cb18 rfl) (fun W hm => laws_eqFinished_c W _ (gt x0 k13) _ (gt x1 k13) (tyFinished_mk (x := (gt x0 k13)) (hm.rdS0 r34) (hm.rdS0 r39) (hm.rdS0 r44)) (tyFinished_mk (x := (gt x1 k13)) (hm.rdS0 r60) (hm.rdS0 r65) (hm.rdS0 r70))) (Wd_none rfl) (by decide) ?_
   refine qv vnot ?_
   refine nq' ?_
   rcases Bool.eq_false_or_eq_true (laws_eqFinished_m (gt x0 k13) (gt x1 k13)) with g72 | g72
   ·
    refine CM_condF rfl (nt g72) ?_
    refine CM_skip (QM_block_normal (QM_then (CM_region (wm ?_))))
    refine wv (vadN k13 1 (by omega)) ?_
    refine wa (WM_nil ?_)
    have hn73 := rng_next (R := Bool) (body := F1) (k := k13) (s := ()) (s' := ()) (show k13 < x0.length from by omega) (cond_t g72 (rfl)) hF15
    exact QM_round (k13 + 1, (), ()) sl3 (fun W hm => hm) ⟨(by omega), hn73⟩ (rl (by omega))
   ·
    refine CM_condT rfl (nf g72) ?_
    refine sr (wa (nt' (CM_ret (QM_block_ret (QM_then_ret (QM_then_ret (QM_block_ret (QM_then_ret ?_))))))))
    exact rtb (h := cond_f g12 (fin_inl (rng_ret (body := F1) (k := k13) (s := ()) (show k13 < x0.length from by omega) (cond_f g72 (rfl)) hF15) rfl))
  ·have g18 := dlF hl17
   refine CM_condF rfl g18 ?_
   refine CM_exit (QM_then_exit (QM_then_exit ?_))
   have hE74 : R2 (x0.length - 0) 0 () = Sum.inr () := rng_end hl17 hF15
   refine QM_block_hit (QM_then (sr (wa (nt' (CM_ret ?_)))))
   exact rtb (h := cond_f g12 (fin_inr hE74 (rfl)))
 ·have g12 : (((x0.length : Nat) : Int) != ((x1.length : Nat) : Int)) = true := bne_iff_ne.2 h11
  refine CM_condT rfl g12 ?_
  refine sr (wa (nt' (CM_ret (QM_then_ret ?_))))
  exact rtb (h := cond_t g12 (rfl))

def laws_eqCharge_m (x0 : DCharge) (x1 : DCharge) : Bool :=
 cond (x0.Segment != x1.Segment) false (cond (x0.Base != x1.Base) false (cond (laws_eqIntS_m x0.Ids x1.Ids) (cond (laws_eqIntS_m x0.Tenants x1.Tenants) (cond (laws_eqIntS_m x0.Rows x1.Rows) true false) false) false))
theorem cb169 : Cb Tryz.prog 169 := ⟨f169, _, func169, rfl, by decide⟩
theorem laws_eqCharge_c (w : World) (z0 : List Value) (x0 : DCharge) (z1 : List Value) (x1 : DCharge) (r_0 : tyCharge.rd w w.heap.size z0 x0) (r_1 : tyCharge.rd w w.heap.size z1 x1) :
  Calls Tryz.prog 169 #[.agg z0.toArray, .agg z1.toArray] w fun e w' => e = .returned (.bool (laws_eqCharge_m x0 x1)) ∧ Below w.heap.size w w' := by
 obtain ⟨v1, v3, v5, rfl, r2, r4, r6⟩ := tyCharge_rd r_0
 obtain ⟨m7, A8, c9, rfl, q10, r11⟩ := rdS_op r2
 obtain ⟨m12, A13, c14, rfl, q15, r16⟩ := rdS_op r4
 obtain ⟨m17, A18, c19, rfl, q20, r21⟩ := rdS_op r6
 obtain ⟨v22, v24, v26, rfl, r23, r25, r27⟩ := tyCharge_rd r_1
 obtain ⟨m28, A29, c30, rfl, q31, r32⟩ := rdS_op r23
 obtain ⟨m33, A34, c35, rfl, q36, r37⟩ := rdS_op r25
 obtain ⟨m38, A39, c40, rfl, q41, r42⟩ := rdS_op r27
 refine ce2 (L := [(0, .agg #[.int .i64 x0.Segment, .int .i64 x0.Base, .slice A8 x0.Ids.length c9, .slice A13 x0.Tenants.length c14, .slice A18 x0.Rows.length c19]), (1, .agg #[.int .i64 x1.Segment, .int .i64 x1.Base, .slice A29 x1.Ids.length c30, .slice A34 x1.Tenants.length c35, .slice A39 x1.Rows.length c40])]) (N := 33) func169 ?_
 refine sr ?_
 refine WM_box rfl (Wd_none rfl) (by decide) (fun p43 => ?_)
 refine WM_box rfl (Wd_none rfl) (by decide) (fun p44 => ?_)
 refine wa (nt' (CM_seq (sr ?_)))
 refine wv (vf underlying133 rfl type3) ?_
 refine wv (vl 1 0 underlying3) ?_
 refine wv (vf underlying133 rfl type3) ?_
 refine wv (vl 0 0 underlying3) ?_
 refine wv vneq ?_
 refine nt' ?_
 by_cases h45 : x0.Segment = x1.Segment
 ·have g46 : (x0.Segment != x1.Segment) = false := by rw [h45]; exact bne_self_eq_false _
  refine CM_condF rfl g46 ?_
  refine CM_skip (QM_then (CM_seq (sr ?_)))
  refine wv (vf underlying133 rfl type3) ?_
  refine wv (vl 1 1 underlying3) ?_
  refine wv (vf underlying133 rfl type3) ?_
  refine wv (vl 0 1 underlying3) ?_
  refine wv vneq ?_
  refine nt' ?_
  by_cases h47 : x0.Base = x1.Base
  ·have g48 : (x0.Base != x1.Base) = false := by rw [h47]; exact bne_self_eq_false _
   refine CM_condF rfl g48 ?_
   refine CM_skip (QM_then (CM_seq (sr ?_)))
   refine wv (vf underlying133 rfl type25) ?_
   refine wv (vl 1 2 underlying25) ?_
   refine wv (vf underlying133 rfl type25) ?_
   refine wv (vl 0 2 underlying25) ?_
   refine wcv (cl_fn cb49 rfl) (fun W hm => laws_eqIntS_c W _ x0.Ids _ x1.Ids (hm.rdS0 r11) (hm.rdS0 r32)) ?_
   refine wv vnot ?_
   refine nt' ?_
   rcases Bool.eq_false_or_eq_true (laws_eqIntS_m x0.Ids x1.Ids) with g50 | g50
   ·
    refine CM_condF rfl (nt g50) ?_
    refine CM_skip (QM_then (CM_seq (sr ?_)))
    refine wv (vf underlying133 rfl type25) ?_
    refine wv (vl 1 3 underlying25) ?_
    refine wv (vf underlying133 rfl type25) ?_
    refine wv (vl 0 3 underlying25) ?_
    refine wcv (cl_fn cb49 rfl) (fun W hm => laws_eqIntS_c W _ x0.Tenants _ x1.Tenants (hm.rdS0 r16) (hm.rdS0 r37)) ?_
    refine wv vnot ?_
    refine nt' ?_
    rcases Bool.eq_false_or_eq_true (laws_eqIntS_m x0.Tenants x1.Tenants) with g52 | g52
    ·
     refine CM_condF rfl (nt g52) ?_
     refine CM_skip (QM_then (CM_seq (sr ?_)))
     refine wv (vf underlying133 rfl type25) ?_
     refine wv (vl 1 4 underlying25) ?_
     refine wv (vf underlying133 rfl type25) ?_
     refine wv (vl 0 4 underlying25) ?_
     refine wcv (cl_fn cb49 rfl) (fun W hm => laws_eqIntS_c W _ x0.Rows _ x1.Rows (hm.rdS0 r21) (hm.rdS0 r42)) ?_
     refine wv vnot ?_
     refine nt' ?_
     rcases Bool.eq_false_or_eq_true (laws_eqIntS_m x0.Rows x1.Rows) with g54 | g54
     ·
      refine CM_condF rfl (nt g54) ?_
      refine CM_skip (QM_then (sr (wa (nt' (CM_ret ?_)))))
      exact rtb (h := cond_f g46 (cond_f g48 (cond_t g50 (cond_t g52 (cond_t g54 (rfl))))))
     ·
      refine CM_condT rfl (nf g54) ?_
      refine sr (wa (nt' (CM_ret (QM_then_ret ?_))))
      exact rtb (h := cond_f g46 (cond_f g48 (cond_t g50 (cond_t g52 (cond_f g54 (rfl))))))
    ·
     refine CM_condT rfl (nf g52) ?_
     refine sr (wa (nt' (CM_ret (QM_then_ret ?_))))
     exact rtb (h := cond_f g46 (cond_f g48 (cond_t g50 (cond_f g52 (rfl)))))
   ·
    refine CM_condT rfl (nf g50) ?_
    refine sr (wa (nt' (CM_ret (QM_then_ret ?_))))
    exact rtb (h := cond_f g46 (cond_f g48 (cond_f g50 (rfl))))
  ·have g48 : (x0.Base != x1.Base) = true := bne_iff_ne.2 h47
   refine CM_condT rfl g48 ?_
   refine sr (wa (nt' (CM_ret (QM_then_ret ?_))))
   exact rtb (h := cond_f g46 (cond_t g48 (rfl)))
 ·have g46 : (x0.Segment != x1.Segment) = true := bne_iff_ne.2 h45
  refine CM_condT rfl g46 ?_
  refine sr (wa (nt' (CM_ret (QM_then_ret ?_))))
  exact rtb (h := cond_t g46 (rfl))

def laws_eqChargeS_b1 (x0 : (List DCharge)) (x1 : (List DCharge)) (k13 : Nat) : Bool ⊕ (Unit) :=
 cond (laws_eqCharge_m (gt x0 k13) (gt x1 k13)) (Sum.inr ()) (Sum.inl false)
def laws_eqChargeS_m (x0 : (List DCharge)) (x1 : (List DCharge)) : Bool :=
 cond (((x0.length : Nat) : Int) != ((x1.length : Nat) : Int)) false (Sum.elim id (fun (s : Unit) => true) (rng (R := Bool) (fun k (_ : Unit) => laws_eqChargeS_b1 x0 x1 k) (x0.length - 0) 0 ()))
theorem cb91 : Cb Tryz.prog 91 := ⟨f91, _, func91, rfl, by decide⟩
theorem laws_eqChargeS_c (w : World) (z0 : Value) (x0 : (List DCharge)) (z1 : Value) (x1 : (List DCharge)) (r_0 : rdS tyCharge w w.heap.size z0 x0) (r_1 : rdS tyCharge w w.heap.size z1 x1) :
  Calls Tryz.prog 91 #[z0, z1] w fun e w' => e = .returned (.bool (laws_eqChargeS_m x0 x1)) ∧ Below w.heap.size w w' := by
 obtain ⟨m1, A2, c3, rfl, q4, r5⟩ := rdS_op r_0
 obtain ⟨m6, A7, c8, rfl, q9, r10⟩ := rdS_op r_1
 refine ce2 (L := [(0, .slice A2 x0.length c3), (1, .slice A7 x1.length c8)]) (N := 27) func91 ?_
 refine sr (wa (nt' (CM_seq (sr (wm ?_)))))
 refine wv (vlen underlying45) ?_
 refine wm ?_
 refine wv (vlen underlying45) ?_
 refine wv vneq ?_
 refine nt' ?_
 by_cases h11 : ((x0.length : Nat) : Int) = ((x1.length : Nat) : Int)
 ·have g12 : (((x0.length : Nat) : Int) != ((x1.length : Nat) : Int)) = false := by rw [h11]; exact bne_self_eq_false _
  refine CM_condF rfl g12 ?_
  refine CM_skip (QM_then (CM_seq (sr (wa (nt' (CM_block ?_))))))
  let F1 := fun k (_ : Unit) => laws_eqChargeS_b1 x0 x1 k
  let R2 := rng (R := Bool) F1
  refine CM_loop (σ := Nat × (Unit) × (Unit)) (fun s => [(0, .slice A2 x0.length c3), (1, .slice A7 x1.length c8), (5, .int .i64 ((s.1 : Nat) : Int))]) (fun s => []) (fun s => s.1 ≤ x0.length ∧ R2 (x0.length - s.1) s.1 s.2.1 = R2 (x0.length - 0) 0 ()) (fun s => x0.length - s.1) (0, (), ()) sl3 (fun W hm => hm) ⟨(by omega), rfl⟩ ?_
  rintro ⟨k13, ⟨⟩, ⟨⟩⟩ H16
  obtain ⟨hk14, hF15⟩ : k13 ≤ x0.length ∧ R2 (x0.length - k13) k13 () = R2 (x0.length - 0) 0 () := H16
  show CM Tryz.prog 27 _ _ _ _ [(0, .slice A2 x0.length c3), (1, .slice A7 x1.length c8), (5, .int .i64 ((k13 : Nat) : Int))] []
  refine CM_seq (sr (wm (wm ?_)))
  refine wv (vlen underlying45) ?_
  refine wv vlss ?_
  refine nt' ?_
  by_cases hl17 : k13 < x0.length
  ·have g18 := dlT hl17
   refine CM_condT rfl g18 ?_
   refine CM_skip (QM_then (CM_seq (CM_block (CM_seq ?_))))
   refine CM_regionD (by kernel_rfl) (by kernel_rfl) ?_
   refine qm (qm ?_)
   obtain ⟨a19, rfl, hb20, he21⟩ := q4 (by omega)
   refine qv (vix 5 k13 underlying45 type133) ?_
   obtain ⟨_, e29, hc22⟩ := he21 k13 _ (gt_some (show k13 < x0.length from by omega))
   obtain ⟨v23, v25, v27, rfl, r24, r26, r28⟩ := tyCharge_rd e29
   obtain ⟨m30, A31, c32, rfl, q33, r34⟩ := rdS_op r24
   obtain ⟨m35, A36, c37, rfl, q38, r39⟩ := rdS_op r26
   obtain ⟨m40, A41, c42, rfl, q43, r44⟩ := rdS_op r28
   refine qv (fun W hm => rv_loadN (cs := [.int .i64 ((gt x0 k13).Segment), .int .i64 ((gt x0 k13).Base), .slice A31 ((gt x0 k13).Ids).length c32, .slice A36 ((gt x0 k13).Tenants).length c37, .slice A41 ((gt x0 k13).Rows).length c42]) underlying133 type133 rfl rfl (hm.elCells (show (a19.add (k13 * 5)).block < w.heap.size from by rw [add_block]; exact hb20.1) hc22)) ?_
   refine qm (qm ?_)
   obtain ⟨a45, rfl, hb46, he47⟩ := q9 (by omega)
   refine qv (vix 5 k13 underlying45 type133) ?_
   obtain ⟨_, e55, hc48⟩ := he47 k13 _ (gt_some (show k13 < x1.length from by omega))
   obtain ⟨v49, v51, v53, rfl, r50, r52, r54⟩ := tyCharge_rd e55
   obtain ⟨m56, A57, c58, rfl, q59, r60⟩ := rdS_op r50
   obtain ⟨m61, A62, c63, rfl, q64, r65⟩ := rdS_op r52
   obtain ⟨m66, A67, c68, rfl, q69, r70⟩ := rdS_op r54
   refine qv (fun W hm => rv_loadN (cs := [.int .i64 ((gt x1 k13).Segment), .int .i64 ((gt x1 k13).Base), .slice A57 ((gt x1 k13).Ids).length c58, .slice A62 ((gt x1 k13).Tenants).length c63, .slice A67 ((gt x1 k13).Rows).length c68]) underlying133 type133 rfl rfl (hm.elCells (show (a45.add (k13 * 5)).block < w.heap.size from by rw [add_block]; exact hb46.1) hc48)) ?_
   refine QR_callV (cl_fn cb169 rfl) (fun W hm => laws_eqCharge_c W _ (gt x0 k13) _ (gt x1 k13) (tyCharge_mk (x := (gt x0 k13)) (hm.rdS0 r34) (hm.rdS0 r39) (hm.rdS0 r44)) (tyCharge_mk (x := (gt x1 k13)) (hm.rdS0 r60) (hm.rdS0 r65) (hm.rdS0 r70))) (Wd_none rfl) (by decide) ?_
   refine qv vnot ?_
   refine nq' ?_
   rcases Bool.eq_false_or_eq_true (laws_eqCharge_m (gt x0 k13) (gt x1 k13)) with g72 | g72
   ·
    refine CM_condF rfl (nt g72) ?_
    refine CM_skip (QM_block_normal (QM_then (CM_region (wm ?_))))
    refine wv (vadN k13 1 (by omega)) ?_
    refine wa (WM_nil ?_)
    have hn73 := rng_next (R := Bool) (body := F1) (k := k13) (s := ()) (s' := ()) (show k13 < x0.length from by omega) (cond_t g72 (rfl)) hF15
    exact QM_round (k13 + 1, (), ()) sl3 (fun W hm => hm) ⟨(by omega), hn73⟩ (rl (by omega))
   ·
    refine CM_condT rfl (nf g72) ?_
    refine sr (wa (nt' (CM_ret (QM_block_ret (QM_then_ret (QM_then_ret (QM_block_ret (QM_then_ret ?_))))))))
    exact rtb (h := cond_f g12 (fin_inl (rng_ret (body := F1) (k := k13) (s := ()) (show k13 < x0.length from by omega) (cond_f g72 (rfl)) hF15) rfl))
  ·have g18 := dlF hl17
   refine CM_condF rfl g18 ?_
   refine CM_exit (QM_then_exit (QM_then_exit ?_))
   have hE74 : R2 (x0.length - 0) 0 () = Sum.inr () := rng_end hl17 hF15
   refine QM_block_hit (QM_then (sr (wa (nt' (CM_ret ?_)))))
   exact rtb (h := cond_f g12 (fin_inr hE74 (rfl)))
 ·have g12 : (((x0.length : Nat) : Int) != ((x1.length : Nat) : Int)) = true := bne_iff_ne.2 h11
  refine CM_condT rfl g12 ?_
  refine sr (wa (nt' (CM_ret (QM_then_ret ?_))))
  exact rtb (h := cond_t g12 (rfl))

def laws_eqEngine_m (x0 : DEngine) (x1 : DEngine) : Bool :=
 cond (laws_eqStore_m x0.Store x1.Store) (cond (x0.Cursor != x1.Cursor) false (cond (laws_eqIntS_m x0.Order x1.Order) (cond (laws_eqActiveS_m x0.Active x1.Active) (cond (laws_eqFinishedS_m x0.Done x1.Done) (cond (laws_eqChargeS_m x0.Ledger x1.Ledger) (cond (x0.Steps != x1.Steps) false true) false) false) false) false)) false
theorem cb19 : Cb Tryz.prog 19 := ⟨f19, _, func19, rfl, by decide⟩
theorem laws_eqEngine_c (w : World) (z0 : List Value) (x0 : DEngine) (z1 : List Value) (x1 : DEngine) (r_0 : tyEngine.rd w w.heap.size z0 x0) (r_1 : tyEngine.rd w w.heap.size z1 x1) :
  Calls Tryz.prog 19 #[.agg z0.toArray, .agg z1.toArray] w fun e w' => e = .returned (.bool (laws_eqEngine_m x0 x1)) ∧ Below w.heap.size w w' := by
 obtain ⟨v1, v3, v5, v7, v9, rfl, r2, r4, r6, r8, r10⟩ := tyEngine_rd r_0
 obtain ⟨m11, A12, c13, rfl, q14, r15⟩ := rdS_op r2
 obtain ⟨m16, A17, c18, rfl, q19, r20⟩ := rdS_op r4
 obtain ⟨m21, A22, c23, rfl, q24, r25⟩ := rdS_op r6
 obtain ⟨m26, A27, c28, rfl, q29, r30⟩ := rdS_op r8
 obtain ⟨m31, A32, c33, rfl, q34, r35⟩ := rdS_op r10
 obtain ⟨v36, v38, v40, v42, v44, rfl, r37, r39, r41, r43, r45⟩ := tyEngine_rd r_1
 obtain ⟨m46, A47, c48, rfl, q49, r50⟩ := rdS_op r37
 obtain ⟨m51, A52, c53, rfl, q54, r55⟩ := rdS_op r39
 obtain ⟨m56, A57, c58, rfl, q59, r60⟩ := rdS_op r41
 obtain ⟨m61, A62, c63, rfl, q64, r65⟩ := rdS_op r43
 obtain ⟨m66, A67, c68, rfl, q69, r70⟩ := rdS_op r45
 refine ce2 (L := [(0, .agg #[.slice A12 x0.Store.Segments.length c13, .int .i64 x0.Store.Now, .int .i64 x0.Cursor, .slice A17 x0.Order.length c18, .slice A22 x0.Active.length c23, .slice A27 x0.Done.length c28, .slice A32 x0.Ledger.length c33, .int .i64 x0.Steps]), (1, .agg #[.slice A47 x1.Store.Segments.length c48, .int .i64 x1.Store.Now, .int .i64 x1.Cursor, .slice A52 x1.Order.length c53, .slice A57 x1.Active.length c58, .slice A62 x1.Done.length c63, .slice A67 x1.Ledger.length c68, .int .i64 x1.Steps])]) (N := 45) func19 ?_
 refine sr ?_
 refine WM_box rfl (Wd_none rfl) (by decide) (fun p71 => ?_)
 refine WM_box rfl (Wd_none rfl) (by decide) (fun p72 => ?_)
 refine wa (nt' (CM_seq (sr ?_)))
 refine wv (vf underlying47 rfl type42) ?_
 refine wv (fun W hm => rv_loadN (cs := [.slice A12 x0.Store.Segments.length c13, .int .i64 x0.Store.Now]) underlying42 type42 rfl rfl (hm.boxPart (n := 1) rfl rfl)) ?_
 refine wv (vf underlying47 rfl type42) ?_
 refine wv (fun W hm => rv_loadN (cs := [.slice A47 x1.Store.Segments.length c48, .int .i64 x1.Store.Now]) underlying42 type42 rfl rfl (hm.boxPart (n := 0) rfl rfl)) ?_
 refine wcv (cl_fn cb88 rfl) (fun W hm => laws_eqStore_c W _ x0.Store _ x1.Store (tyStore_mk (x := x0.Store) (hm.rdS0 r15)) (tyStore_mk (x := x1.Store) (hm.rdS0 r50))) ?_
 refine wv vnot ?_
 refine nt' ?_
 rcases Bool.eq_false_or_eq_true (laws_eqStore_m x0.Store x1.Store) with g74 | g74
 ·
  refine CM_condF rfl (nt g74) ?_
  refine CM_skip (QM_then (CM_seq (sr ?_)))
  refine wv (vf underlying47 rfl type3) ?_
  refine wv (vl 1 2 underlying3) ?_
  refine wv (vf underlying47 rfl type3) ?_
  refine wv (vl 0 2 underlying3) ?_
  refine wv vneq ?_
  refine nt' ?_
  by_cases h75 : x0.Cursor = x1.Cursor
  ·have g76 : (x0.Cursor != x1.Cursor) = false := by rw [h75]; exact bne_self_eq_false _
   refine CM_condF rfl g76 ?_
   refine CM_skip (QM_then (CM_seq (sr ?_)))
   refine wv (vf underlying47 rfl type25) ?_
   refine wv (vl 1 3 underlying25) ?_
   refine wv (vf underlying47 rfl type25) ?_
   refine wv (vl 0 3 underlying25) ?_
   refine wcv (cl_fn cb49 rfl) (fun W hm => laws_eqIntS_c W _ x0.Order _ x1.Order (hm.rdS0 r20) (hm.rdS0 r55)) ?_
   refine wv vnot ?_
   refine nt' ?_
   rcases Bool.eq_false_or_eq_true (laws_eqIntS_m x0.Order x1.Order) with g78 | g78
   ·
    refine CM_condF rfl (nt g78) ?_
    refine CM_skip (QM_then (CM_seq (sr ?_)))
    refine wv (vf underlying47 rfl type43) ?_
    refine wv (vl 1 4 underlying43) ?_
    refine wv (vf underlying47 rfl type43) ?_
    refine wv (vl 0 4 underlying43) ?_
    refine wcv (cl_fn cb89 rfl) (fun W hm => laws_eqActiveS_c W _ x0.Active _ x1.Active (hm.rdS0 r25) (hm.rdS0 r60)) ?_
    refine wv vnot ?_
    refine nt' ?_
    rcases Bool.eq_false_or_eq_true (laws_eqActiveS_m x0.Active x1.Active) with g80 | g80
    ·
     refine CM_condF rfl (nt g80) ?_
     refine CM_skip (QM_then (CM_seq (sr ?_)))
     refine wv (vf underlying47 rfl type44) ?_
     refine wv (vl 1 5 underlying44) ?_
     refine wv (vf underlying47 rfl type44) ?_
     refine wv (vl 0 5 underlying44) ?_
     refine wcv (cl_fn cb90 rfl) (fun W hm => laws_eqFinishedS_c W _ x0.Done _ x1.Done (hm.rdS0 r30) (hm.rdS0 r65)) ?_
     refine wv vnot ?_
     refine nt' ?_
     rcases Bool.eq_false_or_eq_true (laws_eqFinishedS_m x0.Done x1.Done) with g82 | g82
     ·
      refine CM_condF rfl (nt g82) ?_
      refine CM_skip (QM_then (CM_seq (sr ?_)))
      refine wv (vf underlying47 rfl type45) ?_
      refine wv (vl 1 6 underlying45) ?_
      refine wv (vf underlying47 rfl type45) ?_
      refine wv (vl 0 6 underlying45) ?_
      refine wcv (cl_fn cb91 rfl) (fun W hm => laws_eqChargeS_c W _ x0.Ledger _ x1.Ledger (hm.rdS0 r35) (hm.rdS0 r70)) ?_
      refine wv vnot ?_
      refine nt' ?_
      rcases Bool.eq_false_or_eq_true (laws_eqChargeS_m x0.Ledger x1.Ledger) with g84 | g84
      ·
       refine CM_condF rfl (nt g84) ?_
       refine CM_skip (QM_then (CM_seq (sr ?_)))
       refine wv (vf underlying47 rfl type3) ?_
       refine wv (vl 1 7 underlying3) ?_
       refine wv (vf underlying47 rfl type3) ?_
       refine wv (vl 0 7 underlying3) ?_
       refine wv vneq ?_
       refine nt' ?_
       by_cases h85 : x0.Steps = x1.Steps
       ·have g86 : (x0.Steps != x1.Steps) = false := by rw [h85]; exact bne_self_eq_false _
        refine CM_condF rfl g86 ?_
        refine CM_skip (QM_then (sr (wa (nt' (CM_ret ?_)))))
        exact rtb (h := cond_t g74 (cond_f g76 (cond_t g78 (cond_t g80 (cond_t g82 (cond_t g84 (cond_f g86 (rfl))))))))
       ·have g86 : (x0.Steps != x1.Steps) = true := bne_iff_ne.2 h85
        refine CM_condT rfl g86 ?_
        refine sr (wa (nt' (CM_ret (QM_then_ret ?_))))
        exact rtb (h := cond_t g74 (cond_f g76 (cond_t g78 (cond_t g80 (cond_t g82 (cond_t g84 (cond_t g86 (rfl))))))))
      ·
       refine CM_condT rfl (nf g84) ?_
       refine sr (wa (nt' (CM_ret (QM_then_ret ?_))))
       exact rtb (h := cond_t g74 (cond_f g76 (cond_t g78 (cond_t g80 (cond_t g82 (cond_f g84 (rfl)))))))
     ·
      refine CM_condT rfl (nf g82) ?_
      refine sr (wa (nt' (CM_ret (QM_then_ret ?_))))
      exact rtb (h := cond_t g74 (cond_f g76 (cond_t g78 (cond_t g80 (cond_f g82 (rfl))))))
    ·
     refine CM_condT rfl (nf g80) ?_
     refine sr (wa (nt' (CM_ret (QM_then_ret ?_))))
     exact rtb (h := cond_t g74 (cond_f g76 (cond_t g78 (cond_f g80 (rfl)))))
   ·
    refine CM_condT rfl (nf g78) ?_
    refine sr (wa (nt' (CM_ret (QM_then_ret ?_))))
    exact rtb (h := cond_t g74 (cond_f g76 (cond_f g78 (rfl))))
  ·have g76 : (x0.Cursor != x1.Cursor) = true := bne_iff_ne.2 h75
   refine CM_condT rfl g76 ?_
   refine sr (wa (nt' (CM_ret (QM_then_ret ?_))))
   exact rtb (h := cond_t g74 (cond_t g76 (rfl)))
 ·
  refine CM_condT rfl (nf g74) ?_
  refine sr (wa (nt' (CM_ret (QM_then_ret ?_))))
  exact rtb (h := cond_f g74 (rfl))

def laws_markIntS_b1 (k5 : Nat) (s6 : Int) (d7 : (List Int)) : (Int × (List Int)) ⊕ (Int × (List Int)) :=
 Sum.inr ((IntKind.i64.wrap (s6 + 1)), (d7.set k5 s6))
def laws_markIntS_m (x0 : (List Int)) (x1 : Int) : (Int × (List Int)) :=
 Sum.elim id (fun (s : Int × (List Int)) => (s.1, s.2)) (rng (R := (Int × (List Int))) (fun k (s : Int × (List Int)) => laws_markIntS_b1 k s.1 s.2) (x0.length - 0) 0 (x1, x0))
theorem cb50 : Cb Tryz.prog 50 := ⟨f50, _, func50, rfl, by decide⟩
theorem laws_markIntS_c (B : Nat) (w0 : World) (is : List It) (w : World) (z0 : Value) (x0 : (List Int)) (x1 : Int) (hm : Mem B w0 (iOwn (tSl tInt 3) [z0] x0 :: is) w) :
  Calls Tryz.prog 50 #[z0, .int .i64 x1] w fun e w' => e = .returned (.int .i64 (laws_markIntS_m x0 x1).1) ∧ Mem B w0 (iOwn (tSl tInt 3) [z0] (laws_markIntS_m x0 x1).2 :: is) w' := by
 refine call_enterW (L := [(0, z0), (1, .int .i64 x1)]) (N := 19) func50 rfl rfl (Nat.le_of_ble_eq_true rfl) (argsL_cons rfl (argsL_cons rfl argsL_nil)) hm ?_
 refine CM_form (n := 0) rfl ?_
 rintro A1 c2 rfl m3
 refine sr (wa (nt' (CM_seq (sr (wa (nt' (CM_block ?_)))))))
 let F1 := fun k (s : Int × (List Int)) => laws_markIntS_b1 k s.1 s.2
 let R2 := rng (R := (Int × (List Int))) F1
 refine CM_loop (σ := Nat × (Int × (List Int)) × (Unit)) (fun s => [(0, .slice A1 x0.length c2), (1, .int .i64 s.2.1.1), (5, .int .i64 ((s.1 : Nat) : Int))]) (fun s => (iOwn (tSl tInt 3) [.slice A1 x0.length c2] s.2.1.2 :: is)) (fun s => s.1 ≤ x0.length ∧ R2 (x0.length - s.1) s.1 s.2.1 = R2 (x0.length - 0) 0 (x1, x0)) (fun s => x0.length - s.1) (0, (x1, x0), ()) sl3 (fun W hm => hm) ⟨(by omega), rfl⟩ ?_
 rintro ⟨k5, ⟨s6, d7⟩, ⟨⟩⟩ H10
 obtain ⟨hk8, hF9⟩ : k5 ≤ x0.length ∧ R2 (x0.length - k5) k5 (s6, d7) = R2 (x0.length - 0) 0 (x1, x0) := H10
 show CM Tryz.prog 19 _ _ _ _ [(0, .slice A1 x0.length c2), (1, .int .i64 s6), (5, .int .i64 ((k5 : Nat) : Int))] (iOwn (tSl tInt 3) [.slice A1 x0.length c2] d7 :: is)
 refine CM_seq (sr (wm (wm ?_)))
 refine wv (vlen underlying25) ?_
 refine wv vlss ?_
 refine nt' ?_
 by_cases hl11 : k5 < x0.length
 ·have g12 := dlT hl11
  refine CM_condT rfl g12 ?_
  refine CM_skip (QM_then (CM_seq (CM_block (sr (wm (wm (wm ?_)))))))
  refine WM_formO (n := 0) rfl (by omega) ?_
  rintro g13 rfl
  refine wv (vix 1 k5 underlying25 type3) ?_
  refine WM_setEl (E := tInt) (e := 3) (u := .int .i64 s6) (k := k5) (p := g13) (n := x0.length) (xs := d7) (eis := []) (js := (is)) (yv := s6) (fun W hm => (hm.front (n := 0) rfl)) (fun _ _ hs => (Sep.nil hs ▸ tInt_own)) rfl type3 rfl (by omega) rfl rfl (Wd_none rfl) ?_
  refine nt' (CM_region (wm ?_))
  refine wv vadd ?_
  refine wa (WM_nil (QM_block_normal (QM_then (CM_region (wm ?_)))))
  refine wv (vadN k5 1 (by omega)) ?_
  refine wa (WM_nil ?_)
  have hn14 := rng_next (R := (Int × (List Int))) (body := F1) (k := k5) (s := (s6, d7)) (s' := ((IntKind.i64.wrap (s6 + 1)), (d7.set k5 s6))) (show k5 < x0.length from by omega) (rfl) hF9
  exact QM_round (k5 + 1, ((IntKind.i64.wrap (s6 + 1)), (d7.set k5 s6)), ()) sl3 (fun W hm => hm) ⟨(by omega), hn14⟩ (rl (by omega))
 ·have g12 := dlF hl11
  refine CM_condF rfl g12 ?_
  refine CM_exit (QM_then_exit (QM_then_exit ?_))
  have hE15 : R2 (x0.length - 0) 0 (x1, x0) = Sum.inr (s6, d7) := rng_end hl11 hF9
  refine QM_block_hit (QM_then (sr (wm (wa (nt' (CM_ret ?_))))))
  have he16 := (show laws_markIntS_m x0 x1 = (s6, d7) from fin_inr hE15 (rfl))
  refine QM_rW rfl rfl (fun W hm => ⟨?_, ?_⟩)
  ·rw [he16]
  ·rw [he16]; exact hm

def laws_markVersionS_b1 (k5 : Nat) (s6 : Int) (d7 : (List DVersion)) : (Int × (List DVersion)) ⊕ (Int × (List DVersion)) :=
 Sum.inr ((IntKind.i64.wrap ((IntKind.i64.wrap (((laws_markIntS_m ((gt d7 k5).Values) (IntKind.i64.wrap (s6 + 1))).1) + 1)) + 1)), (d7.set k5 (⟨s6, (laws_markIntS_m ((gt d7 k5).Values) (IntKind.i64.wrap (s6 + 1))).2, (laws_markIntS_m ((gt d7 k5).Values) (IntKind.i64.wrap (s6 + 1))).1, (IntKind.i64.wrap (((laws_markIntS_m ((gt d7 k5).Values) (IntKind.i64.wrap (s6 + 1))).1) + 1))⟩ : DVersion)))
def laws_markVersionS_m (x0 : (List DVersion)) (x1 : Int) : (Int × (List DVersion)) :=
 Sum.elim id (fun (s : Int × (List DVersion)) => (s.1, s.2)) (rng (R := (Int × (List DVersion))) (fun k (s : Int × (List DVersion)) => laws_markVersionS_b1 k s.1 s.2) (x0.length - 0) 0 (x1, x0))
theorem cb219 : Cb Tryz.prog 219 := ⟨f219, _, func219, rfl, by decide⟩
theorem laws_markVersionS_c (B : Nat) (w0 : World) (is : List It) (w : World) (z0 : Value) (x0 : (List DVersion)) (x1 : Int) (hm : Mem B w0 (iOwn (tSl tyVersion 191) [z0] x0 :: is) w) :
  Calls Tryz.prog 219 #[z0, .int .i64 x1] w fun e w' => e = .returned (.int .i64 (laws_markVersionS_m x0 x1).1) ∧ Mem B w0 (iOwn (tSl tyVersion 191) [z0] (laws_markVersionS_m x0 x1).2 :: is) w' := by
 refine call_enterW (L := [(0, z0), (1, .int .i64 x1)]) (N := 41) func219 rfl rfl (Nat.le_of_ble_eq_true rfl) (argsL_cons rfl (argsL_cons rfl argsL_nil)) hm ?_
 refine CM_form (n := 0) rfl ?_
 rintro A1 c2 rfl m3
 refine sr (wa (nt' (CM_seq (sr (wa (nt' (CM_block ?_)))))))
 let F1 := fun k (s : Int × (List DVersion)) => laws_markVersionS_b1 k s.1 s.2
 let R2 := rng (R := (Int × (List DVersion))) F1
 refine CM_loop (σ := Nat × (Int × (List DVersion)) × (Unit)) (fun s => [(0, .slice A1 x0.length c2), (1, .int .i64 s.2.1.1), (5, .int .i64 ((s.1 : Nat) : Int))]) (fun s => (iOwn (tSl tyVersion 191) [.slice A1 x0.length c2] s.2.1.2 :: is)) (fun s => s.1 ≤ x0.length ∧ R2 (x0.length - s.1) s.1 s.2.1 = R2 (x0.length - 0) 0 (x1, x0)) (fun s => x0.length - s.1) (0, (x1, x0), ()) sl3 (fun W hm => hm) ⟨(by omega), rfl⟩ ?_
 rintro ⟨k5, ⟨s6, d7⟩, ⟨⟩⟩ H10
 obtain ⟨hk8, hF9⟩ : k5 ≤ x0.length ∧ R2 (x0.length - k5) k5 (s6, d7) = R2 (x0.length - 0) 0 (x1, x0) := H10
 show CM Tryz.prog 41 _ _ _ _ [(0, .slice A1 x0.length c2), (1, .int .i64 s6), (5, .int .i64 ((k5 : Nat) : Int))] (iOwn (tSl tyVersion 191) [.slice A1 x0.length c2] d7 :: is)
 refine CM_seq (sr (wm (wm ?_)))
 refine wv (vlen underlying131) ?_
 refine wv vlss ?_
 refine nt' ?_
 by_cases hl11 : k5 < x0.length
 ·have g12 := dlT hl11
  refine CM_condT rfl g12 ?_
  refine CM_skip (QM_then (CM_seq (CM_block (sr (wm (wm (wm ?_)))))))
  refine WM_formO (n := 0) rfl (by omega) ?_
  rintro g13 rfl
  refine wv (vix 4 k5 underlying131 type191) ?_
  refine wv (vf underlying191 rfl type3) ?_
  refine WM_focus (E := tyVersion) (e := 191) (A := (some ⟨g13, 0, none⟩)) (n := x0.length) (c := c2) (xs := d7) (k := k5) (js := (is)) (by omega) (fun W hm => (hm.front (n := 0) rfl)) (fun ck14 => ?_)
  refine tyVersion_sp ?_
  rintro v15 rfl
  refine WM_form (n := 0) rfl ?_
  rintro A16 c17 rfl m18
  let K3 : List Value := [.int .i64 s6, .slice A16 ((gt d7 k5).Values).length c17, .int .i64 ((gt d7 k5).Born), .int .i64 ((gt d7 k5).Died)]
  refine sf 0 4 K3 (iOwn (tSl tInt 3) [.slice A16 ((gt d7 k5).Values).length c17] ((gt d7 k5).Values) :: is) (fun W hm => (hm.front (n := 1) rfl)) type3 ?_
  refine nt' (sr (wm ?_))
  refine wv vadd ?_
  refine wa (nt' (sr (wm (wm ?_))))
  refine wv (vix 4 k5 underlying131 type191) ?_
  refine wv (vf underlying191 rfl type25) ?_
  refine wv (fun W hm => rv_load underlying25 rfl rfl (hm.focCells (i := 0) rfl rfl 1 _ rfl)) ?_
  refine wm ?_
  refine cw (cl_fn cb50 rfl) (fun W hm => laws_markIntS_c B w0 (iFoc tyVersion 191 (some ⟨g13, 0, none⟩) x0.length c2 d7 k5 K3 :: is) W (.slice A16 ((gt d7 k5).Values).length c17) ((gt d7 k5).Values) (IntKind.i64.wrap (s6 + 1)) (hm.front (n := 1) rfl)) ?_
  refine wa (nt' (sr (wm (wm (wm ?_)))))
  refine wv (vix 4 k5 underlying131 type191) ?_
  refine wv (vf underlying191 rfl type3) ?_
  let I5 : It := iOwn (tSl tInt 3) [.slice A16 ((gt d7 k5).Values).length c17] ((laws_markIntS_m ((gt d7 k5).Values) (IntKind.i64.wrap (s6 + 1))).2)
  refine sf 2 4 [.int .i64 s6, .slice A16 ((gt d7 k5).Values).length c17, .int .i64 ((laws_markIntS_m ((gt d7 k5).Values) (IntKind.i64.wrap (s6 + 1))).1), .int .i64 ((gt d7 k5).Died)] (I5 :: is) (fun W hm => (hm.front (n := 1) rfl)) type3 ?_
  refine nt' (sr (wm ?_))
  refine wv vadd ?_
  refine wa (nt' (sr (wm (wm (wm ?_)))))
  refine wv (vix 4 k5 underlying131 type191) ?_
  refine wv (vf underlying191 rfl type3) ?_
  let K4 : List Value := [.int .i64 s6, .slice A16 ((gt d7 k5).Values).length c17, .int .i64 ((laws_markIntS_m ((gt d7 k5).Values) (IntKind.i64.wrap (s6 + 1))).1), .int .i64 (IntKind.i64.wrap (((laws_markIntS_m ((gt d7 k5).Values) (IntKind.i64.wrap (s6 + 1))).1) + 1))]
  refine sf 3 4 K4 (I5 :: is) (fun W hm => (hm.front (n := 0) rfl)) type3 ?_
  refine nt' (CM_region (wm ?_))
  refine wv vadd ?_
  refine wa (WM_nil (QM_block_normal (QM_then (CM_region (wm ?_)))))
  refine wv (vadN k5 1 (by omega)) ?_
  refine wa (WM_nil ?_)
  refine QM_items (fun W hm => Mem.unfocus (Mem.join (is := [I5]) (js := (iFoc tyVersion 191 (some ⟨g13, 0, none⟩) x0.length c2 d7 k5 K4 :: (is))) (fun _ _ hs => tyVersion_join (x := (⟨s6, (laws_markIntS_m ((gt d7 k5).Values) (IntKind.i64.wrap (s6 + 1))).2, (laws_markIntS_m ((gt d7 k5).Values) (IntKind.i64.wrap (s6 + 1))).1, (IntKind.i64.wrap (((laws_markIntS_m ((gt d7 k5).Values) (IntKind.i64.wrap (s6 + 1))).1) + 1))⟩ : DVersion)) hs) ((hm.front (n := 0) rfl).front (n := 1) rfl))) ?_
  have hn20 := rng_next (R := (Int × (List DVersion))) (body := F1) (k := k5) (s := (s6, d7)) (s' := ((IntKind.i64.wrap ((IntKind.i64.wrap (((laws_markIntS_m ((gt d7 k5).Values) (IntKind.i64.wrap (s6 + 1))).1) + 1)) + 1)), (d7.set k5 (⟨s6, (laws_markIntS_m ((gt d7 k5).Values) (IntKind.i64.wrap (s6 + 1))).2, (laws_markIntS_m ((gt d7 k5).Values) (IntKind.i64.wrap (s6 + 1))).1, (IntKind.i64.wrap (((laws_markIntS_m ((gt d7 k5).Values) (IntKind.i64.wrap (s6 + 1))).1) + 1))⟩ : DVersion)))) (show k5 < x0.length from by omega) (rfl) hF9
  exact QM_round (k5 + 1, ((IntKind.i64.wrap ((IntKind.i64.wrap (((laws_markIntS_m ((gt d7 k5).Values) (IntKind.i64.wrap (s6 + 1))).1) + 1)) + 1)), (d7.set k5 (⟨s6, (laws_markIntS_m ((gt d7 k5).Values) (IntKind.i64.wrap (s6 + 1))).2, (laws_markIntS_m ((gt d7 k5).Values) (IntKind.i64.wrap (s6 + 1))).1, (IntKind.i64.wrap (((laws_markIntS_m ((gt d7 k5).Values) (IntKind.i64.wrap (s6 + 1))).1) + 1))⟩ : DVersion))), ()) sl3 (fun W hm => hm) ⟨(by omega), hn20⟩ (rl (by omega))
 ·have g12 := dlF hl11
  refine CM_condF rfl g12 ?_
  refine CM_exit (QM_then_exit (QM_then_exit ?_))
  have hE21 : R2 (x0.length - 0) 0 (x1, x0) = Sum.inr (s6, d7) := rng_end hl11 hF9
  refine QM_block_hit (QM_then (sr (wm (wa (nt' (CM_ret ?_))))))
  have he22 := (show laws_markVersionS_m x0 x1 = (s6, d7) from fin_inr hE21 (rfl))
  refine QM_rW rfl rfl (fun W hm => ⟨?_, ?_⟩)
  ·rw [he22]
  ·rw [he22]; exact hm

def laws_markVersionSS_b1 (k5 : Nat) (s6 : Int) (d7 : (List (List DVersion))) : (Int × (List (List DVersion))) ⊕ (Int × (List (List DVersion))) :=
 Sum.inr ((laws_markVersionS_m (gt d7 k5) s6).1, (d7.set k5 ((laws_markVersionS_m (gt d7 k5) s6).2)))
def laws_markVersionSS_m (x0 : (List (List DVersion))) (x1 : Int) : (Int × (List (List DVersion))) :=
 Sum.elim id (fun (s : Int × (List (List DVersion))) => (s.1, s.2)) (rng (R := (Int × (List (List DVersion)))) (fun k (s : Int × (List (List DVersion))) => laws_markVersionSS_b1 k s.1 s.2) (x0.length - 0) 0 (x1, x0))
theorem cb170 : Cb Tryz.prog 170 := ⟨f170, _, func170, rfl, by decide⟩
theorem laws_markVersionSS_c (B : Nat) (w0 : World) (is : List It) (w : World) (z0 : Value) (x0 : (List (List DVersion))) (x1 : Int) (hm : Mem B w0 (iOwn (tSl (tSl tyVersion 191) 131) [z0] x0 :: is) w) :
  Calls Tryz.prog 170 #[z0, .int .i64 x1] w fun e w' => e = .returned (.int .i64 (laws_markVersionSS_m x0 x1).1) ∧ Mem B w0 (iOwn (tSl (tSl tyVersion 191) 131) [z0] (laws_markVersionSS_m x0 x1).2 :: is) w' := by
 refine call_enterW (L := [(0, z0), (1, .int .i64 x1)]) (N := 19) func170 rfl rfl (Nat.le_of_ble_eq_true rfl) (argsL_cons rfl (argsL_cons rfl argsL_nil)) hm ?_
 refine CM_form (n := 0) rfl ?_
 rintro A1 c2 rfl m3
 refine sr (wa (nt' (CM_seq (sr (wa (nt' (CM_block ?_)))))))
 let F1 := fun k (s : Int × (List (List DVersion))) => laws_markVersionSS_b1 k s.1 s.2
 let R2 := rng (R := (Int × (List (List DVersion)))) F1
 refine CM_loop (σ := Nat × (Int × (List (List DVersion))) × (Unit)) (fun s => [(0, .slice A1 x0.length c2), (1, .int .i64 s.2.1.1), (5, .int .i64 ((s.1 : Nat) : Int))]) (fun s => (iOwn (tSl (tSl tyVersion 191) 131) [.slice A1 x0.length c2] s.2.1.2 :: is)) (fun s => s.1 ≤ x0.length ∧ R2 (x0.length - s.1) s.1 s.2.1 = R2 (x0.length - 0) 0 (x1, x0)) (fun s => x0.length - s.1) (0, (x1, x0), ()) sl3 (fun W hm => hm) ⟨(by omega), rfl⟩ ?_
 rintro ⟨k5, ⟨s6, d7⟩, ⟨⟩⟩ H10
 obtain ⟨hk8, hF9⟩ : k5 ≤ x0.length ∧ R2 (x0.length - k5) k5 (s6, d7) = R2 (x0.length - 0) 0 (x1, x0) := H10
 show CM Tryz.prog 19 _ _ _ _ [(0, .slice A1 x0.length c2), (1, .int .i64 s6), (5, .int .i64 ((k5 : Nat) : Int))] (iOwn (tSl (tSl tyVersion 191) 131) [.slice A1 x0.length c2] d7 :: is)
 refine CM_seq (sr (wm (wm ?_)))
 refine wv (vlen underlying40) ?_
 refine wv vlss ?_
 refine nt' ?_
 by_cases hl11 : k5 < x0.length
 ·have g12 := dlT hl11
  refine CM_condT rfl g12 ?_
  refine CM_skip (QM_then (CM_seq (CM_block (CM_region (wm (wm ?_))))))
  refine WM_formO (n := 0) rfl (by omega) ?_
  rintro g13 rfl
  refine wv (vix 1 k5 underlying40 type131) ?_
  refine WM_focus (E := (tSl tyVersion 191)) (e := 131) (A := (some ⟨g13, 0, none⟩)) (n := x0.length) (c := c2) (xs := d7) (k := k5) (js := (is)) (by omega) (fun W hm => (hm.front (n := 0) rfl)) (fun ck14 => ?_)
  refine WM_split (γ := Value) (js := fun g => [iOwn (tSl tyVersion 191) [g] (gt d7 k5)]) (C := fun g => ck14 = [g]) (fun _ _ h => tSl_split h) ?_
  rintro v15 rfl
  refine WM_form (n := 0) rfl ?_
  rintro A16 c17 rfl m18
  refine wv (fun W hm => rv_load underlying131 rfl rfl (hm.focInt (i := 1) rfl rfl)) ?_
  refine wm ?_
  refine cw (cl_fn cb219 rfl) (fun W hm => laws_markVersionS_c B w0 (iFoc (tSl tyVersion 191) 131 (some ⟨g13, 0, none⟩) x0.length c2 d7 k5 [.slice A16 (gt d7 k5).length c17] :: is) W (.slice A16 (gt d7 k5).length c17) (gt d7 k5) s6 (hm.front (n := 0) rfl)) ?_
  refine wa (WM_nil (QM_block_normal (QM_then (CM_region (wm ?_)))))
  refine wv (vadN k5 1 (by omega)) ?_
  refine wa (WM_nil ?_)
  refine QM_items (fun W hm => Mem.unfocus (Mem.join (is := [iOwn (tSl tyVersion 191) [.slice A16 (gt d7 k5).length c17] ((laws_markVersionS_m (gt d7 k5) s6).2)]) (js := (iFoc (tSl tyVersion 191) 131 (some ⟨g13, 0, none⟩) x0.length c2 d7 k5 [.slice A16 (gt d7 k5).length c17] :: (is))) (fun _ _ hs => Sep.one hs) ((hm.front (n := 1) rfl).front (n := 1) rfl))) ?_
  have hn20 := rng_next (R := (Int × (List (List DVersion)))) (body := F1) (k := k5) (s := (s6, d7)) (s' := ((laws_markVersionS_m (gt d7 k5) s6).1, (d7.set k5 ((laws_markVersionS_m (gt d7 k5) s6).2)))) (show k5 < x0.length from by omega) (rfl) hF9
  exact QM_round (k5 + 1, ((laws_markVersionS_m (gt d7 k5) s6).1, (d7.set k5 ((laws_markVersionS_m (gt d7 k5) s6).2))), ()) sl3 (fun W hm => hm) ⟨(by omega), hn20⟩ (rl (by omega))
 ·have g12 := dlF hl11
  refine CM_condF rfl g12 ?_
  refine CM_exit (QM_then_exit (QM_then_exit ?_))
  have hE21 : R2 (x0.length - 0) 0 (x1, x0) = Sum.inr (s6, d7) := rng_end hl11 hF9
  refine QM_block_hit (QM_then (sr (wm (wa (nt' (CM_ret ?_))))))
  have he22 := (show laws_markVersionSS_m x0 x1 = (s6, d7) from fin_inr hE21 (rfl))
  refine QM_rW rfl rfl (fun W hm => ⟨?_, ?_⟩)
  ·rw [he22]
  ·rw [he22]; exact hm

def laws_markStore_m (x0 : DStore) (x1 : Int) : (Int × DStore) :=
 ((laws_markVersionSS_m x0.Segments x1).1, (⟨(laws_markVersionSS_m x0.Segments x1).2, x0.Now⟩ : DStore))
theorem cb92 : Cb Tryz.prog 92 := ⟨f92, _, func92, rfl, by decide⟩
theorem laws_markStore_c (B : Nat) (w0 : World) (is : List It) (w : World) (z0 : List Value) (x0 : DStore) (x1 : Int) (hm : Mem B w0 (iOwn tyStore z0 x0 :: is) w) :
  Calls Tryz.prog 92 #[.agg z0.toArray, .int .i64 x1] w fun e w' => e = .returned (.int .i64 (laws_markStore_m x0 x1).1) ∧ Mem B w0 (iOwn tyStore z0 (laws_markStore_m x0 x1).2 :: is) w' := by
 refine call_enterW (L := [(0, .agg z0.toArray), (1, .int .i64 x1)]) (N := 10) func92 rfl rfl (Nat.le_of_ble_eq_true rfl) (argsL_cons rfl (argsL_cons rfl argsL_nil)) hm ?_
 refine CM_split (γ := Value) (js := fun g => [iOwn (tSl (tSl tyVersion 191) 131) [g] x0.Segments]) (C := fun g => z0 = [g, .int .i64 x0.Now]) (fun _ _ h => tyStore_split h) ?_
 rintro v1 rfl
 refine CM_form (n := 0) rfl ?_
 rintro A2 c3 rfl m4
 refine sr ?_
 refine WM_box rfl (Wd_none rfl) (by decide) (fun p6 => ?_)
 refine wa (nt' (sr ?_))
 refine wv (vf underlying42 rfl type40) ?_
 refine wv (vl 0 0 underlying40) ?_
 refine wm ?_
 refine cw (cl_fn cb170 rfl) (fun W hm => laws_markVersionSS_c B w0 (iBox p6 42 [.slice A2 x0.Segments.length c3, .int .i64 x0.Now] :: is) W (.slice A2 x0.Segments.length c3) x0.Segments x1 (hm.front (n := 1) rfl)) ?_
 refine wa (nt' (sr (wm (wa (nt' (CM_ret ?_))))))
 have he7 := (show laws_markStore_m x0 x1 = ((laws_markVersionSS_m x0.Segments x1).1, (⟨(laws_markVersionSS_m x0.Segments x1).2, x0.Now⟩ : DStore)) from rfl)
 refine QM_rW rfl rfl (fun W hm => ⟨?_, ?_⟩)
 ·rw [he7]
 ·rw [he7]; exact Mem.join (is := [iOwn (tSl (tSl tyVersion 191) 131) [.slice A2 x0.Segments.length c3] ((laws_markVersionSS_m x0.Segments x1).2)]) (js := is) (fun _ _ hs => tyStore_join (x := (⟨(laws_markVersionSS_m x0.Segments x1).2, x0.Now⟩ : DStore)) hs) ((hm.front (n := 0) rfl).front (n := 1) rfl).tail

def laws_markCondS_b1 (k5 : Nat) (s6 : Int) (d7 : (List DCond)) : (Int × (List DCond)) ⊕ (Int × (List DCond)) :=
 Sum.inr ((IntKind.i64.wrap ((IntKind.i64.wrap ((IntKind.i64.wrap (s6 + 1)) + 1)) + 1)), (d7.set k5 (⟨s6, (IntKind.i64.wrap (s6 + 1)), (IntKind.i64.wrap ((IntKind.i64.wrap (s6 + 1)) + 1))⟩ : DCond)))
def laws_markCondS_m (x0 : (List DCond)) (x1 : Int) : (Int × (List DCond)) :=
 Sum.elim id (fun (s : Int × (List DCond)) => (s.1, s.2)) (rng (R := (Int × (List DCond))) (fun k (s : Int × (List DCond)) => laws_markCondS_b1 k s.1 s.2) (x0.length - 0) 0 (x1, x0))
theorem cb146 : Cb Tryz.prog 146 := ⟨f146, _, func146, rfl, by decide⟩
theorem laws_markCondS_c (B : Nat) (w0 : World) (is : List It) (w : World) (z0 : Value) (x0 : (List DCond)) (x1 : Int) (hm : Mem B w0 (iOwn (tSl tyCond 201) [z0] x0 :: is) w) :
  Calls Tryz.prog 146 #[z0, .int .i64 x1] w fun e w' => e = .returned (.int .i64 (laws_markCondS_m x0 x1).1) ∧ Mem B w0 (iOwn (tSl tyCond 201) [z0] (laws_markCondS_m x0 x1).2 :: is) w' := by
 refine call_enterW (L := [(0, z0), (1, .int .i64 x1)]) (N := 34) func146 rfl rfl (Nat.le_of_ble_eq_true rfl) (argsL_cons rfl (argsL_cons rfl argsL_nil)) hm ?_
 refine CM_form (n := 0) rfl ?_
 rintro A1 c2 rfl m3
 refine sr (wa (nt' (CM_seq (sr (wa (nt' (CM_block ?_)))))))
 let F1 := fun k (s : Int × (List DCond)) => laws_markCondS_b1 k s.1 s.2
 let R2 := rng (R := (Int × (List DCond))) F1
 refine CM_loop (σ := Nat × (Int × (List DCond)) × (Unit)) (fun s => [(0, .slice A1 x0.length c2), (1, .int .i64 s.2.1.1), (5, .int .i64 ((s.1 : Nat) : Int))]) (fun s => (iOwn (tSl tyCond 201) [.slice A1 x0.length c2] s.2.1.2 :: is)) (fun s => s.1 ≤ x0.length ∧ R2 (x0.length - s.1) s.1 s.2.1 = R2 (x0.length - 0) 0 (x1, x0)) (fun s => x0.length - s.1) (0, (x1, x0), ()) sl3 (fun W hm => hm) ⟨(by omega), rfl⟩ ?_
 rintro ⟨k5, ⟨s6, d7⟩, ⟨⟩⟩ H10
 obtain ⟨hk8, hF9⟩ : k5 ≤ x0.length ∧ R2 (x0.length - k5) k5 (s6, d7) = R2 (x0.length - 0) 0 (x1, x0) := H10
 show CM Tryz.prog 34 _ _ _ _ [(0, .slice A1 x0.length c2), (1, .int .i64 s6), (5, .int .i64 ((k5 : Nat) : Int))] (iOwn (tSl tyCond 201) [.slice A1 x0.length c2] d7 :: is)
 refine CM_seq (sr (wm (wm ?_)))
 refine wv (vlen underlying32) ?_
 refine wv vlss ?_
 refine nt' ?_
 by_cases hl11 : k5 < x0.length
 ·have g12 := dlT hl11
  refine CM_condT rfl g12 ?_
  refine CM_skip (QM_then (CM_seq (CM_block (sr (wm (wm (wm ?_)))))))
  refine WM_formO (n := 0) rfl (by omega) ?_
  rintro g13 rfl
  refine wv (vix 3 k5 underlying32 type201) ?_
  refine wv (vf underlying201 rfl type3) ?_
  refine WM_focus (E := tyCond) (e := 201) (A := (some ⟨g13, 0, none⟩)) (n := x0.length) (c := c2) (xs := d7) (k := k5) (js := (is)) (by omega) (fun W hm => (hm.front (n := 0) rfl)) (fun ck14 => ?_)
  refine tyCond_sp ?_
  rintro ⟨⟩ rfl
  refine sf 0 3 [.int .i64 s6, .int .i64 ((gt d7 k5).Low), .int .i64 ((gt d7 k5).High)] (is) (fun W hm => (hm.front (n := 0) rfl)) type3 ?_
  refine nt' (sr (wm ?_))
  refine wv vadd ?_
  refine wa (nt' (sr (wm (wm (wm ?_)))))
  refine wv (vix 3 k5 underlying32 type201) ?_
  refine wv (vf underlying201 rfl type3) ?_
  refine sf 1 3 [.int .i64 s6, .int .i64 (IntKind.i64.wrap (s6 + 1)), .int .i64 ((gt d7 k5).High)] (is) (fun W hm => (hm.front (n := 0) rfl)) type3 ?_
  refine nt' (sr (wm ?_))
  refine wv vadd ?_
  refine wa (nt' (sr (wm (wm (wm ?_)))))
  refine wv (vix 3 k5 underlying32 type201) ?_
  refine wv (vf underlying201 rfl type3) ?_
  let K3 : List Value := [.int .i64 s6, .int .i64 (IntKind.i64.wrap (s6 + 1)), .int .i64 (IntKind.i64.wrap ((IntKind.i64.wrap (s6 + 1)) + 1))]
  refine sf 2 3 K3 (is) (fun W hm => (hm.front (n := 0) rfl)) type3 ?_
  refine nt' (CM_region (wm ?_))
  refine wv vadd ?_
  refine wa (WM_nil (QM_block_normal (QM_then (CM_region (wm ?_)))))
  refine wv (vadN k5 1 (by omega)) ?_
  refine wa (WM_nil ?_)
  refine QM_items (fun W hm => Mem.unfocus (Mem.join (is := []) (js := (iFoc tyCond 201 (some ⟨g13, 0, none⟩) x0.length c2 d7 k5 K3 :: (is))) (fun _ _ hs => tyCond_join (x := (⟨s6, (IntKind.i64.wrap (s6 + 1)), (IntKind.i64.wrap ((IntKind.i64.wrap (s6 + 1)) + 1))⟩ : DCond)) hs) (hm.front (n := 0) rfl))) ?_
  have hn15 := rng_next (R := (Int × (List DCond))) (body := F1) (k := k5) (s := (s6, d7)) (s' := ((IntKind.i64.wrap ((IntKind.i64.wrap ((IntKind.i64.wrap (s6 + 1)) + 1)) + 1)), (d7.set k5 (⟨s6, (IntKind.i64.wrap (s6 + 1)), (IntKind.i64.wrap ((IntKind.i64.wrap (s6 + 1)) + 1))⟩ : DCond)))) (show k5 < x0.length from by omega) (rfl) hF9
  exact QM_round (k5 + 1, ((IntKind.i64.wrap ((IntKind.i64.wrap ((IntKind.i64.wrap (s6 + 1)) + 1)) + 1)), (d7.set k5 (⟨s6, (IntKind.i64.wrap (s6 + 1)), (IntKind.i64.wrap ((IntKind.i64.wrap (s6 + 1)) + 1))⟩ : DCond))), ()) sl3 (fun W hm => hm) ⟨(by omega), hn15⟩ (rl (by omega))
 ·have g12 := dlF hl11
  refine CM_condF rfl g12 ?_
  refine CM_exit (QM_then_exit (QM_then_exit ?_))
  have hE16 : R2 (x0.length - 0) 0 (x1, x0) = Sum.inr (s6, d7) := rng_end hl11 hF9
  refine QM_block_hit (QM_then (sr (wm (wa (nt' (CM_ret ?_))))))
  have he17 := (show laws_markCondS_m x0 x1 = (s6, d7) from fin_inr hE16 (rfl))
  refine QM_rW rfl rfl (fun W hm => ⟨?_, ?_⟩)
  ·rw [he17]
  ·rw [he17]; exact hm

def laws_markRowS_b1 (k5 : Nat) (s6 : Int) (d7 : (List DRow)) : (Int × (List DRow)) ⊕ (Int × (List DRow)) :=
 Sum.inr ((laws_markIntS_m ((gt d7 k5).Values) (IntKind.i64.wrap (s6 + 1))).1, (d7.set k5 (⟨s6, (laws_markIntS_m ((gt d7 k5).Values) (IntKind.i64.wrap (s6 + 1))).2⟩ : DRow)))
def laws_markRowS_m (x0 : (List DRow)) (x1 : Int) : (Int × (List DRow)) :=
 Sum.elim id (fun (s : Int × (List DRow)) => (s.1, s.2)) (rng (R := (Int × (List DRow))) (fun k (s : Int × (List DRow)) => laws_markRowS_b1 k s.1 s.2) (x0.length - 0) 0 (x1, x0))
theorem cb96 : Cb Tryz.prog 96 := ⟨f96, _, func96, rfl, by decide⟩
theorem laws_markRowS_c (B : Nat) (w0 : World) (is : List It) (w : World) (z0 : Value) (x0 : (List DRow)) (x1 : Int) (hm : Mem B w0 (iOwn (tSl tyRow 73) [z0] x0 :: is) w) :
  Calls Tryz.prog 96 #[z0, .int .i64 x1] w fun e w' => e = .returned (.int .i64 (laws_markRowS_m x0 x1).1) ∧ Mem B w0 (iOwn (tSl tyRow 73) [z0] (laws_markRowS_m x0 x1).2 :: is) w' := by
 refine call_enterW (L := [(0, z0), (1, .int .i64 x1)]) (N := 27) func96 rfl rfl (Nat.le_of_ble_eq_true rfl) (argsL_cons rfl (argsL_cons rfl argsL_nil)) hm ?_
 refine CM_form (n := 0) rfl ?_
 rintro A1 c2 rfl m3
 refine sr (wa (nt' (CM_seq (sr (wa (nt' (CM_block ?_)))))))
 let F1 := fun k (s : Int × (List DRow)) => laws_markRowS_b1 k s.1 s.2
 let R2 := rng (R := (Int × (List DRow))) F1
 refine CM_loop (σ := Nat × (Int × (List DRow)) × (Unit)) (fun s => [(0, .slice A1 x0.length c2), (1, .int .i64 s.2.1.1), (5, .int .i64 ((s.1 : Nat) : Int))]) (fun s => (iOwn (tSl tyRow 73) [.slice A1 x0.length c2] s.2.1.2 :: is)) (fun s => s.1 ≤ x0.length ∧ R2 (x0.length - s.1) s.1 s.2.1 = R2 (x0.length - 0) 0 (x1, x0)) (fun s => x0.length - s.1) (0, (x1, x0), ()) sl3 (fun W hm => hm) ⟨(by omega), rfl⟩ ?_
 rintro ⟨k5, ⟨s6, d7⟩, ⟨⟩⟩ H10
 obtain ⟨hk8, hF9⟩ : k5 ≤ x0.length ∧ R2 (x0.length - k5) k5 (s6, d7) = R2 (x0.length - 0) 0 (x1, x0) := H10
 show CM Tryz.prog 27 _ _ _ _ [(0, .slice A1 x0.length c2), (1, .int .i64 s6), (5, .int .i64 ((k5 : Nat) : Int))] (iOwn (tSl tyRow 73) [.slice A1 x0.length c2] d7 :: is)
 refine CM_seq (sr (wm (wm ?_)))
 refine wv (vlen underlying35) ?_
 refine wv vlss ?_
 refine nt' ?_
 by_cases hl11 : k5 < x0.length
 ·have g12 := dlT hl11
  refine CM_condT rfl g12 ?_
  refine CM_skip (QM_then (CM_seq (CM_block (sr (wm (wm (wm ?_)))))))
  refine WM_formO (n := 0) rfl (by omega) ?_
  rintro g13 rfl
  refine wv (vix 2 k5 underlying35 type73) ?_
  refine wv (vf underlying73 rfl type3) ?_
  refine WM_focus (E := tyRow) (e := 73) (A := (some ⟨g13, 0, none⟩)) (n := x0.length) (c := c2) (xs := d7) (k := k5) (js := (is)) (by omega) (fun W hm => (hm.front (n := 0) rfl)) (fun ck14 => ?_)
  refine tyRow_sp ?_
  rintro v15 rfl
  refine WM_form (n := 0) rfl ?_
  rintro A16 c17 rfl m18
  refine sf 0 2 [.int .i64 s6, .slice A16 ((gt d7 k5).Values).length c17] (iOwn (tSl tInt 3) [.slice A16 ((gt d7 k5).Values).length c17] ((gt d7 k5).Values) :: is) (fun W hm => (hm.front (n := 1) rfl)) type3 ?_
  refine nt' (sr (wm ?_))
  refine wv vadd ?_
  refine wa (nt' (CM_region (wm (wm ?_))))
  refine wv (vix 2 k5 underlying35 type73) ?_
  refine wv (vf underlying73 rfl type25) ?_
  refine wv (fun W hm => rv_load underlying25 rfl rfl (hm.focCells (i := 0) rfl rfl 1 _ rfl)) ?_
  refine wm ?_
  refine cw (cl_fn cb50 rfl) (fun W hm => laws_markIntS_c B w0 (iFoc tyRow 73 (some ⟨g13, 0, none⟩) x0.length c2 d7 k5 [.int .i64 s6, .slice A16 ((gt d7 k5).Values).length c17] :: is) W (.slice A16 ((gt d7 k5).Values).length c17) ((gt d7 k5).Values) (IntKind.i64.wrap (s6 + 1)) (hm.front (n := 1) rfl)) ?_
  refine wa (WM_nil (QM_block_normal (QM_then (CM_region (wm ?_)))))
  refine wv (vadN k5 1 (by omega)) ?_
  refine wa (WM_nil ?_)
  refine QM_items (fun W hm => Mem.unfocus (Mem.join (is := [iOwn (tSl tInt 3) [.slice A16 ((gt d7 k5).Values).length c17] ((laws_markIntS_m ((gt d7 k5).Values) (IntKind.i64.wrap (s6 + 1))).2)]) (js := (iFoc tyRow 73 (some ⟨g13, 0, none⟩) x0.length c2 d7 k5 [.int .i64 s6, .slice A16 ((gt d7 k5).Values).length c17] :: (is))) (fun _ _ hs => tyRow_join (x := (⟨s6, (laws_markIntS_m ((gt d7 k5).Values) (IntKind.i64.wrap (s6 + 1))).2⟩ : DRow)) hs) ((hm.front (n := 1) rfl).front (n := 1) rfl))) ?_
  have hn20 := rng_next (R := (Int × (List DRow))) (body := F1) (k := k5) (s := (s6, d7)) (s' := ((laws_markIntS_m ((gt d7 k5).Values) (IntKind.i64.wrap (s6 + 1))).1, (d7.set k5 (⟨s6, (laws_markIntS_m ((gt d7 k5).Values) (IntKind.i64.wrap (s6 + 1))).2⟩ : DRow)))) (show k5 < x0.length from by omega) (rfl) hF9
  exact QM_round (k5 + 1, ((laws_markIntS_m ((gt d7 k5).Values) (IntKind.i64.wrap (s6 + 1))).1, (d7.set k5 (⟨s6, (laws_markIntS_m ((gt d7 k5).Values) (IntKind.i64.wrap (s6 + 1))).2⟩ : DRow))), ()) sl3 (fun W hm => hm) ⟨(by omega), hn20⟩ (rl (by omega))
 ·have g12 := dlF hl11
  refine CM_condF rfl g12 ?_
  refine CM_exit (QM_then_exit (QM_then_exit ?_))
  have hE21 : R2 (x0.length - 0) 0 (x1, x0) = Sum.inr (s6, d7) := rng_end hl11 hF9
  refine QM_block_hit (QM_then (sr (wm (wa (nt' (CM_ret ?_))))))
  have he22 := (show laws_markRowS_m x0 x1 = (s6, d7) from fin_inr hE21 (rfl))
  refine QM_rW rfl rfl (fun W hm => ⟨?_, ?_⟩)
  ·rw [he22]
  ·rw [he22]; exact hm

def laws_markActiveS_b1 (k5 : Nat) (s6 : Int) (d7 : (List DActive)) : (Int × (List DActive)) ⊕ (Int × (List DActive)) :=
 Sum.inr ((laws_markRowS_m ((gt d7 k5).Rows) (IntKind.i64.wrap ((IntKind.i64.wrap ((IntKind.i64.wrap (((laws_markIntS_m ((gt d7 k5).Todo) (IntKind.i64.wrap (((laws_markIntS_m ((gt d7 k5).Query.Out) ((laws_markCondS_m ((gt d7 k5).Query.Conds) (IntKind.i64.wrap ((IntKind.i64.wrap (s6 + 1)) + 1))).1)).1) + 1))).1) + 1)) + 1)) + 1))).1, (d7.set k5 (⟨(⟨s6, (IntKind.i64.wrap (s6 + 1)), (laws_markCondS_m ((gt d7 k5).Query.Conds) (IntKind.i64.wrap ((IntKind.i64.wrap (s6 + 1)) + 1))).2, (laws_markIntS_m ((gt d7 k5).Query.Out) ((laws_markCondS_m ((gt d7 k5).Query.Conds) (IntKind.i64.wrap ((IntKind.i64.wrap (s6 + 1)) + 1))).1)).2⟩ : DQuery), (laws_markIntS_m ((gt d7 k5).Query.Out) ((laws_markCondS_m ((gt d7 k5).Query.Conds) (IntKind.i64.wrap ((IntKind.i64.wrap (s6 + 1)) + 1))).1)).1, (laws_markIntS_m ((gt d7 k5).Todo) (IntKind.i64.wrap (((laws_markIntS_m ((gt d7 k5).Query.Out) ((laws_markCondS_m ((gt d7 k5).Query.Conds) (IntKind.i64.wrap ((IntKind.i64.wrap (s6 + 1)) + 1))).1)).1) + 1))).2, (laws_markIntS_m ((gt d7 k5).Todo) (IntKind.i64.wrap (((laws_markIntS_m ((gt d7 k5).Query.Out) ((laws_markCondS_m ((gt d7 k5).Query.Conds) (IntKind.i64.wrap ((IntKind.i64.wrap (s6 + 1)) + 1))).1)).1) + 1))).1, (IntKind.i64.wrap (((laws_markIntS_m ((gt d7 k5).Todo) (IntKind.i64.wrap (((laws_markIntS_m ((gt d7 k5).Query.Out) ((laws_markCondS_m ((gt d7 k5).Query.Conds) (IntKind.i64.wrap ((IntKind.i64.wrap (s6 + 1)) + 1))).1)).1) + 1))).1) + 1)), (IntKind.i64.wrap ((IntKind.i64.wrap (((laws_markIntS_m ((gt d7 k5).Todo) (IntKind.i64.wrap (((laws_markIntS_m ((gt d7 k5).Query.Out) ((laws_markCondS_m ((gt d7 k5).Query.Conds) (IntKind.i64.wrap ((IntKind.i64.wrap (s6 + 1)) + 1))).1)).1) + 1))).1) + 1)) + 1)), (laws_markRowS_m ((gt d7 k5).Rows) (IntKind.i64.wrap ((IntKind.i64.wrap ((IntKind.i64.wrap (((laws_markIntS_m ((gt d7 k5).Todo) (IntKind.i64.wrap (((laws_markIntS_m ((gt d7 k5).Query.Out) ((laws_markCondS_m ((gt d7 k5).Query.Conds) (IntKind.i64.wrap ((IntKind.i64.wrap (s6 + 1)) + 1))).1)).1) + 1))).1) + 1)) + 1)) + 1))).2⟩ : DActive)))
def laws_markActiveS_m (x0 : (List DActive)) (x1 : Int) : (Int × (List DActive)) :=
 Sum.elim id (fun (s : Int × (List DActive)) => (s.1, s.2)) (rng (R := (Int × (List DActive))) (fun k (s : Int × (List DActive)) => laws_markActiveS_b1 k s.1 s.2) (x0.length - 0) 0 (x1, x0))
theorem cb93 : Cb Tryz.prog 93 := ⟨f93, _, func93, rfl, by decide⟩
theorem laws_markActiveS_c (B : Nat) (w0 : World) (is : List It) (w : World) (z0 : Value) (x0 : (List DActive)) (x1 : Int) (hm : Mem B w0 (iOwn (tSl tyActive 64) [z0] x0 :: is) w) :
  Calls Tryz.prog 93 #[z0, .int .i64 x1] w fun e w' => e = .returned (.int .i64 (laws_markActiveS_m x0 x1).1) ∧ Mem B w0 (iOwn (tSl tyActive 64) [z0] (laws_markActiveS_m x0 x1).2 :: is) w' := by
 refine call_enterW (L := [(0, z0), (1, .int .i64 x1)]) (N := 87) func93 rfl rfl (Nat.le_of_ble_eq_true rfl) (argsL_cons rfl (argsL_cons rfl argsL_nil)) hm ?_
 refine CM_form (n := 0) rfl ?_
 rintro A1 c2 rfl m3
 refine sr (wa (nt' (CM_seq (sr (wa (nt' (CM_block ?_)))))))
 let F1 := fun k (s : Int × (List DActive)) => laws_markActiveS_b1 k s.1 s.2
 let R2 := rng (R := (Int × (List DActive))) F1
 refine CM_loop (σ := Nat × (Int × (List DActive)) × (Unit)) (fun s => [(0, .slice A1 x0.length c2), (1, .int .i64 s.2.1.1), (5, .int .i64 ((s.1 : Nat) : Int))]) (fun s => (iOwn (tSl tyActive 64) [.slice A1 x0.length c2] s.2.1.2 :: is)) (fun s => s.1 ≤ x0.length ∧ R2 (x0.length - s.1) s.1 s.2.1 = R2 (x0.length - 0) 0 (x1, x0)) (fun s => x0.length - s.1) (0, (x1, x0), ()) sl3 (fun W hm => hm) ⟨(by omega), rfl⟩ ?_
 rintro ⟨k5, ⟨s6, d7⟩, ⟨⟩⟩ H10
 obtain ⟨hk8, hF9⟩ : k5 ≤ x0.length ∧ R2 (x0.length - k5) k5 (s6, d7) = R2 (x0.length - 0) 0 (x1, x0) := H10
 show CM Tryz.prog 87 _ _ _ _ [(0, .slice A1 x0.length c2), (1, .int .i64 s6), (5, .int .i64 ((k5 : Nat) : Int))] (iOwn (tSl tyActive 64) [.slice A1 x0.length c2] d7 :: is)
 refine CM_seq (sr (wm (wm ?_)))
 refine wv (vlen underlying43) ?_
 refine wv vlss ?_
 refine nt' ?_
 by_cases hl11 : k5 < x0.length
 ·have g12 := dlT hl11
  refine CM_condT rfl g12 ?_
  refine CM_skip (QM_then (CM_seq (CM_block (sr (wm (wm (wm ?_)))))))
  refine WM_formO (n := 0) rfl (by omega) ?_
  rintro g13 rfl
  refine wv (vix 10 k5 underlying43 type64) ?_
  refine wv (vf underlying64 rfl type34) ?_
  refine wv (fun W hm => rv_fieldA (o := 0) underlying34 rfl type3 (by decide) rfl rfl) ?_
  refine WM_focus (E := tyActive) (e := 64) (A := (some ⟨g13, 0, none⟩)) (n := x0.length) (c := c2) (xs := d7) (k := k5) (js := (is)) (by omega) (fun W hm => (hm.front (n := 0) rfl)) (fun ck14 => ?_)
  refine tyActive_sp ?_
  rintro ⟨v15, v16, v17, v18⟩ rfl
  refine WM_form (n := 0) rfl ?_
  rintro A19 c20 rfl m21
  refine WM_form (n := 1) rfl ?_
  rintro A23 c24 rfl m25
  refine WM_form (n := 2) rfl ?_
  rintro A27 c28 rfl m29
  refine WM_form (n := 3) rfl ?_
  rintro A31 c32 rfl m33
  let I6 : It := iOwn (tSl tyCond 201) [.slice A19 ((gt d7 k5).Query.Conds).length c20] ((gt d7 k5).Query.Conds)
  let I7 : It := iOwn (tSl tInt 3) [.slice A23 ((gt d7 k5).Query.Out).length c24] ((gt d7 k5).Query.Out)
  let I8 : It := iOwn (tSl tInt 3) [.slice A27 ((gt d7 k5).Todo).length c28] ((gt d7 k5).Todo)
  let I9 : It := iOwn (tSl tyRow 73) [.slice A31 ((gt d7 k5).Rows).length c32] ((gt d7 k5).Rows)
  refine sf 0 10 [.int .i64 s6, .int .i64 ((gt d7 k5).Query.Tenant), .slice A19 ((gt d7 k5).Query.Conds).length c20, .slice A23 ((gt d7 k5).Query.Out).length c24, .int .i64 ((gt d7 k5).Time), .slice A27 ((gt d7 k5).Todo).length c28, .int .i64 ((gt d7 k5).Age), .int .i64 ((gt d7 k5).Sent), .int .i64 ((gt d7 k5).Cap), .slice A31 ((gt d7 k5).Rows).length c32] (I6 :: I7 :: I8 :: I9 :: is) (fun W hm => (hm.front (n := 4) rfl)) type3 ?_
  refine nt' (sr (wm ?_))
  refine wv vadd ?_
  refine wa (nt' (sr (wm (wm (wm ?_)))))
  refine wv (vix 10 k5 underlying43 type64) ?_
  refine wv (vf underlying64 rfl type34) ?_
  refine wv (fun W hm => rv_fieldA (o := 1) underlying34 rfl type3 (by decide) rfl rfl) ?_
  let K3 : List Value := [.int .i64 s6, .int .i64 (IntKind.i64.wrap (s6 + 1)), .slice A19 ((gt d7 k5).Query.Conds).length c20, .slice A23 ((gt d7 k5).Query.Out).length c24, .int .i64 ((gt d7 k5).Time), .slice A27 ((gt d7 k5).Todo).length c28, .int .i64 ((gt d7 k5).Age), .int .i64 ((gt d7 k5).Sent), .int .i64 ((gt d7 k5).Cap), .slice A31 ((gt d7 k5).Rows).length c32]
  refine sf 1 10 K3 (I6 :: I7 :: I8 :: I9 :: is) (fun W hm => (hm.front (n := 0) rfl)) type3 ?_
  refine nt' (sr (wm ?_))
  refine wv vadd ?_
  refine wa (nt' (sr (wm (wm ?_))))
  refine wv (vix 10 k5 underlying43 type64) ?_
  refine wv (vf underlying64 rfl type34) ?_
  refine wv (fun W hm => rv_fieldA (o := 2) underlying34 rfl type32 (by decide) rfl rfl) ?_
  refine wv (fun W hm => rv_load underlying32 rfl rfl (hm.focCells (i := 0) rfl rfl 2 _ rfl)) ?_
  refine wm ?_
  refine cw (cl_fn cb146 rfl) (fun W hm => laws_markCondS_c B w0 (iFoc tyActive 64 (some ⟨g13, 0, none⟩) x0.length c2 d7 k5 K3 :: I7 :: I8 :: I9 :: is) W (.slice A19 ((gt d7 k5).Query.Conds).length c20) ((gt d7 k5).Query.Conds) (IntKind.i64.wrap ((IntKind.i64.wrap (s6 + 1)) + 1)) (hm.front (n := 1) rfl)) ?_
  refine wa (nt' (sr (wm (wm ?_))))
  refine wv (vix 10 k5 underlying43 type64) ?_
  refine wv (vf underlying64 rfl type34) ?_
  refine wv (fun W hm => rv_fieldA (o := 3) underlying34 rfl type25 (by decide) rfl rfl) ?_
  refine wv (fun W hm => rv_load underlying25 rfl rfl (hm.focCells (i := 1) rfl rfl 3 _ rfl)) ?_
  refine wm ?_
  let I10 : It := iOwn (tSl tyCond 201) [.slice A19 ((gt d7 k5).Query.Conds).length c20] ((laws_markCondS_m ((gt d7 k5).Query.Conds) (IntKind.i64.wrap ((IntKind.i64.wrap (s6 + 1)) + 1))).2)
  refine cw (cl_fn cb50 rfl) (fun W hm => laws_markIntS_c B w0 (I10 :: iFoc tyActive 64 (some ⟨g13, 0, none⟩) x0.length c2 d7 k5 K3 :: I8 :: I9 :: is) W (.slice A23 ((gt d7 k5).Query.Out).length c24) ((gt d7 k5).Query.Out) ((laws_markCondS_m ((gt d7 k5).Query.Conds) (IntKind.i64.wrap ((IntKind.i64.wrap (s6 + 1)) + 1))).1) (hm.front (n := 2) rfl)) ?_
  refine wa (nt' (sr (wm (wm (wm ?_)))))
  refine wv (vix 10 k5 underlying43 type64) ?_
  refine wv (vf underlying64 rfl type3) ?_
  let K4 : List Value := [.int .i64 s6, .int .i64 (IntKind.i64.wrap (s6 + 1)), .slice A19 ((gt d7 k5).Query.Conds).length c20, .slice A23 ((gt d7 k5).Query.Out).length c24, .int .i64 ((laws_markIntS_m ((gt d7 k5).Query.Out) ((laws_markCondS_m ((gt d7 k5).Query.Conds) (IntKind.i64.wrap ((IntKind.i64.wrap (s6 + 1)) + 1))).1)).1), .slice A27 ((gt d7 k5).Todo).length c28, .int .i64 ((gt d7 k5).Age), .int .i64 ((gt d7 k5).Sent), .int .i64 ((gt d7 k5).Cap), .slice A31 ((gt d7 k5).Rows).length c32]
  let I11 : It := iOwn (tSl tInt 3) [.slice A23 ((gt d7 k5).Query.Out).length c24] ((laws_markIntS_m ((gt d7 k5).Query.Out) ((laws_markCondS_m ((gt d7 k5).Query.Conds) (IntKind.i64.wrap ((IntKind.i64.wrap (s6 + 1)) + 1))).1)).2)
  refine sf 4 10 K4 (I11 :: I10 :: I8 :: I9 :: is) (fun W hm => (hm.front (n := 2) rfl)) type3 ?_
  refine nt' (sr (wm ?_))
  refine wv vadd ?_
  refine wa (nt' (sr (wm (wm ?_))))
  refine wv (vix 10 k5 underlying43 type64) ?_
  refine wv (vf underlying64 rfl type25) ?_
  refine wv (fun W hm => rv_load underlying25 rfl rfl (hm.focCells (i := 0) rfl rfl 5 _ rfl)) ?_
  refine wm ?_
  refine cw (cl_fn cb50 rfl) (fun W hm => laws_markIntS_c B w0 (iFoc tyActive 64 (some ⟨g13, 0, none⟩) x0.length c2 d7 k5 K4 :: I11 :: I10 :: I9 :: is) W (.slice A27 ((gt d7 k5).Todo).length c28) ((gt d7 k5).Todo) (IntKind.i64.wrap (((laws_markIntS_m ((gt d7 k5).Query.Out) ((laws_markCondS_m ((gt d7 k5).Query.Conds) (IntKind.i64.wrap ((IntKind.i64.wrap (s6 + 1)) + 1))).1)).1) + 1)) (hm.front (n := 3) rfl)) ?_
  refine wa (nt' (sr (wm (wm (wm ?_)))))
  refine wv (vix 10 k5 underlying43 type64) ?_
  refine wv (vf underlying64 rfl type3) ?_
  let I12 : It := iOwn (tSl tInt 3) [.slice A27 ((gt d7 k5).Todo).length c28] ((laws_markIntS_m ((gt d7 k5).Todo) (IntKind.i64.wrap (((laws_markIntS_m ((gt d7 k5).Query.Out) ((laws_markCondS_m ((gt d7 k5).Query.Conds) (IntKind.i64.wrap ((IntKind.i64.wrap (s6 + 1)) + 1))).1)).1) + 1))).2)
  refine sf 6 10 [.int .i64 s6, .int .i64 (IntKind.i64.wrap (s6 + 1)), .slice A19 ((gt d7 k5).Query.Conds).length c20, .slice A23 ((gt d7 k5).Query.Out).length c24, .int .i64 ((laws_markIntS_m ((gt d7 k5).Query.Out) ((laws_markCondS_m ((gt d7 k5).Query.Conds) (IntKind.i64.wrap ((IntKind.i64.wrap (s6 + 1)) + 1))).1)).1), .slice A27 ((gt d7 k5).Todo).length c28, .int .i64 ((laws_markIntS_m ((gt d7 k5).Todo) (IntKind.i64.wrap (((laws_markIntS_m ((gt d7 k5).Query.Out) ((laws_markCondS_m ((gt d7 k5).Query.Conds) (IntKind.i64.wrap ((IntKind.i64.wrap (s6 + 1)) + 1))).1)).1) + 1))).1), .int .i64 ((gt d7 k5).Sent), .int .i64 ((gt d7 k5).Cap), .slice A31 ((gt d7 k5).Rows).length c32] (I12 :: I11 :: I10 :: I9 :: is) (fun W hm => (hm.front (n := 1) rfl)) type3 ?_
  refine nt' (sr (wm ?_))
  refine wv vadd ?_
  refine wa (nt' (sr (wm (wm (wm ?_)))))
  refine wv (vix 10 k5 underlying43 type64) ?_
  refine wv (vf underlying64 rfl type3) ?_
  refine sf 7 10 [.int .i64 s6, .int .i64 (IntKind.i64.wrap (s6 + 1)), .slice A19 ((gt d7 k5).Query.Conds).length c20, .slice A23 ((gt d7 k5).Query.Out).length c24, .int .i64 ((laws_markIntS_m ((gt d7 k5).Query.Out) ((laws_markCondS_m ((gt d7 k5).Query.Conds) (IntKind.i64.wrap ((IntKind.i64.wrap (s6 + 1)) + 1))).1)).1), .slice A27 ((gt d7 k5).Todo).length c28, .int .i64 ((laws_markIntS_m ((gt d7 k5).Todo) (IntKind.i64.wrap (((laws_markIntS_m ((gt d7 k5).Query.Out) ((laws_markCondS_m ((gt d7 k5).Query.Conds) (IntKind.i64.wrap ((IntKind.i64.wrap (s6 + 1)) + 1))).1)).1) + 1))).1), .int .i64 (IntKind.i64.wrap (((laws_markIntS_m ((gt d7 k5).Todo) (IntKind.i64.wrap (((laws_markIntS_m ((gt d7 k5).Query.Out) ((laws_markCondS_m ((gt d7 k5).Query.Conds) (IntKind.i64.wrap ((IntKind.i64.wrap (s6 + 1)) + 1))).1)).1) + 1))).1) + 1)), .int .i64 ((gt d7 k5).Cap), .slice A31 ((gt d7 k5).Rows).length c32] (I12 :: I11 :: I10 :: I9 :: is) (fun W hm => (hm.front (n := 0) rfl)) type3 ?_
  refine nt' (sr (wm ?_))
  refine wv vadd ?_
  refine wa (nt' (sr (wm (wm (wm ?_)))))
  refine wv (vix 10 k5 underlying43 type64) ?_
  refine wv (vf underlying64 rfl type3) ?_
  let K5 : List Value := [.int .i64 s6, .int .i64 (IntKind.i64.wrap (s6 + 1)), .slice A19 ((gt d7 k5).Query.Conds).length c20, .slice A23 ((gt d7 k5).Query.Out).length c24, .int .i64 ((laws_markIntS_m ((gt d7 k5).Query.Out) ((laws_markCondS_m ((gt d7 k5).Query.Conds) (IntKind.i64.wrap ((IntKind.i64.wrap (s6 + 1)) + 1))).1)).1), .slice A27 ((gt d7 k5).Todo).length c28, .int .i64 ((laws_markIntS_m ((gt d7 k5).Todo) (IntKind.i64.wrap (((laws_markIntS_m ((gt d7 k5).Query.Out) ((laws_markCondS_m ((gt d7 k5).Query.Conds) (IntKind.i64.wrap ((IntKind.i64.wrap (s6 + 1)) + 1))).1)).1) + 1))).1), .int .i64 (IntKind.i64.wrap (((laws_markIntS_m ((gt d7 k5).Todo) (IntKind.i64.wrap (((laws_markIntS_m ((gt d7 k5).Query.Out) ((laws_markCondS_m ((gt d7 k5).Query.Conds) (IntKind.i64.wrap ((IntKind.i64.wrap (s6 + 1)) + 1))).1)).1) + 1))).1) + 1)), .int .i64 (IntKind.i64.wrap ((IntKind.i64.wrap (((laws_markIntS_m ((gt d7 k5).Todo) (IntKind.i64.wrap (((laws_markIntS_m ((gt d7 k5).Query.Out) ((laws_markCondS_m ((gt d7 k5).Query.Conds) (IntKind.i64.wrap ((IntKind.i64.wrap (s6 + 1)) + 1))).1)).1) + 1))).1) + 1)) + 1)), .slice A31 ((gt d7 k5).Rows).length c32]
  refine sf 8 10 K5 (I12 :: I11 :: I10 :: I9 :: is) (fun W hm => (hm.front (n := 0) rfl)) type3 ?_
  refine nt' (sr (wm ?_))
  refine wv vadd ?_
  refine wa (nt' (CM_region (wm (wm ?_))))
  refine wv (vix 10 k5 underlying43 type64) ?_
  refine wv (vf underlying64 rfl type35) ?_
  refine wv (fun W hm => rv_load underlying35 rfl rfl (hm.focCells (i := 0) rfl rfl 9 _ rfl)) ?_
  refine wm ?_
  refine cw (cl_fn cb96 rfl) (fun W hm => laws_markRowS_c B w0 (iFoc tyActive 64 (some ⟨g13, 0, none⟩) x0.length c2 d7 k5 K5 :: I12 :: I11 :: I10 :: is) W (.slice A31 ((gt d7 k5).Rows).length c32) ((gt d7 k5).Rows) (IntKind.i64.wrap ((IntKind.i64.wrap ((IntKind.i64.wrap (((laws_markIntS_m ((gt d7 k5).Todo) (IntKind.i64.wrap (((laws_markIntS_m ((gt d7 k5).Query.Out) ((laws_markCondS_m ((gt d7 k5).Query.Conds) (IntKind.i64.wrap ((IntKind.i64.wrap (s6 + 1)) + 1))).1)).1) + 1))).1) + 1)) + 1)) + 1)) (hm.front (n := 4) rfl)) ?_
  refine wa (WM_nil (QM_block_normal (QM_then (CM_region (wm ?_)))))
  refine wv (vadN k5 1 (by omega)) ?_
  refine wa (WM_nil ?_)
  refine QM_items (fun W hm => Mem.unfocus (Mem.join (is := [I10, I11, I12, iOwn (tSl tyRow 73) [.slice A31 ((gt d7 k5).Rows).length c32] ((laws_markRowS_m ((gt d7 k5).Rows) (IntKind.i64.wrap ((IntKind.i64.wrap ((IntKind.i64.wrap (((laws_markIntS_m ((gt d7 k5).Todo) (IntKind.i64.wrap (((laws_markIntS_m ((gt d7 k5).Query.Out) ((laws_markCondS_m ((gt d7 k5).Query.Conds) (IntKind.i64.wrap ((IntKind.i64.wrap (s6 + 1)) + 1))).1)).1) + 1))).1) + 1)) + 1)) + 1))).2)]) (js := (iFoc tyActive 64 (some ⟨g13, 0, none⟩) x0.length c2 d7 k5 K5 :: (is))) (fun _ _ hs => tyActive_join (x := (⟨(⟨s6, (IntKind.i64.wrap (s6 + 1)), (laws_markCondS_m ((gt d7 k5).Query.Conds) (IntKind.i64.wrap ((IntKind.i64.wrap (s6 + 1)) + 1))).2, (laws_markIntS_m ((gt d7 k5).Query.Out) ((laws_markCondS_m ((gt d7 k5).Query.Conds) (IntKind.i64.wrap ((IntKind.i64.wrap (s6 + 1)) + 1))).1)).2⟩ : DQuery), (laws_markIntS_m ((gt d7 k5).Query.Out) ((laws_markCondS_m ((gt d7 k5).Query.Conds) (IntKind.i64.wrap ((IntKind.i64.wrap (s6 + 1)) + 1))).1)).1, (laws_markIntS_m ((gt d7 k5).Todo) (IntKind.i64.wrap (((laws_markIntS_m ((gt d7 k5).Query.Out) ((laws_markCondS_m ((gt d7 k5).Query.Conds) (IntKind.i64.wrap ((IntKind.i64.wrap (s6 + 1)) + 1))).1)).1) + 1))).2, (laws_markIntS_m ((gt d7 k5).Todo) (IntKind.i64.wrap (((laws_markIntS_m ((gt d7 k5).Query.Out) ((laws_markCondS_m ((gt d7 k5).Query.Conds) (IntKind.i64.wrap ((IntKind.i64.wrap (s6 + 1)) + 1))).1)).1) + 1))).1, (IntKind.i64.wrap (((laws_markIntS_m ((gt d7 k5).Todo) (IntKind.i64.wrap (((laws_markIntS_m ((gt d7 k5).Query.Out) ((laws_markCondS_m ((gt d7 k5).Query.Conds) (IntKind.i64.wrap ((IntKind.i64.wrap (s6 + 1)) + 1))).1)).1) + 1))).1) + 1)), (IntKind.i64.wrap ((IntKind.i64.wrap (((laws_markIntS_m ((gt d7 k5).Todo) (IntKind.i64.wrap (((laws_markIntS_m ((gt d7 k5).Query.Out) ((laws_markCondS_m ((gt d7 k5).Query.Conds) (IntKind.i64.wrap ((IntKind.i64.wrap (s6 + 1)) + 1))).1)).1) + 1))).1) + 1)) + 1)), (laws_markRowS_m ((gt d7 k5).Rows) (IntKind.i64.wrap ((IntKind.i64.wrap ((IntKind.i64.wrap (((laws_markIntS_m ((gt d7 k5).Todo) (IntKind.i64.wrap (((laws_markIntS_m ((gt d7 k5).Query.Out) ((laws_markCondS_m ((gt d7 k5).Query.Conds) (IntKind.i64.wrap ((IntKind.i64.wrap (s6 + 1)) + 1))).1)).1) + 1))).1) + 1)) + 1)) + 1))).2⟩ : DActive)) hs) (((((hm.front (n := 1) rfl).front (n := 1) rfl).front (n := 2) rfl).front (n := 3) rfl).front (n := 4) rfl))) ?_
  have hn35 := rng_next (R := (Int × (List DActive))) (body := F1) (k := k5) (s := (s6, d7)) (s' := ((laws_markRowS_m ((gt d7 k5).Rows) (IntKind.i64.wrap ((IntKind.i64.wrap ((IntKind.i64.wrap (((laws_markIntS_m ((gt d7 k5).Todo) (IntKind.i64.wrap (((laws_markIntS_m ((gt d7 k5).Query.Out) ((laws_markCondS_m ((gt d7 k5).Query.Conds) (IntKind.i64.wrap ((IntKind.i64.wrap (s6 + 1)) + 1))).1)).1) + 1))).1) + 1)) + 1)) + 1))).1, (d7.set k5 (⟨(⟨s6, (IntKind.i64.wrap (s6 + 1)), (laws_markCondS_m ((gt d7 k5).Query.Conds) (IntKind.i64.wrap ((IntKind.i64.wrap (s6 + 1)) + 1))).2, (laws_markIntS_m ((gt d7 k5).Query.Out) ((laws_markCondS_m ((gt d7 k5).Query.Conds) (IntKind.i64.wrap ((IntKind.i64.wrap (s6 + 1)) + 1))).1)).2⟩ : DQuery), (laws_markIntS_m ((gt d7 k5).Query.Out) ((laws_markCondS_m ((gt d7 k5).Query.Conds) (IntKind.i64.wrap ((IntKind.i64.wrap (s6 + 1)) + 1))).1)).1, (laws_markIntS_m ((gt d7 k5).Todo) (IntKind.i64.wrap (((laws_markIntS_m ((gt d7 k5).Query.Out) ((laws_markCondS_m ((gt d7 k5).Query.Conds) (IntKind.i64.wrap ((IntKind.i64.wrap (s6 + 1)) + 1))).1)).1) + 1))).2, (laws_markIntS_m ((gt d7 k5).Todo) (IntKind.i64.wrap (((laws_markIntS_m ((gt d7 k5).Query.Out) ((laws_markCondS_m ((gt d7 k5).Query.Conds) (IntKind.i64.wrap ((IntKind.i64.wrap (s6 + 1)) + 1))).1)).1) + 1))).1, (IntKind.i64.wrap (((laws_markIntS_m ((gt d7 k5).Todo) (IntKind.i64.wrap (((laws_markIntS_m ((gt d7 k5).Query.Out) ((laws_markCondS_m ((gt d7 k5).Query.Conds) (IntKind.i64.wrap ((IntKind.i64.wrap (s6 + 1)) + 1))).1)).1) + 1))).1) + 1)), (IntKind.i64.wrap ((IntKind.i64.wrap (((laws_markIntS_m ((gt d7 k5).Todo) (IntKind.i64.wrap (((laws_markIntS_m ((gt d7 k5).Query.Out) ((laws_markCondS_m ((gt d7 k5).Query.Conds) (IntKind.i64.wrap ((IntKind.i64.wrap (s6 + 1)) + 1))).1)).1) + 1))).1) + 1)) + 1)), (laws_markRowS_m ((gt d7 k5).Rows) (IntKind.i64.wrap ((IntKind.i64.wrap ((IntKind.i64.wrap (((laws_markIntS_m ((gt d7 k5).Todo) (IntKind.i64.wrap (((laws_markIntS_m ((gt d7 k5).Query.Out) ((laws_markCondS_m ((gt d7 k5).Query.Conds) (IntKind.i64.wrap ((IntKind.i64.wrap (s6 + 1)) + 1))).1)).1) + 1))).1) + 1)) + 1)) + 1))).2⟩ : DActive)))) (show k5 < x0.length from by omega) (rfl) hF9
  exact QM_round (k5 + 1, ((laws_markRowS_m ((gt d7 k5).Rows) (IntKind.i64.wrap ((IntKind.i64.wrap ((IntKind.i64.wrap (((laws_markIntS_m ((gt d7 k5).Todo) (IntKind.i64.wrap (((laws_markIntS_m ((gt d7 k5).Query.Out) ((laws_markCondS_m ((gt d7 k5).Query.Conds) (IntKind.i64.wrap ((IntKind.i64.wrap (s6 + 1)) + 1))).1)).1) + 1))).1) + 1)) + 1)) + 1))).1, (d7.set k5 (⟨(⟨s6, (IntKind.i64.wrap (s6 + 1)), (laws_markCondS_m ((gt d7 k5).Query.Conds) (IntKind.i64.wrap ((IntKind.i64.wrap (s6 + 1)) + 1))).2, (laws_markIntS_m ((gt d7 k5).Query.Out) ((laws_markCondS_m ((gt d7 k5).Query.Conds) (IntKind.i64.wrap ((IntKind.i64.wrap (s6 + 1)) + 1))).1)).2⟩ : DQuery), (laws_markIntS_m ((gt d7 k5).Query.Out) ((laws_markCondS_m ((gt d7 k5).Query.Conds) (IntKind.i64.wrap ((IntKind.i64.wrap (s6 + 1)) + 1))).1)).1, (laws_markIntS_m ((gt d7 k5).Todo) (IntKind.i64.wrap (((laws_markIntS_m ((gt d7 k5).Query.Out) ((laws_markCondS_m ((gt d7 k5).Query.Conds) (IntKind.i64.wrap ((IntKind.i64.wrap (s6 + 1)) + 1))).1)).1) + 1))).2, (laws_markIntS_m ((gt d7 k5).Todo) (IntKind.i64.wrap (((laws_markIntS_m ((gt d7 k5).Query.Out) ((laws_markCondS_m ((gt d7 k5).Query.Conds) (IntKind.i64.wrap ((IntKind.i64.wrap (s6 + 1)) + 1))).1)).1) + 1))).1, (IntKind.i64.wrap (((laws_markIntS_m ((gt d7 k5).Todo) (IntKind.i64.wrap (((laws_markIntS_m ((gt d7 k5).Query.Out) ((laws_markCondS_m ((gt d7 k5).Query.Conds) (IntKind.i64.wrap ((IntKind.i64.wrap (s6 + 1)) + 1))).1)).1) + 1))).1) + 1)), (IntKind.i64.wrap ((IntKind.i64.wrap (((laws_markIntS_m ((gt d7 k5).Todo) (IntKind.i64.wrap (((laws_markIntS_m ((gt d7 k5).Query.Out) ((laws_markCondS_m ((gt d7 k5).Query.Conds) (IntKind.i64.wrap ((IntKind.i64.wrap (s6 + 1)) + 1))).1)).1) + 1))).1) + 1)) + 1)), (laws_markRowS_m ((gt d7 k5).Rows) (IntKind.i64.wrap ((IntKind.i64.wrap ((IntKind.i64.wrap (((laws_markIntS_m ((gt d7 k5).Todo) (IntKind.i64.wrap (((laws_markIntS_m ((gt d7 k5).Query.Out) ((laws_markCondS_m ((gt d7 k5).Query.Conds) (IntKind.i64.wrap ((IntKind.i64.wrap (s6 + 1)) + 1))).1)).1) + 1))).1) + 1)) + 1)) + 1))).2⟩ : DActive))), ()) sl3 (fun W hm => hm) ⟨(by omega), hn35⟩ (rl (by omega))
 ·have g12 := dlF hl11
  refine CM_condF rfl g12 ?_
  refine CM_exit (QM_then_exit (QM_then_exit ?_))
  have hE36 : R2 (x0.length - 0) 0 (x1, x0) = Sum.inr (s6, d7) := rng_end hl11 hF9
  refine QM_block_hit (QM_then (sr (wm (wa (nt' (CM_ret ?_))))))
  have he37 := (show laws_markActiveS_m x0 x1 = (s6, d7) from fin_inr hE36 (rfl))
  refine QM_rW rfl rfl (fun W hm => ⟨?_, ?_⟩)
  ·rw [he37]
  ·rw [he37]; exact hm

end Go.Proofs.YtmikmbmdibabmaaGreat
