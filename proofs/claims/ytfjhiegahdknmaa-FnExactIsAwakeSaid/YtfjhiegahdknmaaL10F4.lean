/-
  Contracts of functions, printed by a program of ours.
-/
import Derived.Test.YtfjhiegahdknmaaL10F3
namespace Go.Proofs.Ytfjhiegahdknmaa
open Go.RowKit
def impl_IsEngine_b3 (x0 : DEngine) (k189 : Nat) : Bool ⊕ (Unit) :=
  cond (impl_IsCharge_m (gt x0.Ledger k189)) (Sum.inr ()) (Sum.inl false)
def impl_IsEngine_b2 (x0 : DEngine) (k143 : Nat) : Bool ⊕ (Unit) :=
  cond (impl_IsQuery_m ((gt x0.Done k143).Query)) (cond (impl_within_m ((gt x0.Done k143).Time) 0 x0.Store.Now) (cond (impl_within_m ((gt x0.Done k143).Steps) 0 100000) (cond (impl_resultOk_m ((gt x0.Done k143).Rows)) (Sum.inr ()) (Sum.inl false)) (Sum.inl false)) (Sum.inl false)) (Sum.inl false)
def impl_IsEngine_b1 (x0 : DEngine) (k56 : Nat) : Bool ⊕ (Unit) :=
  cond (impl_activeOk_m x0.Store (gt x0.Active k56)) (cond (decide (0 < ((k56 : Nat) : Int))) (cond (decide (((gt x0.Active k56).Query.Id) ≤ ((gt x0.Active (k56 - 1)).Query.Id))) (Sum.inl false) (Sum.inr ())) (Sum.inr ())) (Sum.inl false)
def impl_IsEngine_m (x0 : DEngine) : Bool :=
  cond (impl_IsStore_m x0.Store) (cond (impl_within_m x0.Cursor 0 (IntKind.i64.wrap (((x0.Store.Segments.length : Nat) : Int) - 1))) (cond (impl_isOrder_m x0.Order) (cond (impl_within_m x0.Steps 0 100000) (cond (decide (8 < ((x0.Active.length : Nat) : Int))) false (cond (decide (1000 < ((x0.Done.length : Nat) : Int))) false (cond (decide (1000 < ((x0.Ledger.length : Nat) : Int))) false (Sum.elim id (fun (s : Unit) => Sum.elim id (fun (s : Unit) => Sum.elim id (fun (s : Unit) => true) (rng (R := Bool) (fun k (_ : Unit) => impl_IsEngine_b3 x0 k) (x0.Ledger.length - 0) 0 ())) (rng (R := Bool) (fun k (_ : Unit) => impl_IsEngine_b2 x0 k) (x0.Done.length - 0) 0 ())) (rng (R := Bool) (fun k (_ : Unit) => impl_IsEngine_b1 x0 k) (x0.Active.length - 0) 0 ()))))) false) false) false) false
set_option maxRecDepth 100000 in
theorem cb58 : Cb Try.prog 58 := ⟨Try.f58, _, Try.func58, rfl, by decide⟩
set_option maxRecDepth 10000 in
set_option maxHeartbeats 4000000 in
theorem impl_IsEngine_c (w : World) (z0 : List Value) (x0 : DEngine) (r_0 : tyEngine.rd w w.heap.size z0 x0) (s_0 : smEngine 68719476736 x0) :
    Calls Try.prog 58 #[.agg z0.toArray] w fun e w' => e = .returned (.bool (impl_IsEngine_m x0)) ∧ Below w.heap.size w w' := by
  obtain ⟨v1, v3, v5, v7, v9, rfl, r2, r4, r6, r8, r10⟩ := tyEngine_rd r_0
  have r15 := r2
  obtain ⟨m11, A12, c13, rfl, q14⟩ := r2
  have r20 := r4
  obtain ⟨m16, A17, c18, rfl, q19⟩ := r4
  have r25 := r6
  obtain ⟨m21, A22, c23, rfl, q24⟩ := r6
  have r30 := r8
  obtain ⟨m26, A27, c28, rfl, q29⟩ := r8
  have r35 := r10
  obtain ⟨m31, A32, c33, rfl, q34⟩ := r10
  have l36 : x0.Store.Segments.length ≤ 68719476736 := s_0.1.1
  have l37 : x0.Order.length ≤ 68719476736 := s_0.2.1
  have l38 : x0.Active.length ≤ 68719476736 := s_0.2.2.1.1
  have l39 : x0.Done.length ≤ 68719476736 := s_0.2.2.2.1.1
  have l40 : x0.Ledger.length ≤ 68719476736 := s_0.2.2.2.2.1
  refine call_enterM (L := [(0, .agg #[.slice A12 x0.Store.Segments.length c13, .int .i64 x0.Store.Now, .int .i64 x0.Cursor, .slice A17 x0.Order.length c18, .slice A22 x0.Active.length c23, .slice A27 x0.Done.length c28, .slice A32 x0.Ledger.length c33, .int .i64 x0.Steps])]) (N := 128) Try.func58 rfl rfl (Nat.le_of_ble_eq_true rfl) (argsL_cons rfl argsL_nil) ?_
  refine sr ?_
  refine WM_box rfl (Wd_none rfl) (by decide) (fun p41 => ?_)
  refine wa ?_
  refine nt' ?_
  refine CM_seq ?_
  refine sr ?_
  refine wv (fun W hm => rv_field Try.underlying77 rfl Try.type26 (by decide) rfl rfl) ?_
  refine wv (fun W hm => rv_loadN (cs := [.slice A12 x0.Store.Segments.length c13, .int .i64 x0.Store.Now]) Try.underlying26 Try.type26 rfl rfl (hm.boxPart (n := 0) rfl rfl)) ?_
  refine WM_callV (cl_fn cb19 rfl) (fun W hm => impl_IsStore_c W _ x0.Store (tyStore_mk (x := x0.Store) (hm.rdS0 r15)) s_0.1) (Wd_none rfl) (by decide) ?_
  refine wv (fun W hm => rv_not rfl) ?_
  refine wm ?_
  rcases Bool.eq_false_or_eq_true (impl_IsStore_m x0.Store) with g43 | g43
  ·
    refine wg (fun W hm => rv_field Try.underlying77 rfl Try.type3 (by decide) rfl rfl) (nt g43) ?_
    refine wg (fun W hm => rv_load Try.underlying3 rfl rfl (hm.boxCell (n := 0) (o := 2) rfl rfl)) (nt g43) ?_
    refine wg (fun W hm => rv_field Try.underlying77 rfl Try.type26 (by decide) rfl rfl) (nt g43) ?_
    refine wg (fun W hm => rv_fieldA (o := 0) Try.underlying26 rfl Try.type24 (by decide) rfl rfl) (nt g43) ?_
    refine wg (fun W hm => rv_load Try.underlying24 rfl rfl (hm.boxCell (n := 0) (o := 0) rfl rfl)) (nt g43) ?_
    refine wg (fun W hm => rv_len Try.underlying24 rfl) (nt g43) ?_
    refine wg (fun W hm => rv_sub rfl rfl) (nt g43) ?_
    refine WM_callV (cl_fn cb82 rfl) (fun W hm => impl_within_c W x0.Cursor 0 (IntKind.i64.wrap (((x0.Store.Segments.length : Nat) : Int) - 1))) (Wd_some rfl rfl rfl (bw (nt g43) rfl)) (by decide) ?_
    refine wg (fun W hm => rv_not rfl) (nt g43) ?_
    refine wv (fun W hm => rv_pickF rfl (nt g43) rfl) ?_
    refine wm ?_
    rcases Bool.eq_false_or_eq_true (impl_within_m x0.Cursor 0 (IntKind.i64.wrap (((x0.Store.Segments.length : Nat) : Int) - 1))) with g45 | g45
    ·
      have hw := impl_within_fact g45
      rw [wrap_pred (by omega)] at hw
      refine wg (fun W hm => rv_field Try.underlying77 rfl Try.type27 (by decide) rfl rfl) (nt g45) ?_
      refine wg (fun W hm => rv_load Try.underlying27 rfl rfl (hm.boxCell (n := 0) (o := 3) rfl rfl)) (nt g45) ?_
      refine WM_callV (cl_fn cb142 rfl) (fun W hm => impl_isOrder_c W _ x0.Order (hm.rdS0 r20)) (Wd_some rfl rfl rfl (bw (nt g45) rfl)) (by decide) ?_
      refine wg (fun W hm => rv_not rfl) (nt g45) ?_
      refine wv (fun W hm => rv_pickF rfl (nt g45) rfl) ?_
      refine wm ?_
      rcases Bool.eq_false_or_eq_true (impl_isOrder_m x0.Order) with g47 | g47
      ·
        refine wg (fun W hm => rv_field Try.underlying77 rfl Try.type3 (by decide) rfl rfl) (nt g47) ?_
        refine wg (fun W hm => rv_load Try.underlying3 rfl rfl (hm.boxCell (n := 0) (o := 7) rfl rfl)) (nt g47) ?_
        refine WM_callV (cl_fn cb82 rfl) (fun W hm => impl_within_c W x0.Steps 0 100000) (Wd_some rfl rfl rfl (bw (nt g47) rfl)) (by decide) ?_
        refine wg (fun W hm => rv_not rfl) (nt g47) ?_
        refine wv (fun W hm => rv_pickF rfl (nt g47) rfl) ?_
        refine nt' ?_
        rcases Bool.eq_false_or_eq_true (impl_within_m x0.Steps 0 100000) with g49 | g49
        ·
          have hw := impl_within_fact g49
          refine CM_condF rfl (nt g49) ?_
          refine CM_skip ?_
          refine QM_then ?_
          refine CM_seq ?_
          refine sr ?_
          refine wv (fun W hm => rv_field Try.underlying77 rfl Try.type73 (by decide) rfl rfl) ?_
          refine wv (fun W hm => rv_load Try.underlying73 rfl rfl (hm.boxCell (n := 0) (o := 4) rfl rfl)) ?_
          refine wv (fun W hm => rv_len Try.underlying73 rfl) ?_
          refine wv (fun W hm => rv_gtr rfl rfl) ?_
          refine wm ?_
          by_cases h50 : 8 < ((x0.Active.length : Nat) : Int)
          · have g51 : (decide (8 < ((x0.Active.length : Nat) : Int))) = true := decide_eq_true h50
            refine ws g51 ?_
            refine ws g51 ?_
            refine ws g51 ?_
            refine ws g51 ?_
            refine wv (fun W hm => rv_pickT rfl g51 rfl) ?_
            refine wm ?_
            refine WM_skip (Wd_some rfl rfl rfl rfl) rfl (by decide) ?_
            refine WM_skip (Wd_some rfl rfl rfl rfl) rfl (by decide) ?_
            refine WM_skip (Wd_some rfl rfl rfl rfl) rfl (by decide) ?_
            refine WM_skip (Wd_some rfl rfl rfl rfl) rfl (by decide) ?_
            refine wv (fun W hm => rv_pickT rfl rfl rfl) ?_
            refine nt' ?_
            refine CM_condT rfl rfl ?_
            refine sr ?_
            refine wa ?_
            refine nt' ?_
            refine CM_ret ?_
            refine QM_then_ret ?_
            exact QM_ret1 rfl rfl (fun W hm => ⟨ret_b (show impl_IsEngine_m x0 = false from by unfold impl_IsEngine_m; exact cond_t g43 (cond_t g45 (cond_t g47 (cond_t g49 (cond_t g51 (rfl)))))), hm.below⟩)
          · have g51 : (decide (8 < ((x0.Active.length : Nat) : Int))) = false := decide_eq_false h50
            refine wg (fun W hm => rv_field Try.underlying77 rfl Try.type74 (by decide) rfl rfl) g51 ?_
            refine wg (fun W hm => rv_load Try.underlying74 rfl rfl (hm.boxCell (n := 0) (o := 5) rfl rfl)) g51 ?_
            refine wg (fun W hm => rv_len Try.underlying74 rfl) g51 ?_
            refine wg (fun W hm => rv_gtr rfl rfl) g51 ?_
            refine wv (fun W hm => rv_pickF rfl g51 rfl) ?_
            refine wm ?_
            by_cases h52 : 1000 < ((x0.Done.length : Nat) : Int)
            · have g53 : (decide (1000 < ((x0.Done.length : Nat) : Int))) = true := decide_eq_true h52
              refine ws g53 ?_
              refine ws g53 ?_
              refine ws g53 ?_
              refine ws g53 ?_
              refine wv (fun W hm => rv_pickT rfl g53 rfl) ?_
              refine nt' ?_
              refine CM_condT rfl rfl ?_
              refine sr ?_
              refine wa ?_
              refine nt' ?_
              refine CM_ret ?_
              refine QM_then_ret ?_
              exact QM_ret1 rfl rfl (fun W hm => ⟨ret_b (show impl_IsEngine_m x0 = false from by unfold impl_IsEngine_m; exact cond_t g43 (cond_t g45 (cond_t g47 (cond_t g49 (cond_f g51 (cond_t g53 (rfl))))))), hm.below⟩)
            · have g53 : (decide (1000 < ((x0.Done.length : Nat) : Int))) = false := decide_eq_false h52
              refine wg (fun W hm => rv_field Try.underlying77 rfl Try.type75 (by decide) rfl rfl) g53 ?_
              refine wg (fun W hm => rv_load Try.underlying75 rfl rfl (hm.boxCell (n := 0) (o := 6) rfl rfl)) g53 ?_
              refine wg (fun W hm => rv_len Try.underlying75 rfl) g53 ?_
              refine wg (fun W hm => rv_gtr rfl rfl) g53 ?_
              refine wv (fun W hm => rv_pickF rfl g53 rfl) ?_
              refine nt' ?_
              by_cases h54 : 1000 < ((x0.Ledger.length : Nat) : Int)
              · have g55 : (decide (1000 < ((x0.Ledger.length : Nat) : Int))) = true := decide_eq_true h54
                refine CM_condT rfl g55 ?_
                refine sr ?_
                refine wa ?_
                refine nt' ?_
                refine CM_ret ?_
                refine QM_then_ret ?_
                exact QM_ret1 rfl rfl (fun W hm => ⟨ret_b (show impl_IsEngine_m x0 = false from by unfold impl_IsEngine_m; exact cond_t g43 (cond_t g45 (cond_t g47 (cond_t g49 (cond_f g51 (cond_f g53 (cond_t g55 (rfl)))))))), hm.below⟩)
              · have g55 : (decide (1000 < ((x0.Ledger.length : Nat) : Int))) = false := decide_eq_false h54
                refine CM_condF rfl g55 ?_
                refine CM_skip ?_
                refine QM_then ?_
                refine CM_seq ?_
                refine sr ?_
                refine wv (fun W hm => rv_field Try.underlying77 rfl Try.type73 (by decide) rfl rfl) ?_
                refine wv (fun W hm => rv_load Try.underlying73 rfl rfl (hm.boxCell (n := 0) (o := 4) rfl rfl)) ?_
                refine wv (fun W hm => rv_len Try.underlying73 rfl) ?_
                refine wm ?_
                refine nt' ?_
                refine CM_block ?_
                refine CM_loop (σ := Nat × (Unit) × (Unit)) (fun s => [(1, .pointer (some (⟨p41, 0, none⟩ : Addr))), (53, .slice A22 x0.Active.length c23), (54, .int .i64 ((x0.Active.length : Nat) : Int)), (55, .int .i64 ((s.1 : Nat) : Int))]) (fun s => [iBox p41 77 [.slice A12 x0.Store.Segments.length c13, .int .i64 x0.Store.Now, .int .i64 x0.Cursor, .slice A17 x0.Order.length c18, .slice A22 x0.Active.length c23, .slice A27 x0.Done.length c28, .slice A32 x0.Ledger.length c33, .int .i64 x0.Steps]]) (fun s => s.1 ≤ x0.Active.length ∧ rng (R := Bool) (fun k (_ : Unit) => impl_IsEngine_b1 x0 k) (x0.Active.length - s.1) s.1 s.2.1 = rng (R := Bool) (fun k (_ : Unit) => impl_IsEngine_b1 x0 k) (x0.Active.length - 0) 0 ()) (fun s => x0.Active.length - s.1) (0, (), ()) (subL_cons rfl (subL_cons rfl (subL_cons rfl (subL_cons rfl subL_nil)))) (fun W hm => hm) ⟨(by omega), rfl⟩ ?_
                rintro ⟨k56, ⟨⟩, ⟨⟩⟩ H59
                obtain ⟨hk57, hF58⟩ : k56 ≤ x0.Active.length ∧ rng (R := Bool) (fun k (_ : Unit) => impl_IsEngine_b1 x0 k) (x0.Active.length - k56) k56 () = rng (R := Bool) (fun k (_ : Unit) => impl_IsEngine_b1 x0 k) (x0.Active.length - 0) 0 () := H59
                show CM Try.prog 128 _ _ _ _ [(1, .pointer (some (⟨p41, 0, none⟩ : Addr))), (53, .slice A22 x0.Active.length c23), (54, .int .i64 ((x0.Active.length : Nat) : Int)), (55, .int .i64 ((k56 : Nat) : Int))] [iBox p41 77 [.slice A12 x0.Store.Segments.length c13, .int .i64 x0.Store.Now, .int .i64 x0.Cursor, .slice A17 x0.Order.length c18, .slice A22 x0.Active.length c23, .slice A27 x0.Done.length c28, .slice A32 x0.Ledger.length c33, .int .i64 x0.Steps]]
                refine sr ?_
                refine wv (fun W hm => rv_lss rfl rfl) ?_
                refine nt' ?_
                refine CM_seq ?_
                by_cases hl60 : k56 < x0.Active.length
                · have g61 : (decide (((k56 : Nat) : Int) < ((x0.Active.length : Nat) : Int))) = true := decide_eq_true (by omega)
                  refine CM_condT rfl g61 ?_
                  refine CM_skip ?_
                  refine QM_then ?_
                  refine CM_seq ?_
                  refine CM_block ?_
                  refine sr ?_
                  refine wm ?_
                  obtain ⟨a62, rfl, hb63, he64⟩ := q24 (by omega)
                  refine wv (fun W hm => rv_index (sz := 10) (k := k56) Try.underlying73 Try.type127 rfl rfl rfl (by omega)) ?_
                  obtain ⟨_, e74, hc65⟩ := he64 k56 _ (gt_some (show k56 < x0.Active.length from by omega))
                  obtain ⟨v66, v68, v70, v72, rfl, r67, r69, r71, r73⟩ := tyActive_rd e74
                  have l75 : ((gt x0.Active k56).Query.Conds).length ≤ 68719476736 := (s_0.2.2.1.2 _ (gt_mem (show k56 < x0.Active.length from by omega))).1.1
                  have l76 : ((gt x0.Active k56).Query.Out).length ≤ 68719476736 := (s_0.2.2.1.2 _ (gt_mem (show k56 < x0.Active.length from by omega))).1.2
                  have l77 : ((gt x0.Active k56).Todo).length ≤ 68719476736 := (s_0.2.2.1.2 _ (gt_mem (show k56 < x0.Active.length from by omega))).2.1
                  have l78 : ((gt x0.Active k56).Rows).length ≤ 68719476736 := (s_0.2.2.1.2 _ (gt_mem (show k56 < x0.Active.length from by omega))).2.2.1
                  have r83 := r67
                  obtain ⟨m79, A80, c81, rfl, q82⟩ := r67
                  have r88 := r69
                  obtain ⟨m84, A85, c86, rfl, q87⟩ := r69
                  have r93 := r71
                  obtain ⟨m89, A90, c91, rfl, q92⟩ := r71
                  have r98 := r73
                  obtain ⟨m94, A95, c96, rfl, q97⟩ := r73
                  refine wv (fun W hm => rv_loadN (cs := [.int .i64 ((gt x0.Active k56).Query.Id), .int .i64 ((gt x0.Active k56).Query.Tenant), .slice A80 ((gt x0.Active k56).Query.Conds).length c81, .slice A85 ((gt x0.Active k56).Query.Out).length c86, .int .i64 ((gt x0.Active k56).Time), .slice A90 ((gt x0.Active k56).Todo).length c91, .int .i64 ((gt x0.Active k56).Age), .int .i64 ((gt x0.Active k56).Sent), .int .i64 ((gt x0.Active k56).Cap), .slice A95 ((gt x0.Active k56).Rows).length c96]) Try.underlying127 Try.type127 rfl rfl (hm.elCells (show (a62.add (k56 * 10)).block < w.heap.size from by rw [add_block]; exact hb63.1) hc65)) ?_
                  refine WM_alloc Try.type127 rfl (Wd_none rfl) (by decide) (fun p99 => ?_)
                  refine wa ?_
                  refine WM_storeBox (p := p99) (o := 0) (cs := [.int .i64 0, .int .i64 0, .slice none 0 0, .slice none 0 0, .int .i64 0, .slice none 0 0, .int .i64 0, .int .i64 0, .int .i64 0, .slice none 0 0]) (cs' := [.int .i64 ((gt x0.Active k56).Query.Id), .int .i64 ((gt x0.Active k56).Query.Tenant), .slice A80 ((gt x0.Active k56).Query.Conds).length c81, .slice A85 ((gt x0.Active k56).Query.Out).length c86, .int .i64 ((gt x0.Active k56).Time), .slice A90 ((gt x0.Active k56).Todo).length c91, .int .i64 ((gt x0.Active k56).Age), .int .i64 ((gt x0.Active k56).Sent), .int .i64 ((gt x0.Active k56).Cap), .slice A95 ((gt x0.Active k56).Rows).length c96]) (js := [iBox p41 77 [.slice A12 x0.Store.Segments.length c13, .int .i64 x0.Store.Now, .int .i64 x0.Cursor, .slice A17 x0.Order.length c18, .slice (some a62) x0.Active.length c23, .slice A27 x0.Done.length c28, .slice A32 x0.Ledger.length c33, .int .i64 x0.Steps]]) (fun W hm => hm) Try.type127 rfl (Nat.le_of_ble_eq_true rfl) rfl rfl rfl rfl (Wd_none rfl) ?_
                  refine nt' ?_
                  refine CM_seq ?_
                  refine CM_regionD (by kernel_rfl) (by kernel_rfl) ?_
                  refine qv (fun W hm => rv_field Try.underlying77 rfl Try.type26 (by decide) rfl rfl) ?_
                  refine qv (fun W hm => rv_loadN (cs := [.slice A12 x0.Store.Segments.length c13, .int .i64 x0.Store.Now]) Try.underlying26 Try.type26 rfl rfl (hm.boxPart (n := 1) rfl rfl)) ?_
                  refine qv (fun W hm => rv_loadN (cs := [.int .i64 ((gt x0.Active k56).Query.Id), .int .i64 ((gt x0.Active k56).Query.Tenant), .slice A80 ((gt x0.Active k56).Query.Conds).length c81, .slice A85 ((gt x0.Active k56).Query.Out).length c86, .int .i64 ((gt x0.Active k56).Time), .slice A90 ((gt x0.Active k56).Todo).length c91, .int .i64 ((gt x0.Active k56).Age), .int .i64 ((gt x0.Active k56).Sent), .int .i64 ((gt x0.Active k56).Cap), .slice A95 ((gt x0.Active k56).Rows).length c96]) Try.underlying127 Try.type127 rfl rfl (hm.boxCells (n := 0) rfl)) ?_
                  refine QR_callV (cl_fn cb143 rfl) (fun W hm => impl_activeOk_c W _ x0.Store _ (gt x0.Active k56) (tyStore_mk (x := x0.Store) (hm.rdS0 r15)) (tyActive_mk (x := (gt x0.Active k56)) (hm.rdS0 r83) (hm.rdS0 r88) (hm.rdS0 r93) (hm.rdS0 r98))) (Wd_none rfl) (by decide) ?_
                  refine qv (fun W hm => rv_not rfl) ?_
                  refine qm ?_
                  rcases Bool.eq_false_or_eq_true (impl_activeOk_m x0.Store (gt x0.Active k56)) with g101 | g101
                  ·
                    refine qg (fun W hm => rv_move rfl) (nt g101) ?_
                    refine qg (fun W hm => rv_gtr rfl rfl) (nt g101) ?_
                    refine qg (fun W hm => rv_move rfl) (nt g101) ?_
                    by_cases h102 : 0 < ((k56 : Nat) : Int)
                    · have g103 : (decide (0 < ((k56 : Nat) : Int))) = true := decide_eq_true h102
                      refine qg (fun W hm => rv_field Try.underlying77 rfl Try.type73 (by decide) rfl rfl) g103 ?_
                      refine qg (fun W hm => rv_load Try.underlying73 rfl rfl (hm.boxCell (n := 1) (o := 4) rfl rfl)) g103 ?_
                      refine qg (fun W hm => rv_move rfl) g103 ?_
                      refine qg (fun W hm => rv_subN (p := k56) (q := 1) rfl rfl (by omega) (by omega)) g103 ?_
                      refine qg (fun W hm => rv_index (sz := 10) (k := k56 - 1) Try.underlying73 Try.type127 rfl rfl rfl (by omega)) g103 ?_
                      refine qg (fun W hm => rv_field Try.underlying127 rfl Try.type125 (by decide) rfl rfl) g103 ?_
                      refine qg (fun W hm => rv_fieldA (o := 0) Try.underlying125 rfl Try.type3 (by decide) rfl rfl) g103 ?_
                      obtain ⟨_, e113, hc104⟩ := he64 (k56 - 1) _ (gt_some (show (k56 - 1) < x0.Active.length from by omega))
                      obtain ⟨v105, v107, v109, v111, rfl, r106, r108, r110, r112⟩ := tyActive_rd e113
                      have l114 : ((gt x0.Active (k56 - 1)).Query.Conds).length ≤ 68719476736 := (s_0.2.2.1.2 _ (gt_mem (show (k56 - 1) < x0.Active.length from by omega))).1.1
                      have l115 : ((gt x0.Active (k56 - 1)).Query.Out).length ≤ 68719476736 := (s_0.2.2.1.2 _ (gt_mem (show (k56 - 1) < x0.Active.length from by omega))).1.2
                      have l116 : ((gt x0.Active (k56 - 1)).Todo).length ≤ 68719476736 := (s_0.2.2.1.2 _ (gt_mem (show (k56 - 1) < x0.Active.length from by omega))).2.1
                      have l117 : ((gt x0.Active (k56 - 1)).Rows).length ≤ 68719476736 := (s_0.2.2.1.2 _ (gt_mem (show (k56 - 1) < x0.Active.length from by omega))).2.2.1
                      have r122 := r106
                      obtain ⟨m118, A119, c120, rfl, q121⟩ := r106
                      have r127 := r108
                      obtain ⟨m123, A124, c125, rfl, q126⟩ := r108
                      have r132 := r110
                      obtain ⟨m128, A129, c130, rfl, q131⟩ := r110
                      have r137 := r112
                      obtain ⟨m133, A134, c135, rfl, q136⟩ := r112
                      refine qg (fun W hm => rv_load Try.underlying3 rfl rfl ((hm.cell0 (show ((a62.add ((k56 - 1) * 10)).add 0).block < w.heap.size from by rw [add_block, add_block]; exact hb63.1)).trans (hc104 0 _ rfl))) g103 ?_
                      refine qg (fun W hm => rv_field Try.underlying127 rfl Try.type125 (by decide) rfl rfl) g103 ?_
                      refine qg (fun W hm => rv_fieldA (o := 0) Try.underlying125 rfl Try.type3 (by decide) rfl rfl) g103 ?_
                      refine qg (fun W hm => rv_load Try.underlying3 rfl rfl (hm.boxCell (n := 0) (o := 0) rfl rfl)) g103 ?_
                      refine qg (fun W hm => rv_geq rfl rfl) g103 ?_
                      refine qg (fun W hm => rv_pickT rfl g103 rfl) (nt g101) ?_
                      refine qv (fun W hm => rv_pickF rfl (nt g101) rfl) ?_
                      refine nq' ?_
                      by_cases h138 : ((gt x0.Active k56).Query.Id) ≤ ((gt x0.Active (k56 - 1)).Query.Id)
                      · have g139 : (decide (((gt x0.Active k56).Query.Id) ≤ ((gt x0.Active (k56 - 1)).Query.Id))) = true := decide_eq_true h138
                        refine CM_condT rfl g139 ?_
                        refine sr ?_
                        refine wa ?_
                        refine nt' ?_
                        refine CM_ret ?_
                        refine QM_block_ret ?_
                        refine QM_then_ret ?_
                        refine QM_then_ret ?_
                        refine QM_block_ret ?_
                        refine QM_then_ret ?_
                        exact QM_ret1 rfl rfl (fun W hm => ⟨ret_b (show impl_IsEngine_m x0 = false from by unfold impl_IsEngine_m; exact cond_t g43 (cond_t g45 (cond_t g47 (cond_t g49 (cond_f g51 (cond_f g53 (cond_f g55 (fin_inl (rng_ret (body := (fun k (_ : Unit) => impl_IsEngine_b1 x0 k)) (k := k56) (s := ()) (show k56 < x0.Active.length from by omega) (show impl_IsEngine_b1 x0 k56 = Sum.inl false from by unfold impl_IsEngine_b1; exact cond_t g101 (cond_t g103 (cond_t g139 (rfl)))) hF58) rfl)))))))), hm.below⟩)
                      · have g139 : (decide (((gt x0.Active k56).Query.Id) ≤ ((gt x0.Active (k56 - 1)).Query.Id))) = false := decide_eq_false h138
                        refine CM_condF rfl g139 ?_
                        refine CM_skip ?_
                        refine QM_block_normal ?_
                        refine QM_then ?_
                        refine CM_region ?_
                        refine wv (fun W hm => rv_addN (p := k56) (q := 1) rfl rfl (by omega)) ?_
                        refine wm ?_
                        refine WM_nil ?_
                        have hn140 := rng_next (R := Bool) (body := (fun k (_ : Unit) => impl_IsEngine_b1 x0 k)) (k := k56) (s := ()) (s' := ()) (show k56 < x0.Active.length from by omega) (show impl_IsEngine_b1 x0 k56 = Sum.inr () from by unfold impl_IsEngine_b1; exact cond_t g101 (cond_t g103 (cond_f g139 (rfl)))) hF58
                        exact QM_round (k56 + 1, (), ()) (subL_cons rfl (subL_cons rfl (subL_cons rfl (subL_cons rfl subL_nil)))) (fun W hm => (hm.pick [1] (by decide))) ⟨(by omega), hn140⟩ (show x0.Active.length - (k56 + 1) < x0.Active.length - k56 from by omega)
                    · have g103 : (decide (0 < ((k56 : Nat) : Int))) = false := decide_eq_false h102
                      refine qs g103 ?_
                      refine qs g103 ?_
                      refine qs g103 ?_
                      refine qs g103 ?_
                      refine qs g103 ?_
                      refine qs g103 ?_
                      refine qs g103 ?_
                      refine qs g103 ?_
                      refine qs g103 ?_
                      refine qs g103 ?_
                      refine qs g103 ?_
                      refine qs g103 ?_
                      refine qg (fun W hm => rv_pickF rfl g103 rfl) (nt g101) ?_
                      refine qv (fun W hm => rv_pickF rfl (nt g101) rfl) ?_
                      refine nq' ?_
                      refine CM_condF rfl rfl ?_
                      refine CM_skip ?_
                      refine QM_block_normal ?_
                      refine QM_then ?_
                      refine CM_region ?_
                      refine wv (fun W hm => rv_addN (p := k56) (q := 1) rfl rfl (by omega)) ?_
                      refine wm ?_
                      refine WM_nil ?_
                      have hn141 := rng_next (R := Bool) (body := (fun k (_ : Unit) => impl_IsEngine_b1 x0 k)) (k := k56) (s := ()) (s' := ()) (show k56 < x0.Active.length from by omega) (show impl_IsEngine_b1 x0 k56 = Sum.inr () from by unfold impl_IsEngine_b1; exact cond_t g101 (cond_f g103 (rfl))) hF58
                      exact QM_round (k56 + 1, (), ()) (subL_cons rfl (subL_cons rfl (subL_cons rfl (subL_cons rfl subL_nil)))) (fun W hm => (hm.pick [1] (by decide))) ⟨(by omega), hn141⟩ (show x0.Active.length - (k56 + 1) < x0.Active.length - k56 from by omega)
                  ·
                    refine qs (nf g101) ?_
                    refine qs (nf g101) ?_
                    refine qs (nf g101) ?_
                    refine qu ?_
                    refine qu ?_
                    refine qu ?_
                    refine qu ?_
                    refine qu ?_
                    refine qu ?_
                    refine qu ?_
                    refine qu ?_
                    refine qu ?_
                    refine qu ?_
                    refine qu ?_
                    refine qu ?_
                    refine qs (nf g101) ?_
                    refine qv (fun W hm => rv_pickT rfl (nf g101) rfl) ?_
                    refine nq' ?_
                    refine CM_condT rfl rfl ?_
                    refine sr ?_
                    refine wa ?_
                    refine nt' ?_
                    refine CM_ret ?_
                    refine QM_block_ret ?_
                    refine QM_then_ret ?_
                    refine QM_then_ret ?_
                    refine QM_block_ret ?_
                    refine QM_then_ret ?_
                    exact QM_ret1 rfl rfl (fun W hm => ⟨ret_b (show impl_IsEngine_m x0 = false from by unfold impl_IsEngine_m; exact cond_t g43 (cond_t g45 (cond_t g47 (cond_t g49 (cond_f g51 (cond_f g53 (cond_f g55 (fin_inl (rng_ret (body := (fun k (_ : Unit) => impl_IsEngine_b1 x0 k)) (k := k56) (s := ()) (show k56 < x0.Active.length from by omega) (show impl_IsEngine_b1 x0 k56 = Sum.inl false from by unfold impl_IsEngine_b1; exact cond_f g101 (rfl)) hF58) rfl)))))))), hm.below⟩)
                · have g61 : (decide (((k56 : Nat) : Int) < ((x0.Active.length : Nat) : Int))) = false := decide_eq_false (by omega)
                  refine CM_condF rfl g61 ?_
                  refine CM_exit ?_
                  refine QM_then_exit ?_
                  refine QM_then_exit ?_
                  have hE142 : rng (R := Bool) (fun k (_ : Unit) => impl_IsEngine_b1 x0 k) (x0.Active.length - 0) 0 () = Sum.inr () := rng_end hl60 hF58
                  refine QM_block_hit ?_
                  refine QM_then ?_
                  refine CM_seq ?_
                  refine sr ?_
                  refine wv (fun W hm => rv_field Try.underlying77 rfl Try.type74 (by decide) rfl rfl) ?_
                  refine wv (fun W hm => rv_load Try.underlying74 rfl rfl (hm.boxCell (n := 0) (o := 5) rfl rfl)) ?_
                  refine wv (fun W hm => rv_len Try.underlying74 rfl) ?_
                  refine wm ?_
                  refine nt' ?_
                  refine CM_block ?_
                  refine CM_loop (σ := Nat × (Unit) × (Unit)) (fun s => [(1, .pointer (some (⟨p41, 0, none⟩ : Addr))), (85, .slice A27 x0.Done.length c28), (86, .int .i64 ((x0.Done.length : Nat) : Int)), (87, .int .i64 ((s.1 : Nat) : Int))]) (fun s => [iBox p41 77 [.slice A12 x0.Store.Segments.length c13, .int .i64 x0.Store.Now, .int .i64 x0.Cursor, .slice A17 x0.Order.length c18, .slice A22 x0.Active.length c23, .slice A27 x0.Done.length c28, .slice A32 x0.Ledger.length c33, .int .i64 x0.Steps]]) (fun s => s.1 ≤ x0.Done.length ∧ rng (R := Bool) (fun k (_ : Unit) => impl_IsEngine_b2 x0 k) (x0.Done.length - s.1) s.1 s.2.1 = rng (R := Bool) (fun k (_ : Unit) => impl_IsEngine_b2 x0 k) (x0.Done.length - 0) 0 ()) (fun s => x0.Done.length - s.1) (0, (), ()) (subL_cons rfl (subL_cons rfl (subL_cons rfl (subL_cons rfl subL_nil)))) (fun W hm => hm) ⟨(by omega), rfl⟩ ?_
                  rintro ⟨k143, ⟨⟩, ⟨⟩⟩ H146
                  obtain ⟨hk144, hF145⟩ : k143 ≤ x0.Done.length ∧ rng (R := Bool) (fun k (_ : Unit) => impl_IsEngine_b2 x0 k) (x0.Done.length - k143) k143 () = rng (R := Bool) (fun k (_ : Unit) => impl_IsEngine_b2 x0 k) (x0.Done.length - 0) 0 () := H146
                  show CM Try.prog 128 _ _ _ _ [(1, .pointer (some (⟨p41, 0, none⟩ : Addr))), (85, .slice A27 x0.Done.length c28), (86, .int .i64 ((x0.Done.length : Nat) : Int)), (87, .int .i64 ((k143 : Nat) : Int))] [iBox p41 77 [.slice A12 x0.Store.Segments.length c13, .int .i64 x0.Store.Now, .int .i64 x0.Cursor, .slice A17 x0.Order.length c18, .slice A22 x0.Active.length c23, .slice A27 x0.Done.length c28, .slice A32 x0.Ledger.length c33, .int .i64 x0.Steps]]
                  refine sr ?_
                  refine wv (fun W hm => rv_lss rfl rfl) ?_
                  refine nt' ?_
                  refine CM_seq ?_
                  by_cases hl147 : k143 < x0.Done.length
                  · have g148 : (decide (((k143 : Nat) : Int) < ((x0.Done.length : Nat) : Int))) = true := decide_eq_true (by omega)
                    refine CM_condT rfl g148 ?_
                    refine CM_skip ?_
                    refine QM_then ?_
                    refine CM_seq ?_
                    refine CM_block ?_
                    refine sr ?_
                    obtain ⟨a149, rfl, hb150, he151⟩ := q29 (by omega)
                    refine wv (fun W hm => rv_index (sz := 7) (k := k143) Try.underlying74 Try.type136 rfl rfl rfl (by omega)) ?_
                    obtain ⟨_, e159, hc152⟩ := he151 k143 _ (gt_some (show k143 < x0.Done.length from by omega))
                    obtain ⟨v153, v155, v157, rfl, r154, r156, r158⟩ := tyFinished_rd e159
                    have l160 : ((gt x0.Done k143).Query.Conds).length ≤ 68719476736 := (s_0.2.2.2.1.2 _ (gt_mem (show k143 < x0.Done.length from by omega))).1.1
                    have l161 : ((gt x0.Done k143).Query.Out).length ≤ 68719476736 := (s_0.2.2.2.1.2 _ (gt_mem (show k143 < x0.Done.length from by omega))).1.2
                    have l162 : ((gt x0.Done k143).Rows).length ≤ 68719476736 := (s_0.2.2.2.1.2 _ (gt_mem (show k143 < x0.Done.length from by omega))).2.1
                    have r167 := r154
                    obtain ⟨m163, A164, c165, rfl, q166⟩ := r154
                    have r172 := r156
                    obtain ⟨m168, A169, c170, rfl, q171⟩ := r156
                    have r177 := r158
                    obtain ⟨m173, A174, c175, rfl, q176⟩ := r158
                    refine wv (fun W hm => rv_loadN (cs := [.int .i64 ((gt x0.Done k143).Query.Id), .int .i64 ((gt x0.Done k143).Query.Tenant), .slice A164 ((gt x0.Done k143).Query.Conds).length c165, .slice A169 ((gt x0.Done k143).Query.Out).length c170, .int .i64 ((gt x0.Done k143).Time), .int .i64 ((gt x0.Done k143).Steps), .slice A174 ((gt x0.Done k143).Rows).length c175]) Try.underlying136 Try.type136 rfl rfl (hm.elCells (show (a149.add (k143 * 7)).block < w.heap.size from by rw [add_block]; exact hb150.1) hc152)) ?_
                    refine WM_alloc Try.type136 rfl (Wd_none rfl) (by decide) (fun p178 => ?_)
                    refine WM_storeBox (p := p178) (o := 0) (cs := [.int .i64 0, .int .i64 0, .slice none 0 0, .slice none 0 0, .int .i64 0, .int .i64 0, .slice none 0 0]) (cs' := [.int .i64 ((gt x0.Done k143).Query.Id), .int .i64 ((gt x0.Done k143).Query.Tenant), .slice A164 ((gt x0.Done k143).Query.Conds).length c165, .slice A169 ((gt x0.Done k143).Query.Out).length c170, .int .i64 ((gt x0.Done k143).Time), .int .i64 ((gt x0.Done k143).Steps), .slice A174 ((gt x0.Done k143).Rows).length c175]) (js := [iBox p41 77 [.slice A12 x0.Store.Segments.length c13, .int .i64 x0.Store.Now, .int .i64 x0.Cursor, .slice A17 x0.Order.length c18, .slice A22 x0.Active.length c23, .slice (some a149) x0.Done.length c28, .slice A32 x0.Ledger.length c33, .int .i64 x0.Steps]]) (fun W hm => hm) Try.type136 rfl (Nat.le_of_ble_eq_true rfl) rfl rfl rfl rfl (Wd_none rfl) ?_
                    refine nt' ?_
                    refine sr ?_
                    refine wv (fun W hm => rv_field Try.underlying136 rfl Try.type125 (by decide) rfl rfl) ?_
                    refine wv (fun W hm => rv_loadN (cs := [.int .i64 ((gt x0.Done k143).Query.Id), .int .i64 ((gt x0.Done k143).Query.Tenant), .slice A164 ((gt x0.Done k143).Query.Conds).length c165, .slice A169 ((gt x0.Done k143).Query.Out).length c170]) Try.underlying125 Try.type125 rfl rfl (hm.boxPart (n := 0) rfl rfl)) ?_
                    refine WM_callV (cl_fn cb144 rfl) (fun W hm => impl_IsQuery_c W _ ((gt x0.Done k143).Query) (tyQuery_mk (x := ((gt x0.Done k143).Query)) (hm.rdS0 r167) (hm.rdS0 r172))) (Wd_none rfl) (by decide) ?_
                    refine wv (fun W hm => rv_not rfl) ?_
                    refine wm ?_
                    rcases Bool.eq_false_or_eq_true (impl_IsQuery_m ((gt x0.Done k143).Query)) with g180 | g180
                    ·
                      refine wg (fun W hm => rv_field Try.underlying136 rfl Try.type3 (by decide) rfl rfl) (nt g180) ?_
                      refine wg (fun W hm => rv_load Try.underlying3 rfl rfl (hm.boxCell (n := 0) (o := 4) rfl rfl)) (nt g180) ?_
                      refine wg (fun W hm => rv_field Try.underlying77 rfl Try.type26 (by decide) rfl rfl) (nt g180) ?_
                      refine wg (fun W hm => rv_fieldA (o := 1) Try.underlying26 rfl Try.type3 (by decide) rfl rfl) (nt g180) ?_
                      refine wg (fun W hm => rv_load Try.underlying3 rfl rfl (hm.boxCell (n := 1) (o := 1) rfl rfl)) (nt g180) ?_
                      refine WM_callV (cl_fn cb82 rfl) (fun W hm => impl_within_c W ((gt x0.Done k143).Time) 0 x0.Store.Now) (Wd_some rfl rfl rfl (bw (nt g180) rfl)) (by decide) ?_
                      refine wg (fun W hm => rv_not rfl) (nt g180) ?_
                      refine wv (fun W hm => rv_pickF rfl (nt g180) rfl) ?_
                      refine wm ?_
                      rcases Bool.eq_false_or_eq_true (impl_within_m ((gt x0.Done k143).Time) 0 x0.Store.Now) with g182 | g182
                      ·
                        have hw := impl_within_fact g182
                        refine wg (fun W hm => rv_field Try.underlying136 rfl Try.type3 (by decide) rfl rfl) (nt g182) ?_
                        refine wg (fun W hm => rv_load Try.underlying3 rfl rfl (hm.boxCell (n := 0) (o := 5) rfl rfl)) (nt g182) ?_
                        refine WM_callV (cl_fn cb82 rfl) (fun W hm => impl_within_c W ((gt x0.Done k143).Steps) 0 100000) (Wd_some rfl rfl rfl (bw (nt g182) rfl)) (by decide) ?_
                        refine wg (fun W hm => rv_not rfl) (nt g182) ?_
                        refine wv (fun W hm => rv_pickF rfl (nt g182) rfl) ?_
                        refine wm ?_
                        rcases Bool.eq_false_or_eq_true (impl_within_m ((gt x0.Done k143).Steps) 0 100000) with g184 | g184
                        ·
                          have hw := impl_within_fact g184
                          refine wg (fun W hm => rv_field Try.underlying136 rfl Try.type39 (by decide) rfl rfl) (nt g184) ?_
                          refine wg (fun W hm => rv_load Try.underlying39 rfl rfl (hm.boxCell (n := 0) (o := 6) rfl rfl)) (nt g184) ?_
                          refine WM_callV (cl_fn cb145 rfl) (fun W hm => impl_resultOk_c W _ ((gt x0.Done k143).Rows) (hm.rdS0 r177)) (Wd_some rfl rfl rfl (bw (nt g184) rfl)) (by decide) ?_
                          refine wg (fun W hm => rv_not rfl) (nt g184) ?_
                          refine wv (fun W hm => rv_pickF rfl (nt g184) rfl) ?_
                          refine nt' ?_
                          rcases Bool.eq_false_or_eq_true (impl_resultOk_m ((gt x0.Done k143).Rows)) with g186 | g186
                          ·
                            refine CM_condF rfl (nt g186) ?_
                            refine CM_skip ?_
                            refine QM_block_normal ?_
                            refine QM_then ?_
                            refine CM_region ?_
                            refine wv (fun W hm => rv_addN (p := k143) (q := 1) rfl rfl (by omega)) ?_
                            refine wm ?_
                            refine WM_nil ?_
                            have hn187 := rng_next (R := Bool) (body := (fun k (_ : Unit) => impl_IsEngine_b2 x0 k)) (k := k143) (s := ()) (s' := ()) (show k143 < x0.Done.length from by omega) (show impl_IsEngine_b2 x0 k143 = Sum.inr () from by unfold impl_IsEngine_b2; exact cond_t g180 (cond_t g182 (cond_t g184 (cond_t g186 (rfl))))) hF145
                            exact QM_round (k143 + 1, (), ()) (subL_cons rfl (subL_cons rfl (subL_cons rfl (subL_cons rfl subL_nil)))) (fun W hm => (hm.pick [1] (by decide))) ⟨(by omega), hn187⟩ (show x0.Done.length - (k143 + 1) < x0.Done.length - k143 from by omega)
                          ·
                            refine CM_condT rfl (nf g186) ?_
                            refine sr ?_
                            refine wa ?_
                            refine nt' ?_
                            refine CM_ret ?_
                            refine QM_block_ret ?_
                            refine QM_then_ret ?_
                            refine QM_then_ret ?_
                            refine QM_block_ret ?_
                            refine QM_then_ret ?_
                            exact QM_ret1 rfl rfl (fun W hm => ⟨ret_b (show impl_IsEngine_m x0 = false from by unfold impl_IsEngine_m; exact cond_t g43 (cond_t g45 (cond_t g47 (cond_t g49 (cond_f g51 (cond_f g53 (cond_f g55 (fin_inr hE142 (fin_inl (rng_ret (body := (fun k (_ : Unit) => impl_IsEngine_b2 x0 k)) (k := k143) (s := ()) (show k143 < x0.Done.length from by omega) (show impl_IsEngine_b2 x0 k143 = Sum.inl false from by unfold impl_IsEngine_b2; exact cond_t g180 (cond_t g182 (cond_t g184 (cond_f g186 (rfl))))) hF145) rfl))))))))), hm.below⟩)
                        ·
                          refine ws (nf g184) ?_
                          refine ws (nf g184) ?_
                          refine ws (nf g184) ?_
                          refine ws (nf g184) ?_
                          refine wv (fun W hm => rv_pickT rfl (nf g184) rfl) ?_
                          refine nt' ?_
                          refine CM_condT rfl rfl ?_
                          refine sr ?_
                          refine wa ?_
                          refine nt' ?_
                          refine CM_ret ?_
                          refine QM_block_ret ?_
                          refine QM_then_ret ?_
                          refine QM_then_ret ?_
                          refine QM_block_ret ?_
                          refine QM_then_ret ?_
                          exact QM_ret1 rfl rfl (fun W hm => ⟨ret_b (show impl_IsEngine_m x0 = false from by unfold impl_IsEngine_m; exact cond_t g43 (cond_t g45 (cond_t g47 (cond_t g49 (cond_f g51 (cond_f g53 (cond_f g55 (fin_inr hE142 (fin_inl (rng_ret (body := (fun k (_ : Unit) => impl_IsEngine_b2 x0 k)) (k := k143) (s := ()) (show k143 < x0.Done.length from by omega) (show impl_IsEngine_b2 x0 k143 = Sum.inl false from by unfold impl_IsEngine_b2; exact cond_t g180 (cond_t g182 (cond_f g184 (rfl)))) hF145) rfl))))))))), hm.below⟩)
                      ·
                        refine ws (nf g182) ?_
                        refine ws (nf g182) ?_
                        refine ws (nf g182) ?_
                        refine ws (nf g182) ?_
                        refine wv (fun W hm => rv_pickT rfl (nf g182) rfl) ?_
                        refine wm ?_
                        refine WM_skip (Wd_some rfl rfl rfl rfl) rfl (by decide) ?_
                        refine WM_skip (Wd_some rfl rfl rfl rfl) rfl (by decide) ?_
                        refine WM_skip (Wd_some rfl rfl rfl rfl) rfl (by decide) ?_
                        refine WM_skip (Wd_some rfl rfl rfl rfl) rfl (by decide) ?_
                        refine wv (fun W hm => rv_pickT rfl rfl rfl) ?_
                        refine nt' ?_
                        refine CM_condT rfl rfl ?_
                        refine sr ?_
                        refine wa ?_
                        refine nt' ?_
                        refine CM_ret ?_
                        refine QM_block_ret ?_
                        refine QM_then_ret ?_
                        refine QM_then_ret ?_
                        refine QM_block_ret ?_
                        refine QM_then_ret ?_
                        exact QM_ret1 rfl rfl (fun W hm => ⟨ret_b (show impl_IsEngine_m x0 = false from by unfold impl_IsEngine_m; exact cond_t g43 (cond_t g45 (cond_t g47 (cond_t g49 (cond_f g51 (cond_f g53 (cond_f g55 (fin_inr hE142 (fin_inl (rng_ret (body := (fun k (_ : Unit) => impl_IsEngine_b2 x0 k)) (k := k143) (s := ()) (show k143 < x0.Done.length from by omega) (show impl_IsEngine_b2 x0 k143 = Sum.inl false from by unfold impl_IsEngine_b2; exact cond_t g180 (cond_f g182 (rfl))) hF145) rfl))))))))), hm.below⟩)
                    ·
                      refine ws (nf g180) ?_
                      refine ws (nf g180) ?_
                      refine ws (nf g180) ?_
                      refine ws (nf g180) ?_
                      refine ws (nf g180) ?_
                      refine ws (nf g180) ?_
                      refine ws (nf g180) ?_
                      refine wv (fun W hm => rv_pickT rfl (nf g180) rfl) ?_
                      refine wm ?_
                      refine WM_skip (Wd_some rfl rfl rfl rfl) rfl (by decide) ?_
                      refine WM_skip (Wd_some rfl rfl rfl rfl) rfl (by decide) ?_
                      refine WM_skip (Wd_some rfl rfl rfl rfl) rfl (by decide) ?_
                      refine WM_skip (Wd_some rfl rfl rfl rfl) rfl (by decide) ?_
                      refine wv (fun W hm => rv_pickT rfl rfl rfl) ?_
                      refine wm ?_
                      refine WM_skip (Wd_some rfl rfl rfl rfl) rfl (by decide) ?_
                      refine WM_skip (Wd_some rfl rfl rfl rfl) rfl (by decide) ?_
                      refine WM_skip (Wd_some rfl rfl rfl rfl) rfl (by decide) ?_
                      refine WM_skip (Wd_some rfl rfl rfl rfl) rfl (by decide) ?_
                      refine wv (fun W hm => rv_pickT rfl rfl rfl) ?_
                      refine nt' ?_
                      refine CM_condT rfl rfl ?_
                      refine sr ?_
                      refine wa ?_
                      refine nt' ?_
                      refine CM_ret ?_
                      refine QM_block_ret ?_
                      refine QM_then_ret ?_
                      refine QM_then_ret ?_
                      refine QM_block_ret ?_
                      refine QM_then_ret ?_
                      exact QM_ret1 rfl rfl (fun W hm => ⟨ret_b (show impl_IsEngine_m x0 = false from by unfold impl_IsEngine_m; exact cond_t g43 (cond_t g45 (cond_t g47 (cond_t g49 (cond_f g51 (cond_f g53 (cond_f g55 (fin_inr hE142 (fin_inl (rng_ret (body := (fun k (_ : Unit) => impl_IsEngine_b2 x0 k)) (k := k143) (s := ()) (show k143 < x0.Done.length from by omega) (show impl_IsEngine_b2 x0 k143 = Sum.inl false from by unfold impl_IsEngine_b2; exact cond_f g180 (rfl)) hF145) rfl))))))))), hm.below⟩)
                  · have g148 : (decide (((k143 : Nat) : Int) < ((x0.Done.length : Nat) : Int))) = false := decide_eq_false (by omega)
                    refine CM_condF rfl g148 ?_
                    refine CM_exit ?_
                    refine QM_then_exit ?_
                    refine QM_then_exit ?_
                    have hE188 : rng (R := Bool) (fun k (_ : Unit) => impl_IsEngine_b2 x0 k) (x0.Done.length - 0) 0 () = Sum.inr () := rng_end hl147 hF145
                    refine QM_block_hit ?_
                    refine QM_then ?_
                    refine CM_seq ?_
                    refine sr ?_
                    refine wv (fun W hm => rv_field Try.underlying77 rfl Try.type75 (by decide) rfl rfl) ?_
                    refine wv (fun W hm => rv_load Try.underlying75 rfl rfl (hm.boxCell (n := 0) (o := 6) rfl rfl)) ?_
                    refine wv (fun W hm => rv_len Try.underlying75 rfl) ?_
                    refine wm ?_
                    refine nt' ?_
                    refine CM_block ?_
                    refine CM_loop (σ := Nat × (Unit) × (Unit)) (fun s => [(118, .slice A32 x0.Ledger.length c33), (119, .int .i64 ((x0.Ledger.length : Nat) : Int)), (120, .int .i64 ((s.1 : Nat) : Int))]) (fun s => [iBox p41 77 [.slice A12 x0.Store.Segments.length c13, .int .i64 x0.Store.Now, .int .i64 x0.Cursor, .slice A17 x0.Order.length c18, .slice A22 x0.Active.length c23, .slice A27 x0.Done.length c28, .slice A32 x0.Ledger.length c33, .int .i64 x0.Steps]]) (fun s => s.1 ≤ x0.Ledger.length ∧ rng (R := Bool) (fun k (_ : Unit) => impl_IsEngine_b3 x0 k) (x0.Ledger.length - s.1) s.1 s.2.1 = rng (R := Bool) (fun k (_ : Unit) => impl_IsEngine_b3 x0 k) (x0.Ledger.length - 0) 0 ()) (fun s => x0.Ledger.length - s.1) (0, (), ()) (subL_cons rfl (subL_cons rfl (subL_cons rfl subL_nil))) (fun W hm => hm) ⟨(by omega), rfl⟩ ?_
                    rintro ⟨k189, ⟨⟩, ⟨⟩⟩ H192
                    obtain ⟨hk190, hF191⟩ : k189 ≤ x0.Ledger.length ∧ rng (R := Bool) (fun k (_ : Unit) => impl_IsEngine_b3 x0 k) (x0.Ledger.length - k189) k189 () = rng (R := Bool) (fun k (_ : Unit) => impl_IsEngine_b3 x0 k) (x0.Ledger.length - 0) 0 () := H192
                    show CM Try.prog 128 _ _ _ _ [(118, .slice A32 x0.Ledger.length c33), (119, .int .i64 ((x0.Ledger.length : Nat) : Int)), (120, .int .i64 ((k189 : Nat) : Int))] [iBox p41 77 [.slice A12 x0.Store.Segments.length c13, .int .i64 x0.Store.Now, .int .i64 x0.Cursor, .slice A17 x0.Order.length c18, .slice A22 x0.Active.length c23, .slice A27 x0.Done.length c28, .slice A32 x0.Ledger.length c33, .int .i64 x0.Steps]]
                    refine sr ?_
                    refine wv (fun W hm => rv_lss rfl rfl) ?_
                    refine nt' ?_
                    refine CM_seq ?_
                    by_cases hl193 : k189 < x0.Ledger.length
                    · have g194 : (decide (((k189 : Nat) : Int) < ((x0.Ledger.length : Nat) : Int))) = true := decide_eq_true (by omega)
                      refine CM_condT rfl g194 ?_
                      refine CM_skip ?_
                      refine QM_then ?_
                      refine CM_seq ?_
                      refine CM_block ?_
                      refine sr ?_
                      obtain ⟨a195, rfl, hb196, he197⟩ := q34 (by omega)
                      refine wv (fun W hm => rv_index (sz := 5) (k := k189) Try.underlying75 Try.type140 rfl rfl rfl (by omega)) ?_
                      obtain ⟨_, e205, hc198⟩ := he197 k189 _ (gt_some (show k189 < x0.Ledger.length from by omega))
                      obtain ⟨v199, v201, v203, rfl, r200, r202, r204⟩ := tyCharge_rd e205
                      have l206 : ((gt x0.Ledger k189).Ids).length ≤ 68719476736 := (s_0.2.2.2.2.2 _ (gt_mem (show k189 < x0.Ledger.length from by omega))).1
                      have l207 : ((gt x0.Ledger k189).Tenants).length ≤ 68719476736 := (s_0.2.2.2.2.2 _ (gt_mem (show k189 < x0.Ledger.length from by omega))).2.1
                      have l208 : ((gt x0.Ledger k189).Rows).length ≤ 68719476736 := (s_0.2.2.2.2.2 _ (gt_mem (show k189 < x0.Ledger.length from by omega))).2.2
                      have r213 := r200
                      obtain ⟨m209, A210, c211, rfl, q212⟩ := r200
                      have r218 := r202
                      obtain ⟨m214, A215, c216, rfl, q217⟩ := r202
                      have r223 := r204
                      obtain ⟨m219, A220, c221, rfl, q222⟩ := r204
                      refine wv (fun W hm => rv_loadN (cs := [.int .i64 ((gt x0.Ledger k189).Segment), .int .i64 ((gt x0.Ledger k189).Base), .slice A210 ((gt x0.Ledger k189).Ids).length c211, .slice A215 ((gt x0.Ledger k189).Tenants).length c216, .slice A220 ((gt x0.Ledger k189).Rows).length c221]) Try.underlying140 Try.type140 rfl rfl (hm.elCells (show (a195.add (k189 * 5)).block < w.heap.size from by rw [add_block]; exact hb196.1) hc198)) ?_
                      refine WM_alloc Try.type140 rfl (Wd_none rfl) (by decide) (fun p224 => ?_)
                      refine WM_storeBox (p := p224) (o := 0) (cs := [.int .i64 0, .int .i64 0, .slice none 0 0, .slice none 0 0, .slice none 0 0]) (cs' := [.int .i64 ((gt x0.Ledger k189).Segment), .int .i64 ((gt x0.Ledger k189).Base), .slice A210 ((gt x0.Ledger k189).Ids).length c211, .slice A215 ((gt x0.Ledger k189).Tenants).length c216, .slice A220 ((gt x0.Ledger k189).Rows).length c221]) (js := [iBox p41 77 [.slice A12 x0.Store.Segments.length c13, .int .i64 x0.Store.Now, .int .i64 x0.Cursor, .slice A17 x0.Order.length c18, .slice A22 x0.Active.length c23, .slice A27 x0.Done.length c28, .slice (some a195) x0.Ledger.length c33, .int .i64 x0.Steps]]) (fun W hm => hm) Try.type140 rfl (Nat.le_of_ble_eq_true rfl) rfl rfl rfl rfl (Wd_none rfl) ?_
                      refine nt' ?_
                      refine sr ?_
                      refine wv (fun W hm => rv_loadN (cs := [.int .i64 ((gt x0.Ledger k189).Segment), .int .i64 ((gt x0.Ledger k189).Base), .slice A210 ((gt x0.Ledger k189).Ids).length c211, .slice A215 ((gt x0.Ledger k189).Tenants).length c216, .slice A220 ((gt x0.Ledger k189).Rows).length c221]) Try.underlying140 Try.type140 rfl rfl (hm.boxCells (n := 0) rfl)) ?_
                      refine WM_callV (cl_fn cb146 rfl) (fun W hm => impl_IsCharge_c W _ (gt x0.Ledger k189) (tyCharge_mk (x := (gt x0.Ledger k189)) (hm.rdS0 r213) (hm.rdS0 r218) (hm.rdS0 r223))) (Wd_none rfl) (by decide) ?_
                      refine wv (fun W hm => rv_not rfl) ?_
                      refine nt' ?_
                      rcases Bool.eq_false_or_eq_true (impl_IsCharge_m (gt x0.Ledger k189)) with g226 | g226
                      ·
                        refine CM_condF rfl (nt g226) ?_
                        refine CM_skip ?_
                        refine QM_block_normal ?_
                        refine QM_then ?_
                        refine CM_region ?_
                        refine wv (fun W hm => rv_addN (p := k189) (q := 1) rfl rfl (by omega)) ?_
                        refine wm ?_
                        refine WM_nil ?_
                        have hn227 := rng_next (R := Bool) (body := (fun k (_ : Unit) => impl_IsEngine_b3 x0 k)) (k := k189) (s := ()) (s' := ()) (show k189 < x0.Ledger.length from by omega) (show impl_IsEngine_b3 x0 k189 = Sum.inr () from by unfold impl_IsEngine_b3; exact cond_t g226 (rfl)) hF191
                        exact QM_round (k189 + 1, (), ()) (subL_cons rfl (subL_cons rfl (subL_cons rfl subL_nil))) (fun W hm => (hm.pick [1] (by decide))) ⟨(by omega), hn227⟩ (show x0.Ledger.length - (k189 + 1) < x0.Ledger.length - k189 from by omega)
                      ·
                        refine CM_condT rfl (nf g226) ?_
                        refine sr ?_
                        refine wa ?_
                        refine nt' ?_
                        refine CM_ret ?_
                        refine QM_block_ret ?_
                        refine QM_then_ret ?_
                        refine QM_then_ret ?_
                        refine QM_block_ret ?_
                        refine QM_then_ret ?_
                        exact QM_ret1 rfl rfl (fun W hm => ⟨ret_b (show impl_IsEngine_m x0 = false from by unfold impl_IsEngine_m; exact cond_t g43 (cond_t g45 (cond_t g47 (cond_t g49 (cond_f g51 (cond_f g53 (cond_f g55 (fin_inr hE142 (fin_inr hE188 (fin_inl (rng_ret (body := (fun k (_ : Unit) => impl_IsEngine_b3 x0 k)) (k := k189) (s := ()) (show k189 < x0.Ledger.length from by omega) (show impl_IsEngine_b3 x0 k189 = Sum.inl false from by unfold impl_IsEngine_b3; exact cond_f g226 (rfl)) hF191) rfl)))))))))), hm.below⟩)
                    · have g194 : (decide (((k189 : Nat) : Int) < ((x0.Ledger.length : Nat) : Int))) = false := decide_eq_false (by omega)
                      refine CM_condF rfl g194 ?_
                      refine CM_exit ?_
                      refine QM_then_exit ?_
                      refine QM_then_exit ?_
                      have hE228 : rng (R := Bool) (fun k (_ : Unit) => impl_IsEngine_b3 x0 k) (x0.Ledger.length - 0) 0 () = Sum.inr () := rng_end hl193 hF191
                      refine QM_block_hit ?_
                      refine QM_then ?_
                      refine sr ?_
                      refine wa ?_
                      refine nt' ?_
                      refine CM_ret ?_
                      exact QM_ret1 rfl rfl (fun W hm => ⟨ret_b (show impl_IsEngine_m x0 = true from by unfold impl_IsEngine_m; exact cond_t g43 (cond_t g45 (cond_t g47 (cond_t g49 (cond_f g51 (cond_f g53 (cond_f g55 (fin_inr hE142 (fin_inr hE188 (fin_inr hE228 (rfl))))))))))), hm.below⟩)
        ·
          refine CM_condT rfl (nf g49) ?_
          refine sr ?_
          refine wa ?_
          refine nt' ?_
          refine CM_ret ?_
          refine QM_then_ret ?_
          exact QM_ret1 rfl rfl (fun W hm => ⟨ret_b (show impl_IsEngine_m x0 = false from by unfold impl_IsEngine_m; exact cond_t g43 (cond_t g45 (cond_t g47 (cond_f g49 (rfl))))), hm.below⟩)
      ·
        refine ws (nf g47) ?_
        refine ws (nf g47) ?_
        refine ws (nf g47) ?_
        refine ws (nf g47) ?_
        refine wv (fun W hm => rv_pickT rfl (nf g47) rfl) ?_
        refine nt' ?_
        refine CM_condT rfl rfl ?_
        refine sr ?_
        refine wa ?_
        refine nt' ?_
        refine CM_ret ?_
        refine QM_then_ret ?_
        exact QM_ret1 rfl rfl (fun W hm => ⟨ret_b (show impl_IsEngine_m x0 = false from by unfold impl_IsEngine_m; exact cond_t g43 (cond_t g45 (cond_f g47 (rfl)))), hm.below⟩)
    ·
      refine ws (nf g45) ?_
      refine ws (nf g45) ?_
      refine ws (nf g45) ?_
      refine ws (nf g45) ?_
      refine wv (fun W hm => rv_pickT rfl (nf g45) rfl) ?_
      refine wm ?_
      refine WM_skip (Wd_some rfl rfl rfl rfl) rfl (by decide) ?_
      refine WM_skip (Wd_some rfl rfl rfl rfl) rfl (by decide) ?_
      refine WM_skip (Wd_some rfl rfl rfl rfl) rfl (by decide) ?_
      refine WM_skip (Wd_some rfl rfl rfl rfl) rfl (by decide) ?_
      refine wv (fun W hm => rv_pickT rfl rfl rfl) ?_
      refine nt' ?_
      refine CM_condT rfl rfl ?_
      refine sr ?_
      refine wa ?_
      refine nt' ?_
      refine CM_ret ?_
      refine QM_then_ret ?_
      exact QM_ret1 rfl rfl (fun W hm => ⟨ret_b (show impl_IsEngine_m x0 = false from by unfold impl_IsEngine_m; exact cond_t g43 (cond_f g45 (rfl))), hm.below⟩)
  ·
    refine ws (nf g43) ?_
    refine ws (nf g43) ?_
    refine ws (nf g43) ?_
    refine ws (nf g43) ?_
    refine ws (nf g43) ?_
    refine ws (nf g43) ?_
    refine ws (nf g43) ?_
    refine ws (nf g43) ?_
    refine ws (nf g43) ?_
    refine wv (fun W hm => rv_pickT rfl (nf g43) rfl) ?_
    refine wm ?_
    refine WM_skip (Wd_some rfl rfl rfl rfl) rfl (by decide) ?_
    refine WM_skip (Wd_some rfl rfl rfl rfl) rfl (by decide) ?_
    refine WM_skip (Wd_some rfl rfl rfl rfl) rfl (by decide) ?_
    refine WM_skip (Wd_some rfl rfl rfl rfl) rfl (by decide) ?_
    refine wv (fun W hm => rv_pickT rfl rfl rfl) ?_
    refine wm ?_
    refine WM_skip (Wd_some rfl rfl rfl rfl) rfl (by decide) ?_
    refine WM_skip (Wd_some rfl rfl rfl rfl) rfl (by decide) ?_
    refine WM_skip (Wd_some rfl rfl rfl rfl) rfl (by decide) ?_
    refine WM_skip (Wd_some rfl rfl rfl rfl) rfl (by decide) ?_
    refine wv (fun W hm => rv_pickT rfl rfl rfl) ?_
    refine nt' ?_
    refine CM_condT rfl rfl ?_
    refine sr ?_
    refine wa ?_
    refine nt' ?_
    refine CM_ret ?_
    refine QM_then_ret ?_
    exact QM_ret1 rfl rfl (fun W hm => ⟨ret_b (show impl_IsEngine_m x0 = false from by unfold impl_IsEngine_m; exact cond_f g43 (rfl)), hm.below⟩)

def impl_isAwake_m (x0 : DActive) : Bool :=
  cond (x0.Cap == 0) true (decide (x0.Sent < x0.Cap))
set_option maxRecDepth 100000 in
theorem cb147 : Cb Try.prog 147 := ⟨Try.f147, _, Try.func147, rfl, by decide⟩
set_option maxRecDepth 10000 in
set_option maxHeartbeats 4000000 in
theorem impl_isAwake_c (w : World) (z0 : List Value) (x0 : DActive) (r_0 : tyActive.rd w w.heap.size z0 x0) :
    Calls Try.prog 147 #[.agg z0.toArray] w fun e w' => e = .returned (.bool (impl_isAwake_m x0)) ∧ Below w.heap.size w w' := by
  obtain ⟨v1, v3, v5, v7, rfl, r2, r4, r6, r8⟩ := tyActive_rd r_0
  have r13 := r2
  obtain ⟨m9, A10, c11, rfl, q12⟩ := r2
  have r18 := r4
  obtain ⟨m14, A15, c16, rfl, q17⟩ := r4
  have r23 := r6
  obtain ⟨m19, A20, c21, rfl, q22⟩ := r6
  have r28 := r8
  obtain ⟨m24, A25, c26, rfl, q27⟩ := r8
  refine call_enterM (L := [(0, .agg #[.int .i64 x0.Query.Id, .int .i64 x0.Query.Tenant, .slice A10 x0.Query.Conds.length c11, .slice A15 x0.Query.Out.length c16, .int .i64 x0.Time, .slice A20 x0.Todo.length c21, .int .i64 x0.Age, .int .i64 x0.Sent, .int .i64 x0.Cap, .slice A25 x0.Rows.length c26])]) (N := 13) Try.func147 rfl rfl (Nat.le_of_ble_eq_true rfl) (argsL_cons rfl argsL_nil) ?_
  refine sr ?_
  refine WM_box rfl (Wd_none rfl) (by decide) (fun p29 => ?_)
  refine wa ?_
  refine nt' ?_
  refine sr ?_
  refine wv (fun W hm => rv_field Try.underlying127 rfl Try.type3 (by decide) rfl rfl) ?_
  refine wv (fun W hm => rv_load Try.underlying3 rfl rfl (hm.boxCell (n := 0) (o := 8) rfl rfl)) ?_
  refine wv (fun W hm => rv_eql rfl rfl) ?_
  refine wm ?_
  by_cases h30 : x0.Cap = 0
  · have g31 : (x0.Cap == 0) = true := beq_iff_eq.2 h30
    refine ws g31 ?_
    refine ws g31 ?_
    refine ws g31 ?_
    refine ws g31 ?_
    refine ws g31 ?_
    refine wv (fun W hm => rv_pickT rfl g31 rfl) ?_
    refine wa ?_
    refine nt' ?_
    refine CM_ret ?_
    exact QM_ret1 rfl rfl (fun W hm => ⟨ret_b (show impl_isAwake_m x0 = true from by unfold impl_isAwake_m; exact cond_t g31 (rfl)), hm.below⟩)
  · have g31 : (x0.Cap == 0) = false := beq_eq_false_iff_ne.2 h30
    refine wg (fun W hm => rv_field Try.underlying127 rfl Try.type3 (by decide) rfl rfl) g31 ?_
    refine wg (fun W hm => rv_load Try.underlying3 rfl rfl (hm.boxCell (n := 0) (o := 8) rfl rfl)) g31 ?_
    refine wg (fun W hm => rv_field Try.underlying127 rfl Try.type3 (by decide) rfl rfl) g31 ?_
    refine wg (fun W hm => rv_load Try.underlying3 rfl rfl (hm.boxCell (n := 0) (o := 7) rfl rfl)) g31 ?_
    refine wg (fun W hm => rv_gtr rfl rfl) g31 ?_
    refine wv (fun W hm => rv_pickF rfl g31 rfl) ?_
    refine wa ?_
    refine nt' ?_
    refine CM_ret ?_
    exact QM_ret1 rfl rfl (fun W hm => ⟨ret_b (show impl_isAwake_m x0 = (decide (x0.Sent < x0.Cap)) from by unfold impl_isAwake_m; exact cond_f g31 (rfl)), hm.below⟩)

def impl_IsAwake_m (x0 : DEngine) (x1 : Int) : Bool :=
  cond (impl_IsEngine_m x0) (cond (impl_within_m x1 0 (IntKind.i64.wrap (((x0.Active.length : Nat) : Int) - 1))) (impl_isAwake_m (gt x0.Active (x1.toNat))) false) false
set_option maxRecDepth 100000 in
theorem cb60 : Cb Try.prog 60 := ⟨Try.f60, _, Try.func60, rfl, by decide⟩
set_option maxRecDepth 10000 in
set_option maxHeartbeats 4000000 in
theorem impl_IsAwake_c (w : World) (z0 : List Value) (x0 : DEngine) (x1 : Int) (r_0 : tyEngine.rd w w.heap.size z0 x0) (s_0 : smEngine 68719476736 x0) :
    Calls Try.prog 60 #[.agg z0.toArray, .int .i64 x1] w fun e w' => e = .returned (.bool (impl_IsAwake_m x0 x1)) ∧ Below w.heap.size w w' := by
  obtain ⟨v1, v3, v5, v7, v9, rfl, r2, r4, r6, r8, r10⟩ := tyEngine_rd r_0
  have r15 := r2
  obtain ⟨m11, A12, c13, rfl, q14⟩ := r2
  have r20 := r4
  obtain ⟨m16, A17, c18, rfl, q19⟩ := r4
  have r25 := r6
  obtain ⟨m21, A22, c23, rfl, q24⟩ := r6
  have r30 := r8
  obtain ⟨m26, A27, c28, rfl, q29⟩ := r8
  have r35 := r10
  obtain ⟨m31, A32, c33, rfl, q34⟩ := r10
  have l36 : x0.Store.Segments.length ≤ 68719476736 := s_0.1.1
  have l37 : x0.Order.length ≤ 68719476736 := s_0.2.1
  have l38 : x0.Active.length ≤ 68719476736 := s_0.2.2.1.1
  have l39 : x0.Done.length ≤ 68719476736 := s_0.2.2.2.1.1
  have l40 : x0.Ledger.length ≤ 68719476736 := s_0.2.2.2.2.1
  refine call_enterM (L := [(0, .agg #[.slice A12 x0.Store.Segments.length c13, .int .i64 x0.Store.Now, .int .i64 x0.Cursor, .slice A17 x0.Order.length c18, .slice A22 x0.Active.length c23, .slice A27 x0.Done.length c28, .slice A32 x0.Ledger.length c33, .int .i64 x0.Steps]), (1, .int .i64 x1)]) (N := 23) Try.func60 rfl rfl (Nat.le_of_ble_eq_true rfl) (argsL_cons rfl (argsL_cons rfl argsL_nil)) ?_
  refine sr ?_
  refine WM_box rfl (Wd_none rfl) (by decide) (fun p41 => ?_)
  refine wa ?_
  refine nt' ?_
  refine sr ?_
  refine wv (fun W hm => rv_loadN (cs := [.slice A12 x0.Store.Segments.length c13, .int .i64 x0.Store.Now, .int .i64 x0.Cursor, .slice A17 x0.Order.length c18, .slice A22 x0.Active.length c23, .slice A27 x0.Done.length c28, .slice A32 x0.Ledger.length c33, .int .i64 x0.Steps]) Try.underlying77 Try.type77 rfl rfl (hm.boxCells (n := 0) rfl)) ?_
  refine WM_callV (cl_fn cb58 rfl) (fun W hm => impl_IsEngine_c W _ x0 (tyEngine_mk (x := x0) (hm.rdS0 r15) (hm.rdS0 r20) (hm.rdS0 r25) (hm.rdS0 r30) (hm.rdS0 r35)) s_0) (Wd_none rfl) (by decide) ?_
  refine wm ?_
  rcases Bool.eq_false_or_eq_true (impl_IsEngine_m x0) with g43 | g43
  ·
    refine wg (fun W hm => rv_move rfl) g43 ?_
    refine wg (fun W hm => rv_field Try.underlying77 rfl Try.type73 (by decide) rfl rfl) g43 ?_
    refine wg (fun W hm => rv_load Try.underlying73 rfl rfl (hm.boxCell (n := 0) (o := 4) rfl rfl)) g43 ?_
    refine wg (fun W hm => rv_len Try.underlying73 rfl) g43 ?_
    refine wg (fun W hm => rv_sub rfl rfl) g43 ?_
    refine WM_callV (cl_fn cb82 rfl) (fun W hm => impl_within_c W x1 0 (IntKind.i64.wrap (((x0.Active.length : Nat) : Int) - 1))) (Wd_some rfl rfl rfl (bw g43 rfl)) (by decide) ?_
    refine wv (fun W hm => rv_pickT rfl g43 rfl) ?_
    refine wm ?_
    rcases Bool.eq_false_or_eq_true (impl_within_m x1 0 (IntKind.i64.wrap (((x0.Active.length : Nat) : Int) - 1))) with g45 | g45
    ·
      have hw := impl_within_fact g45
      rw [wrap_pred (by omega)] at hw
      refine wg (fun W hm => rv_field Try.underlying77 rfl Try.type73 (by decide) rfl rfl) g45 ?_
      refine wg (fun W hm => rv_load Try.underlying73 rfl rfl (hm.boxCell (n := 0) (o := 4) rfl rfl)) g45 ?_
      refine wg (fun W hm => rv_move rfl) g45 ?_
      obtain ⟨a46, rfl, hb47, he48⟩ := q24 (by omega)
      refine wg (fun W hm => rv_indexI (sz := 10) (k := x1) Try.underlying73 Try.type127 rfl rfl rfl (by omega) (by omega)) g45 ?_
      obtain ⟨_, e58, hc49⟩ := he48 (x1.toNat) _ (gt_some (show (x1.toNat) < x0.Active.length from by omega))
      obtain ⟨v50, v52, v54, v56, rfl, r51, r53, r55, r57⟩ := tyActive_rd e58
      have l59 : ((gt x0.Active (x1.toNat)).Query.Conds).length ≤ 68719476736 := (s_0.2.2.1.2 _ (gt_mem (show (x1.toNat) < x0.Active.length from by omega))).1.1
      have l60 : ((gt x0.Active (x1.toNat)).Query.Out).length ≤ 68719476736 := (s_0.2.2.1.2 _ (gt_mem (show (x1.toNat) < x0.Active.length from by omega))).1.2
      have l61 : ((gt x0.Active (x1.toNat)).Todo).length ≤ 68719476736 := (s_0.2.2.1.2 _ (gt_mem (show (x1.toNat) < x0.Active.length from by omega))).2.1
      have l62 : ((gt x0.Active (x1.toNat)).Rows).length ≤ 68719476736 := (s_0.2.2.1.2 _ (gt_mem (show (x1.toNat) < x0.Active.length from by omega))).2.2.1
      have r67 := r51
      obtain ⟨m63, A64, c65, rfl, q66⟩ := r51
      have r72 := r53
      obtain ⟨m68, A69, c70, rfl, q71⟩ := r53
      have r77 := r55
      obtain ⟨m73, A74, c75, rfl, q76⟩ := r55
      have r82 := r57
      obtain ⟨m78, A79, c80, rfl, q81⟩ := r57
      refine wg (fun W hm => rv_loadN (cs := [.int .i64 ((gt x0.Active (x1.toNat)).Query.Id), .int .i64 ((gt x0.Active (x1.toNat)).Query.Tenant), .slice A64 ((gt x0.Active (x1.toNat)).Query.Conds).length c65, .slice A69 ((gt x0.Active (x1.toNat)).Query.Out).length c70, .int .i64 ((gt x0.Active (x1.toNat)).Time), .slice A74 ((gt x0.Active (x1.toNat)).Todo).length c75, .int .i64 ((gt x0.Active (x1.toNat)).Age), .int .i64 ((gt x0.Active (x1.toNat)).Sent), .int .i64 ((gt x0.Active (x1.toNat)).Cap), .slice A79 ((gt x0.Active (x1.toNat)).Rows).length c80]) Try.underlying127 Try.type127 rfl rfl (hm.elCells (show (a46.add ((x1.toNat) * 10)).block < w.heap.size from by rw [add_block]; exact hb47.1) hc49)) g45 ?_
      refine WM_callV (cl_fn cb147 rfl) (fun W hm => impl_isAwake_c W _ (gt x0.Active (x1.toNat)) (tyActive_mk (x := (gt x0.Active (x1.toNat))) (hm.rdS0 r67) (hm.rdS0 r72) (hm.rdS0 r77) (hm.rdS0 r82))) (Wd_some rfl rfl rfl (bw g45 rfl)) (by decide) ?_
      refine wv (fun W hm => rv_pickT rfl g45 rfl) ?_
      refine wa ?_
      refine nt' ?_
      refine CM_ret ?_
      exact QM_ret1 rfl rfl (fun W hm => ⟨ret_b (show impl_IsAwake_m x0 x1 = (impl_isAwake_m (gt x0.Active (x1.toNat))) from by unfold impl_IsAwake_m; exact cond_t g43 (cond_t g45 (rfl))), hm.below⟩)
    ·
      refine ws g45 ?_
      refine ws g45 ?_
      refine ws g45 ?_
      refine ws g45 ?_
      refine ws g45 ?_
      refine ws g45 ?_
      refine wv (fun W hm => rv_pickF rfl g45 rfl) ?_
      refine wa ?_
      refine nt' ?_
      refine CM_ret ?_
      exact QM_ret1 rfl rfl (fun W hm => ⟨ret_b (show impl_IsAwake_m x0 x1 = false from by unfold impl_IsAwake_m; exact cond_t g43 (cond_f g45 (rfl))), hm.below⟩)
  ·
    refine ws g43 ?_
    refine ws g43 ?_
    refine ws g43 ?_
    refine ws g43 ?_
    refine ws g43 ?_
    refine ws g43 ?_
    refine wv (fun W hm => rv_pickF rfl g43 rfl) ?_
    refine wm ?_
    refine WM_skip (Wd_some rfl rfl rfl rfl) rfl (by decide) ?_
    refine WM_skip (Wd_some rfl rfl rfl rfl) rfl (by decide) ?_
    refine WM_skip (Wd_some rfl rfl rfl rfl) rfl (by decide) ?_
    refine WM_skip (Wd_some rfl rfl rfl rfl) rfl (by decide) ?_
    refine WM_skip (Wd_some rfl rfl rfl rfl) rfl (by decide) ?_
    refine WM_skip (Wd_some rfl rfl rfl rfl) rfl (by decide) ?_
    refine wv (fun W hm => rv_pickF rfl rfl rfl) ?_
    refine wa ?_
    refine nt' ?_
    refine CM_ret ?_
    exact QM_ret1 rfl rfl (fun W hm => ⟨ret_b (show impl_IsAwake_m x0 x1 = false from by unfold impl_IsAwake_m; exact cond_f g43 (rfl)), hm.below⟩)

def laws_eqIntS_b1 (x0 : (List Int)) (x1 : (List Int)) (k13 : Nat) : Bool ⊕ (Unit) :=
  cond ((gt x0 k13) != (gt x1 k13)) (Sum.inl false) (Sum.inr ())
def laws_eqIntS_m (x0 : (List Int)) (x1 : (List Int)) : Bool :=
  cond (((x0.length : Nat) : Int) != ((x1.length : Nat) : Int)) false (Sum.elim id (fun (s : Unit) => true) (rng (R := Bool) (fun k (_ : Unit) => laws_eqIntS_b1 x0 x1 k) (x0.length - 0) 0 ()))
set_option maxRecDepth 100000 in
theorem cb67 : Cb Try.prog 67 := ⟨Try.f67, _, Try.func67, rfl, by decide⟩
set_option maxRecDepth 10000 in
set_option maxHeartbeats 4000000 in
theorem laws_eqIntS_c (w : World) (z0 : Value) (x0 : (List Int)) (z1 : Value) (x1 : (List Int)) (r_0 : rdS tInt w w.heap.size z0 x0) (r_1 : rdS tInt w w.heap.size z1 x1) :
    Calls Try.prog 67 #[z0, z1] w fun e w' => e = .returned (.bool (laws_eqIntS_m x0 x1)) ∧ Below w.heap.size w w' := by
  have r5 := r_0
  obtain ⟨m1, A2, c3, rfl, q4⟩ := r_0
  have r10 := r_1
  obtain ⟨m6, A7, c8, rfl, q9⟩ := r_1
  refine call_enterM (L := [(0, .slice A2 x0.length c3), (1, .slice A7 x1.length c8)]) (N := 26) Try.func67 rfl rfl (Nat.le_of_ble_eq_true rfl) (argsL_cons rfl (argsL_cons rfl argsL_nil)) ?_
  refine sr ?_
  refine wa ?_
  refine nt' ?_
  refine CM_seq ?_
  refine sr ?_
  refine wm ?_
  refine wv (fun W hm => rv_len Try.underlying27 rfl) ?_
  refine wm ?_
  refine wv (fun W hm => rv_len Try.underlying27 rfl) ?_
  refine wv (fun W hm => rv_neq rfl rfl) ?_
  refine nt' ?_
  by_cases h11 : ((x0.length : Nat) : Int) = ((x1.length : Nat) : Int)
  · have g12 : (((x0.length : Nat) : Int) != ((x1.length : Nat) : Int)) = false := by rw [h11]; exact bne_self_eq_false _
    refine CM_condF rfl g12 ?_
    refine CM_skip ?_
    refine QM_then ?_
    refine CM_seq ?_
    refine sr ?_
    refine wa ?_
    refine nt' ?_
    refine CM_block ?_
    refine CM_loop (σ := Nat × (Unit) × (Unit)) (fun s => [(0, .slice A2 x0.length c3), (1, .slice A7 x1.length c8), (5, .int .i64 ((s.1 : Nat) : Int))]) (fun s => []) (fun s => s.1 ≤ x0.length ∧ rng (R := Bool) (fun k (_ : Unit) => laws_eqIntS_b1 x0 x1 k) (x0.length - s.1) s.1 s.2.1 = rng (R := Bool) (fun k (_ : Unit) => laws_eqIntS_b1 x0 x1 k) (x0.length - 0) 0 ()) (fun s => x0.length - s.1) (0, (), ()) (subL_cons rfl (subL_cons rfl (subL_cons rfl subL_nil))) (fun W hm => hm) ⟨(by omega), rfl⟩ ?_
    rintro ⟨k13, ⟨⟩, ⟨⟩⟩ H16
    obtain ⟨hk14, hF15⟩ : k13 ≤ x0.length ∧ rng (R := Bool) (fun k (_ : Unit) => laws_eqIntS_b1 x0 x1 k) (x0.length - k13) k13 () = rng (R := Bool) (fun k (_ : Unit) => laws_eqIntS_b1 x0 x1 k) (x0.length - 0) 0 () := H16
    show CM Try.prog 26 _ _ _ _ [(0, .slice A2 x0.length c3), (1, .slice A7 x1.length c8), (5, .int .i64 ((k13 : Nat) : Int))] []
    refine CM_seq ?_
    refine sr ?_
    refine wm ?_
    refine wm ?_
    refine wv (fun W hm => rv_len Try.underlying27 rfl) ?_
    refine wv (fun W hm => rv_lss rfl rfl) ?_
    refine nt' ?_
    by_cases hl17 : k13 < x0.length
    · have g18 : (decide (((k13 : Nat) : Int) < ((x0.length : Nat) : Int))) = true := decide_eq_true (by omega)
      refine CM_condT rfl g18 ?_
      refine CM_skip ?_
      refine QM_then ?_
      refine CM_seq ?_
      refine CM_block ?_
      refine CM_seq ?_
      refine CM_regionD (by kernel_rfl) (by kernel_rfl) ?_
      refine qm ?_
      refine qm ?_
      obtain ⟨a19, rfl, hb20, he21⟩ := q4 (by omega)
      refine qv (fun W hm => rv_index (sz := 1) (k := k13) Try.underlying27 Try.type3 rfl rfl rfl (by omega)) ?_
      refine qv (fun W hm => rv_load Try.underlying3 rfl rfl ((hm.cell0 (show (a19.add (k13 * 1)).block < w.heap.size from by rw [add_block]; exact hb20.1)).trans (rdS_int he21 k13 (by omega)))) ?_
      refine qm ?_
      refine qm ?_
      obtain ⟨a22, rfl, hb23, he24⟩ := q9 (by omega)
      refine qv (fun W hm => rv_index (sz := 1) (k := k13) Try.underlying27 Try.type3 rfl rfl rfl (by omega)) ?_
      refine qv (fun W hm => rv_load Try.underlying3 rfl rfl ((hm.cell0 (show (a22.add (k13 * 1)).block < w.heap.size from by rw [add_block]; exact hb23.1)).trans (rdS_int he24 k13 (by omega)))) ?_
      refine qv (fun W hm => rv_neq rfl rfl) ?_
      refine nq' ?_
      by_cases h25 : (gt x0 k13) = (gt x1 k13)
      · have g26 : ((gt x0 k13) != (gt x1 k13)) = false := by rw [h25]; exact bne_self_eq_false _
        refine CM_condF rfl g26 ?_
        refine CM_skip ?_
        refine QM_block_normal ?_
        refine QM_then ?_
        refine CM_region ?_
        refine wm ?_
        refine wv (fun W hm => rv_addN (p := k13) (q := 1) rfl rfl (by omega)) ?_
        refine wa ?_
        refine WM_nil ?_
        have hn27 := rng_next (R := Bool) (body := (fun k (_ : Unit) => laws_eqIntS_b1 x0 x1 k)) (k := k13) (s := ()) (s' := ()) (show k13 < x0.length from by omega) (show laws_eqIntS_b1 x0 x1 k13 = Sum.inr () from by unfold laws_eqIntS_b1; exact cond_f g26 (rfl)) hF15
        exact QM_round (k13 + 1, (), ()) (subL_cons rfl (subL_cons rfl (subL_cons rfl subL_nil))) (fun W hm => hm) ⟨(by omega), hn27⟩ (show x0.length - (k13 + 1) < x0.length - k13 from by omega)
      · have g26 : ((gt x0 k13) != (gt x1 k13)) = true := bne_iff_ne.2 h25
        refine CM_condT rfl g26 ?_
        refine sr ?_
        refine wa ?_
        refine nt' ?_
        refine CM_ret ?_
        refine QM_block_ret ?_
        refine QM_then_ret ?_
        refine QM_then_ret ?_
        refine QM_block_ret ?_
        refine QM_then_ret ?_
        exact QM_ret1 rfl rfl (fun W hm => ⟨ret_b (show laws_eqIntS_m x0 x1 = false from by unfold laws_eqIntS_m; exact cond_f g12 (fin_inl (rng_ret (body := (fun k (_ : Unit) => laws_eqIntS_b1 x0 x1 k)) (k := k13) (s := ()) (show k13 < x0.length from by omega) (show laws_eqIntS_b1 x0 x1 k13 = Sum.inl false from by unfold laws_eqIntS_b1; exact cond_t g26 (rfl)) hF15) rfl)), hm.below⟩)
    · have g18 : (decide (((k13 : Nat) : Int) < ((x0.length : Nat) : Int))) = false := decide_eq_false (by omega)
      refine CM_condF rfl g18 ?_
      refine CM_exit ?_
      refine QM_then_exit ?_
      refine QM_then_exit ?_
      have hE28 : rng (R := Bool) (fun k (_ : Unit) => laws_eqIntS_b1 x0 x1 k) (x0.length - 0) 0 () = Sum.inr () := rng_end hl17 hF15
      refine QM_block_hit ?_
      refine QM_then ?_
      refine sr ?_
      refine wa ?_
      refine nt' ?_
      refine CM_ret ?_
      exact QM_ret1 rfl rfl (fun W hm => ⟨ret_b (show laws_eqIntS_m x0 x1 = true from by unfold laws_eqIntS_m; exact cond_f g12 (fin_inr hE28 (rfl))), hm.below⟩)
  · have g12 : (((x0.length : Nat) : Int) != ((x1.length : Nat) : Int)) = true := bne_iff_ne.2 h11
    refine CM_condT rfl g12 ?_
    refine sr ?_
    refine wa ?_
    refine nt' ?_
    refine CM_ret ?_
    refine QM_then_ret ?_
    exact QM_ret1 rfl rfl (fun W hm => ⟨ret_b (show laws_eqIntS_m x0 x1 = false from by unfold laws_eqIntS_m; exact cond_t g12 (rfl)), hm.below⟩)

def laws_eqVersion_m (x0 : DVersion) (x1 : DVersion) : Bool :=
  cond (x0.Id != x1.Id) false (cond (laws_eqIntS_m x0.Values x1.Values) (cond (x0.Born != x1.Born) false (cond (x0.Died != x1.Died) false true)) false)
set_option maxRecDepth 100000 in
theorem cb207 : Cb Try.prog 207 := ⟨Try.f207, _, Try.func207, rfl, by decide⟩
set_option maxRecDepth 10000 in
set_option maxHeartbeats 4000000 in
theorem laws_eqVersion_c (w : World) (z0 : List Value) (x0 : DVersion) (z1 : List Value) (x1 : DVersion) (r_0 : tyVersion.rd w w.heap.size z0 x0) (r_1 : tyVersion.rd w w.heap.size z1 x1) :
    Calls Try.prog 207 #[.agg z0.toArray, .agg z1.toArray] w fun e w' => e = .returned (.bool (laws_eqVersion_m x0 x1)) ∧ Below w.heap.size w w' := by
  obtain ⟨v1, rfl, r2⟩ := tyVersion_rd r_0
  have r7 := r2
  obtain ⟨m3, A4, c5, rfl, q6⟩ := r2
  obtain ⟨v8, rfl, r9⟩ := tyVersion_rd r_1
  have r14 := r9
  obtain ⟨m10, A11, c12, rfl, q13⟩ := r9
  refine call_enterM (L := [(0, .agg #[.int .i64 x0.Id, .slice A4 x0.Values.length c5, .int .i64 x0.Born, .int .i64 x0.Died]), (1, .agg #[.int .i64 x1.Id, .slice A11 x1.Values.length c12, .int .i64 x1.Born, .int .i64 x1.Died])]) (N := 26) Try.func207 rfl rfl (Nat.le_of_ble_eq_true rfl) (argsL_cons rfl (argsL_cons rfl argsL_nil)) ?_
  refine sr ?_
  refine WM_box rfl (Wd_none rfl) (by decide) (fun p15 => ?_)
  refine WM_box rfl (Wd_none rfl) (by decide) (fun p16 => ?_)
  refine wa ?_
  refine nt' ?_
  refine CM_seq ?_
  refine sr ?_
  refine wv (fun W hm => rv_field Try.underlying51 rfl Try.type3 (by decide) rfl rfl) ?_
  refine wv (fun W hm => rv_load Try.underlying3 rfl rfl (hm.boxCell (n := 1) (o := 0) rfl rfl)) ?_
  refine wv (fun W hm => rv_field Try.underlying51 rfl Try.type3 (by decide) rfl rfl) ?_
  refine wv (fun W hm => rv_load Try.underlying3 rfl rfl (hm.boxCell (n := 0) (o := 0) rfl rfl)) ?_
  refine wv (fun W hm => rv_neq rfl rfl) ?_
  refine nt' ?_
  by_cases h17 : x0.Id = x1.Id
  · have g18 : (x0.Id != x1.Id) = false := by rw [h17]; exact bne_self_eq_false _
    refine CM_condF rfl g18 ?_
    refine CM_skip ?_
    refine QM_then ?_
    refine CM_seq ?_
    refine sr ?_
    refine wv (fun W hm => rv_field Try.underlying51 rfl Try.type27 (by decide) rfl rfl) ?_
    refine wv (fun W hm => rv_load Try.underlying27 rfl rfl (hm.boxCell (n := 1) (o := 1) rfl rfl)) ?_
    refine wv (fun W hm => rv_field Try.underlying51 rfl Try.type27 (by decide) rfl rfl) ?_
    refine wv (fun W hm => rv_load Try.underlying27 rfl rfl (hm.boxCell (n := 0) (o := 1) rfl rfl)) ?_
    refine WM_callV (cl_fn cb67 rfl) (fun W hm => laws_eqIntS_c W _ x0.Values _ x1.Values (hm.rdS0 r7) (hm.rdS0 r14)) (Wd_none rfl) (by decide) ?_
    refine wv (fun W hm => rv_not rfl) ?_
    refine nt' ?_
    rcases Bool.eq_false_or_eq_true (laws_eqIntS_m x0.Values x1.Values) with g20 | g20
    ·
      refine CM_condF rfl (nt g20) ?_
      refine CM_skip ?_
      refine QM_then ?_
      refine CM_seq ?_
      refine sr ?_
      refine wv (fun W hm => rv_field Try.underlying51 rfl Try.type3 (by decide) rfl rfl) ?_
      refine wv (fun W hm => rv_load Try.underlying3 rfl rfl (hm.boxCell (n := 1) (o := 2) rfl rfl)) ?_
      refine wv (fun W hm => rv_field Try.underlying51 rfl Try.type3 (by decide) rfl rfl) ?_
      refine wv (fun W hm => rv_load Try.underlying3 rfl rfl (hm.boxCell (n := 0) (o := 2) rfl rfl)) ?_
      refine wv (fun W hm => rv_neq rfl rfl) ?_
      refine nt' ?_
      by_cases h21 : x0.Born = x1.Born
      · have g22 : (x0.Born != x1.Born) = false := by rw [h21]; exact bne_self_eq_false _
        refine CM_condF rfl g22 ?_
        refine CM_skip ?_
        refine QM_then ?_
        refine CM_seq ?_
        refine sr ?_
        refine wv (fun W hm => rv_field Try.underlying51 rfl Try.type3 (by decide) rfl rfl) ?_
        refine wv (fun W hm => rv_load Try.underlying3 rfl rfl (hm.boxCell (n := 1) (o := 3) rfl rfl)) ?_
        refine wv (fun W hm => rv_field Try.underlying51 rfl Try.type3 (by decide) rfl rfl) ?_
        refine wv (fun W hm => rv_load Try.underlying3 rfl rfl (hm.boxCell (n := 0) (o := 3) rfl rfl)) ?_
        refine wv (fun W hm => rv_neq rfl rfl) ?_
        refine nt' ?_
        by_cases h23 : x0.Died = x1.Died
        · have g24 : (x0.Died != x1.Died) = false := by rw [h23]; exact bne_self_eq_false _
          refine CM_condF rfl g24 ?_
          refine CM_skip ?_
          refine QM_then ?_
          refine sr ?_
          refine wa ?_
          refine nt' ?_
          refine CM_ret ?_
          exact QM_ret1 rfl rfl (fun W hm => ⟨ret_b (show laws_eqVersion_m x0 x1 = true from by unfold laws_eqVersion_m; exact cond_f g18 (cond_t g20 (cond_f g22 (cond_f g24 (rfl))))), hm.below⟩)
        · have g24 : (x0.Died != x1.Died) = true := bne_iff_ne.2 h23
          refine CM_condT rfl g24 ?_
          refine sr ?_
          refine wa ?_
          refine nt' ?_
          refine CM_ret ?_
          refine QM_then_ret ?_
          exact QM_ret1 rfl rfl (fun W hm => ⟨ret_b (show laws_eqVersion_m x0 x1 = false from by unfold laws_eqVersion_m; exact cond_f g18 (cond_t g20 (cond_f g22 (cond_t g24 (rfl))))), hm.below⟩)
      · have g22 : (x0.Born != x1.Born) = true := bne_iff_ne.2 h21
        refine CM_condT rfl g22 ?_
        refine sr ?_
        refine wa ?_
        refine nt' ?_
        refine CM_ret ?_
        refine QM_then_ret ?_
        exact QM_ret1 rfl rfl (fun W hm => ⟨ret_b (show laws_eqVersion_m x0 x1 = false from by unfold laws_eqVersion_m; exact cond_f g18 (cond_t g20 (cond_t g22 (rfl)))), hm.below⟩)
    ·
      refine CM_condT rfl (nf g20) ?_
      refine sr ?_
      refine wa ?_
      refine nt' ?_
      refine CM_ret ?_
      refine QM_then_ret ?_
      exact QM_ret1 rfl rfl (fun W hm => ⟨ret_b (show laws_eqVersion_m x0 x1 = false from by unfold laws_eqVersion_m; exact cond_f g18 (cond_f g20 (rfl))), hm.below⟩)
  · have g18 : (x0.Id != x1.Id) = true := bne_iff_ne.2 h17
    refine CM_condT rfl g18 ?_
    refine sr ?_
    refine wa ?_
    refine nt' ?_
    refine CM_ret ?_
    refine QM_then_ret ?_
    exact QM_ret1 rfl rfl (fun W hm => ⟨ret_b (show laws_eqVersion_m x0 x1 = false from by unfold laws_eqVersion_m; exact cond_t g18 (rfl)), hm.below⟩)

def laws_eqVersionS_b1 (x0 : (List DVersion)) (x1 : (List DVersion)) (k13 : Nat) : Bool ⊕ (Unit) :=
  cond (laws_eqVersion_m (gt x0 k13) (gt x1 k13)) (Sum.inr ()) (Sum.inl false)
def laws_eqVersionS_m (x0 : (List DVersion)) (x1 : (List DVersion)) : Bool :=
  cond (((x0.length : Nat) : Int) != ((x1.length : Nat) : Int)) false (Sum.elim id (fun (s : Unit) => true) (rng (R := Bool) (fun k (_ : Unit) => laws_eqVersionS_b1 x0 x1 k) (x0.length - 0) 0 ()))
set_option maxRecDepth 100000 in
theorem cb180 : Cb Try.prog 180 := ⟨Try.f180, _, Try.func180, rfl, by decide⟩
set_option maxRecDepth 10000 in
set_option maxHeartbeats 4000000 in
theorem laws_eqVersionS_c (w : World) (z0 : Value) (x0 : (List DVersion)) (z1 : Value) (x1 : (List DVersion)) (r_0 : rdS tyVersion w w.heap.size z0 x0) (r_1 : rdS tyVersion w w.heap.size z1 x1) :
    Calls Try.prog 180 #[z0, z1] w fun e w' => e = .returned (.bool (laws_eqVersionS_m x0 x1)) ∧ Below w.heap.size w w' := by
  have r5 := r_0
  obtain ⟨m1, A2, c3, rfl, q4⟩ := r_0
  have r10 := r_1
  obtain ⟨m6, A7, c8, rfl, q9⟩ := r_1
  refine call_enterM (L := [(0, .slice A2 x0.length c3), (1, .slice A7 x1.length c8)]) (N := 27) Try.func180 rfl rfl (Nat.le_of_ble_eq_true rfl) (argsL_cons rfl (argsL_cons rfl argsL_nil)) ?_
  refine sr ?_
  refine wa ?_
  refine nt' ?_
  refine CM_seq ?_
  refine sr ?_
  refine wm ?_
  refine wv (fun W hm => rv_len Try.underlying102 rfl) ?_
  refine wm ?_
  refine wv (fun W hm => rv_len Try.underlying102 rfl) ?_
  refine wv (fun W hm => rv_neq rfl rfl) ?_
  refine nt' ?_
  by_cases h11 : ((x0.length : Nat) : Int) = ((x1.length : Nat) : Int)
  · have g12 : (((x0.length : Nat) : Int) != ((x1.length : Nat) : Int)) = false := by rw [h11]; exact bne_self_eq_false _
    refine CM_condF rfl g12 ?_
    refine CM_skip ?_
    refine QM_then ?_
    refine CM_seq ?_
    refine sr ?_
    refine wa ?_
    refine nt' ?_
    refine CM_block ?_
    refine CM_loop (σ := Nat × (Unit) × (Unit)) (fun s => [(0, .slice A2 x0.length c3), (1, .slice A7 x1.length c8), (5, .int .i64 ((s.1 : Nat) : Int))]) (fun s => []) (fun s => s.1 ≤ x0.length ∧ rng (R := Bool) (fun k (_ : Unit) => laws_eqVersionS_b1 x0 x1 k) (x0.length - s.1) s.1 s.2.1 = rng (R := Bool) (fun k (_ : Unit) => laws_eqVersionS_b1 x0 x1 k) (x0.length - 0) 0 ()) (fun s => x0.length - s.1) (0, (), ()) (subL_cons rfl (subL_cons rfl (subL_cons rfl subL_nil))) (fun W hm => hm) ⟨(by omega), rfl⟩ ?_
    rintro ⟨k13, ⟨⟩, ⟨⟩⟩ H16
    obtain ⟨hk14, hF15⟩ : k13 ≤ x0.length ∧ rng (R := Bool) (fun k (_ : Unit) => laws_eqVersionS_b1 x0 x1 k) (x0.length - k13) k13 () = rng (R := Bool) (fun k (_ : Unit) => laws_eqVersionS_b1 x0 x1 k) (x0.length - 0) 0 () := H16
    show CM Try.prog 27 _ _ _ _ [(0, .slice A2 x0.length c3), (1, .slice A7 x1.length c8), (5, .int .i64 ((k13 : Nat) : Int))] []
    refine CM_seq ?_
    refine sr ?_
    refine wm ?_
    refine wm ?_
    refine wv (fun W hm => rv_len Try.underlying102 rfl) ?_
    refine wv (fun W hm => rv_lss rfl rfl) ?_
    refine nt' ?_
    by_cases hl17 : k13 < x0.length
    · have g18 : (decide (((k13 : Nat) : Int) < ((x0.length : Nat) : Int))) = true := decide_eq_true (by omega)
      refine CM_condT rfl g18 ?_
      refine CM_skip ?_
      refine QM_then ?_
      refine CM_seq ?_
      refine CM_block ?_
      refine CM_seq ?_
      refine CM_regionD (by kernel_rfl) (by kernel_rfl) ?_
      refine qm ?_
      refine qm ?_
      obtain ⟨a19, rfl, hb20, he21⟩ := q4 (by omega)
      refine qv (fun W hm => rv_index (sz := 4) (k := k13) Try.underlying102 Try.type51 rfl rfl rfl (by omega)) ?_
      obtain ⟨_, e25, hc22⟩ := he21 k13 _ (gt_some (show k13 < x0.length from by omega))
      obtain ⟨v23, rfl, r24⟩ := tyVersion_rd e25
      have r30 := r24
      obtain ⟨m26, A27, c28, rfl, q29⟩ := r24
      refine qv (fun W hm => rv_loadN (cs := [.int .i64 ((gt x0 k13).Id), .slice A27 ((gt x0 k13).Values).length c28, .int .i64 ((gt x0 k13).Born), .int .i64 ((gt x0 k13).Died)]) Try.underlying51 Try.type51 rfl rfl (hm.elCells (show (a19.add (k13 * 4)).block < w.heap.size from by rw [add_block]; exact hb20.1) hc22)) ?_
      refine qm ?_
      refine qm ?_
      obtain ⟨a31, rfl, hb32, he33⟩ := q9 (by omega)
      refine qv (fun W hm => rv_index (sz := 4) (k := k13) Try.underlying102 Try.type51 rfl rfl rfl (by omega)) ?_
      obtain ⟨_, e37, hc34⟩ := he33 k13 _ (gt_some (show k13 < x1.length from by omega))
      obtain ⟨v35, rfl, r36⟩ := tyVersion_rd e37
      have r42 := r36
      obtain ⟨m38, A39, c40, rfl, q41⟩ := r36
      refine qv (fun W hm => rv_loadN (cs := [.int .i64 ((gt x1 k13).Id), .slice A39 ((gt x1 k13).Values).length c40, .int .i64 ((gt x1 k13).Born), .int .i64 ((gt x1 k13).Died)]) Try.underlying51 Try.type51 rfl rfl (hm.elCells (show (a31.add (k13 * 4)).block < w.heap.size from by rw [add_block]; exact hb32.1) hc34)) ?_
      refine QR_callV (cl_fn cb207 rfl) (fun W hm => laws_eqVersion_c W _ (gt x0 k13) _ (gt x1 k13) (tyVersion_mk (x := (gt x0 k13)) (hm.rdS0 r30)) (tyVersion_mk (x := (gt x1 k13)) (hm.rdS0 r42))) (Wd_none rfl) (by decide) ?_
      refine qv (fun W hm => rv_not rfl) ?_
      refine nq' ?_
      rcases Bool.eq_false_or_eq_true (laws_eqVersion_m (gt x0 k13) (gt x1 k13)) with g44 | g44
      ·
        refine CM_condF rfl (nt g44) ?_
        refine CM_skip ?_
        refine QM_block_normal ?_
        refine QM_then ?_
        refine CM_region ?_
        refine wm ?_
        refine wv (fun W hm => rv_addN (p := k13) (q := 1) rfl rfl (by omega)) ?_
        refine wa ?_
        refine WM_nil ?_
        have hn45 := rng_next (R := Bool) (body := (fun k (_ : Unit) => laws_eqVersionS_b1 x0 x1 k)) (k := k13) (s := ()) (s' := ()) (show k13 < x0.length from by omega) (show laws_eqVersionS_b1 x0 x1 k13 = Sum.inr () from by unfold laws_eqVersionS_b1; exact cond_t g44 (rfl)) hF15
        exact QM_round (k13 + 1, (), ()) (subL_cons rfl (subL_cons rfl (subL_cons rfl subL_nil))) (fun W hm => hm) ⟨(by omega), hn45⟩ (show x0.length - (k13 + 1) < x0.length - k13 from by omega)
      ·
        refine CM_condT rfl (nf g44) ?_
        refine sr ?_
        refine wa ?_
        refine nt' ?_
        refine CM_ret ?_
        refine QM_block_ret ?_
        refine QM_then_ret ?_
        refine QM_then_ret ?_
        refine QM_block_ret ?_
        refine QM_then_ret ?_
        exact QM_ret1 rfl rfl (fun W hm => ⟨ret_b (show laws_eqVersionS_m x0 x1 = false from by unfold laws_eqVersionS_m; exact cond_f g12 (fin_inl (rng_ret (body := (fun k (_ : Unit) => laws_eqVersionS_b1 x0 x1 k)) (k := k13) (s := ()) (show k13 < x0.length from by omega) (show laws_eqVersionS_b1 x0 x1 k13 = Sum.inl false from by unfold laws_eqVersionS_b1; exact cond_f g44 (rfl)) hF15) rfl)), hm.below⟩)
    · have g18 : (decide (((k13 : Nat) : Int) < ((x0.length : Nat) : Int))) = false := decide_eq_false (by omega)
      refine CM_condF rfl g18 ?_
      refine CM_exit ?_
      refine QM_then_exit ?_
      refine QM_then_exit ?_
      have hE46 : rng (R := Bool) (fun k (_ : Unit) => laws_eqVersionS_b1 x0 x1 k) (x0.length - 0) 0 () = Sum.inr () := rng_end hl17 hF15
      refine QM_block_hit ?_
      refine QM_then ?_
      refine sr ?_
      refine wa ?_
      refine nt' ?_
      refine CM_ret ?_
      exact QM_ret1 rfl rfl (fun W hm => ⟨ret_b (show laws_eqVersionS_m x0 x1 = true from by unfold laws_eqVersionS_m; exact cond_f g12 (fin_inr hE46 (rfl))), hm.below⟩)
  · have g12 : (((x0.length : Nat) : Int) != ((x1.length : Nat) : Int)) = true := bne_iff_ne.2 h11
    refine CM_condT rfl g12 ?_
    refine sr ?_
    refine wa ?_
    refine nt' ?_
    refine CM_ret ?_
    refine QM_then_ret ?_
    exact QM_ret1 rfl rfl (fun W hm => ⟨ret_b (show laws_eqVersionS_m x0 x1 = false from by unfold laws_eqVersionS_m; exact cond_t g12 (rfl)), hm.below⟩)

def laws_eqVersionSS_b1 (x0 : (List (List DVersion))) (x1 : (List (List DVersion))) (k13 : Nat) : Bool ⊕ (Unit) :=
  cond (laws_eqVersionS_m (gt x0 k13) (gt x1 k13)) (Sum.inr ()) (Sum.inl false)
def laws_eqVersionSS_m (x0 : (List (List DVersion))) (x1 : (List (List DVersion))) : Bool :=
  cond (((x0.length : Nat) : Int) != ((x1.length : Nat) : Int)) false (Sum.elim id (fun (s : Unit) => true) (rng (R := Bool) (fun k (_ : Unit) => laws_eqVersionSS_b1 x0 x1 k) (x0.length - 0) 0 ()))
set_option maxRecDepth 100000 in
theorem cb128 : Cb Try.prog 128 := ⟨Try.f128, _, Try.func128, rfl, by decide⟩
set_option maxRecDepth 10000 in
set_option maxHeartbeats 4000000 in
theorem laws_eqVersionSS_c (w : World) (z0 : Value) (x0 : (List (List DVersion))) (z1 : Value) (x1 : (List (List DVersion))) (r_0 : rdS (tSl tyVersion 51) w w.heap.size z0 x0) (r_1 : rdS (tSl tyVersion 51) w w.heap.size z1 x1) :
    Calls Try.prog 128 #[z0, z1] w fun e w' => e = .returned (.bool (laws_eqVersionSS_m x0 x1)) ∧ Below w.heap.size w w' := by
  have r5 := r_0
  obtain ⟨m1, A2, c3, rfl, q4⟩ := r_0
  have r10 := r_1
  obtain ⟨m6, A7, c8, rfl, q9⟩ := r_1
  refine call_enterM (L := [(0, .slice A2 x0.length c3), (1, .slice A7 x1.length c8)]) (N := 27) Try.func128 rfl rfl (Nat.le_of_ble_eq_true rfl) (argsL_cons rfl (argsL_cons rfl argsL_nil)) ?_
  refine sr ?_
  refine wa ?_
  refine nt' ?_
  refine CM_seq ?_
  refine sr ?_
  refine wm ?_
  refine wv (fun W hm => rv_len Try.underlying24 rfl) ?_
  refine wm ?_
  refine wv (fun W hm => rv_len Try.underlying24 rfl) ?_
  refine wv (fun W hm => rv_neq rfl rfl) ?_
  refine nt' ?_
  by_cases h11 : ((x0.length : Nat) : Int) = ((x1.length : Nat) : Int)
  · have g12 : (((x0.length : Nat) : Int) != ((x1.length : Nat) : Int)) = false := by rw [h11]; exact bne_self_eq_false _
    refine CM_condF rfl g12 ?_
    refine CM_skip ?_
    refine QM_then ?_
    refine CM_seq ?_
    refine sr ?_
    refine wa ?_
    refine nt' ?_
    refine CM_block ?_
    refine CM_loop (σ := Nat × (Unit) × (Unit)) (fun s => [(0, .slice A2 x0.length c3), (1, .slice A7 x1.length c8), (5, .int .i64 ((s.1 : Nat) : Int))]) (fun s => []) (fun s => s.1 ≤ x0.length ∧ rng (R := Bool) (fun k (_ : Unit) => laws_eqVersionSS_b1 x0 x1 k) (x0.length - s.1) s.1 s.2.1 = rng (R := Bool) (fun k (_ : Unit) => laws_eqVersionSS_b1 x0 x1 k) (x0.length - 0) 0 ()) (fun s => x0.length - s.1) (0, (), ()) (subL_cons rfl (subL_cons rfl (subL_cons rfl subL_nil))) (fun W hm => hm) ⟨(by omega), rfl⟩ ?_
    rintro ⟨k13, ⟨⟩, ⟨⟩⟩ H16
    obtain ⟨hk14, hF15⟩ : k13 ≤ x0.length ∧ rng (R := Bool) (fun k (_ : Unit) => laws_eqVersionSS_b1 x0 x1 k) (x0.length - k13) k13 () = rng (R := Bool) (fun k (_ : Unit) => laws_eqVersionSS_b1 x0 x1 k) (x0.length - 0) 0 () := H16
    show CM Try.prog 27 _ _ _ _ [(0, .slice A2 x0.length c3), (1, .slice A7 x1.length c8), (5, .int .i64 ((k13 : Nat) : Int))] []
    refine CM_seq ?_
    refine sr ?_
    refine wm ?_
    refine wm ?_
    refine wv (fun W hm => rv_len Try.underlying24 rfl) ?_
    refine wv (fun W hm => rv_lss rfl rfl) ?_
    refine nt' ?_
    by_cases hl17 : k13 < x0.length
    · have g18 : (decide (((k13 : Nat) : Int) < ((x0.length : Nat) : Int))) = true := decide_eq_true (by omega)
      refine CM_condT rfl g18 ?_
      refine CM_skip ?_
      refine QM_then ?_
      refine CM_seq ?_
      refine CM_block ?_
      refine CM_seq ?_
      refine CM_regionD (by kernel_rfl) (by kernel_rfl) ?_
      refine qm ?_
      refine qm ?_
      obtain ⟨a19, rfl, hb20, he21⟩ := q4 (by omega)
      refine qv (fun W hm => rv_index (sz := 1) (k := k13) Try.underlying24 Try.type102 rfl rfl rfl (by omega)) ?_
      obtain ⟨_, e23, hc22⟩ := he21 k13 _ (gt_some (show k13 < x0.length from by omega))
      obtain ⟨v24, rfl, r25⟩ := e23
      have r30 := r25
      obtain ⟨m26, A27, c28, rfl, q29⟩ := r25
      refine qv (fun W hm => rv_load Try.underlying102 rfl rfl ((hm.cell0 (show (a19.add (k13 * 1)).block < w.heap.size from by rw [add_block]; exact hb20.1)).trans (hc22 0 _ rfl))) ?_
      refine qm ?_
      refine qm ?_
      obtain ⟨a31, rfl, hb32, he33⟩ := q9 (by omega)
      refine qv (fun W hm => rv_index (sz := 1) (k := k13) Try.underlying24 Try.type102 rfl rfl rfl (by omega)) ?_
      obtain ⟨_, e35, hc34⟩ := he33 k13 _ (gt_some (show k13 < x1.length from by omega))
      obtain ⟨v36, rfl, r37⟩ := e35
      have r42 := r37
      obtain ⟨m38, A39, c40, rfl, q41⟩ := r37
      refine qv (fun W hm => rv_load Try.underlying102 rfl rfl ((hm.cell0 (show (a31.add (k13 * 1)).block < w.heap.size from by rw [add_block]; exact hb32.1)).trans (hc34 0 _ rfl))) ?_
      refine QR_callV (cl_fn cb180 rfl) (fun W hm => laws_eqVersionS_c W _ (gt x0 k13) _ (gt x1 k13) (hm.rdS0 r30) (hm.rdS0 r42)) (Wd_none rfl) (by decide) ?_
      refine qv (fun W hm => rv_not rfl) ?_
      refine nq' ?_
      rcases Bool.eq_false_or_eq_true (laws_eqVersionS_m (gt x0 k13) (gt x1 k13)) with g44 | g44
      ·
        refine CM_condF rfl (nt g44) ?_
        refine CM_skip ?_
        refine QM_block_normal ?_
        refine QM_then ?_
        refine CM_region ?_
        refine wm ?_
        refine wv (fun W hm => rv_addN (p := k13) (q := 1) rfl rfl (by omega)) ?_
        refine wa ?_
        refine WM_nil ?_
        have hn45 := rng_next (R := Bool) (body := (fun k (_ : Unit) => laws_eqVersionSS_b1 x0 x1 k)) (k := k13) (s := ()) (s' := ()) (show k13 < x0.length from by omega) (show laws_eqVersionSS_b1 x0 x1 k13 = Sum.inr () from by unfold laws_eqVersionSS_b1; exact cond_t g44 (rfl)) hF15
        exact QM_round (k13 + 1, (), ()) (subL_cons rfl (subL_cons rfl (subL_cons rfl subL_nil))) (fun W hm => hm) ⟨(by omega), hn45⟩ (show x0.length - (k13 + 1) < x0.length - k13 from by omega)
      ·
        refine CM_condT rfl (nf g44) ?_
        refine sr ?_
        refine wa ?_
        refine nt' ?_
        refine CM_ret ?_
        refine QM_block_ret ?_
        refine QM_then_ret ?_
        refine QM_then_ret ?_
        refine QM_block_ret ?_
        refine QM_then_ret ?_
        exact QM_ret1 rfl rfl (fun W hm => ⟨ret_b (show laws_eqVersionSS_m x0 x1 = false from by unfold laws_eqVersionSS_m; exact cond_f g12 (fin_inl (rng_ret (body := (fun k (_ : Unit) => laws_eqVersionSS_b1 x0 x1 k)) (k := k13) (s := ()) (show k13 < x0.length from by omega) (show laws_eqVersionSS_b1 x0 x1 k13 = Sum.inl false from by unfold laws_eqVersionSS_b1; exact cond_f g44 (rfl)) hF15) rfl)), hm.below⟩)
    · have g18 : (decide (((k13 : Nat) : Int) < ((x0.length : Nat) : Int))) = false := decide_eq_false (by omega)
      refine CM_condF rfl g18 ?_
      refine CM_exit ?_
      refine QM_then_exit ?_
      refine QM_then_exit ?_
      have hE46 : rng (R := Bool) (fun k (_ : Unit) => laws_eqVersionSS_b1 x0 x1 k) (x0.length - 0) 0 () = Sum.inr () := rng_end hl17 hF15
      refine QM_block_hit ?_
      refine QM_then ?_
      refine sr ?_
      refine wa ?_
      refine nt' ?_
      refine CM_ret ?_
      exact QM_ret1 rfl rfl (fun W hm => ⟨ret_b (show laws_eqVersionSS_m x0 x1 = true from by unfold laws_eqVersionSS_m; exact cond_f g12 (fin_inr hE46 (rfl))), hm.below⟩)
  · have g12 : (((x0.length : Nat) : Int) != ((x1.length : Nat) : Int)) = true := bne_iff_ne.2 h11
    refine CM_condT rfl g12 ?_
    refine sr ?_
    refine wa ?_
    refine nt' ?_
    refine CM_ret ?_
    refine QM_then_ret ?_
    exact QM_ret1 rfl rfl (fun W hm => ⟨ret_b (show laws_eqVersionSS_m x0 x1 = false from by unfold laws_eqVersionSS_m; exact cond_t g12 (rfl)), hm.below⟩)

def laws_eqStore_m (x0 : DStore) (x1 : DStore) : Bool :=
  cond (laws_eqVersionSS_m x0.Segments x1.Segments) (cond (x0.Now != x1.Now) false true) false
set_option maxRecDepth 100000 in
theorem cb53 : Cb Try.prog 53 := ⟨Try.f53, _, Try.func53, rfl, by decide⟩
set_option maxRecDepth 10000 in
set_option maxHeartbeats 4000000 in
theorem laws_eqStore_c (w : World) (z0 : List Value) (x0 : DStore) (z1 : List Value) (x1 : DStore) (r_0 : tyStore.rd w w.heap.size z0 x0) (r_1 : tyStore.rd w w.heap.size z1 x1) :
    Calls Try.prog 53 #[.agg z0.toArray, .agg z1.toArray] w fun e w' => e = .returned (.bool (laws_eqStore_m x0 x1)) ∧ Below w.heap.size w w' := by
  obtain ⟨v1, rfl, r2⟩ := tyStore_rd r_0
  have r7 := r2
  obtain ⟨m3, A4, c5, rfl, q6⟩ := r2
  obtain ⟨v8, rfl, r9⟩ := tyStore_rd r_1
  have r14 := r9
  obtain ⟨m10, A11, c12, rfl, q13⟩ := r9
  refine call_enterM (L := [(0, .agg #[.slice A4 x0.Segments.length c5, .int .i64 x0.Now]), (1, .agg #[.slice A11 x1.Segments.length c12, .int .i64 x1.Now])]) (N := 16) Try.func53 rfl rfl (Nat.le_of_ble_eq_true rfl) (argsL_cons rfl (argsL_cons rfl argsL_nil)) ?_
  refine sr ?_
  refine WM_box rfl (Wd_none rfl) (by decide) (fun p15 => ?_)
  refine WM_box rfl (Wd_none rfl) (by decide) (fun p16 => ?_)
  refine wa ?_
  refine nt' ?_
  refine CM_seq ?_
  refine sr ?_
  refine wv (fun W hm => rv_field Try.underlying26 rfl Try.type24 (by decide) rfl rfl) ?_
  refine wv (fun W hm => rv_load Try.underlying24 rfl rfl (hm.boxCell (n := 1) (o := 0) rfl rfl)) ?_
  refine wv (fun W hm => rv_field Try.underlying26 rfl Try.type24 (by decide) rfl rfl) ?_
  refine wv (fun W hm => rv_load Try.underlying24 rfl rfl (hm.boxCell (n := 0) (o := 0) rfl rfl)) ?_
  refine WM_callV (cl_fn cb128 rfl) (fun W hm => laws_eqVersionSS_c W _ x0.Segments _ x1.Segments (hm.rdS0 r7) (hm.rdS0 r14)) (Wd_none rfl) (by decide) ?_
  refine wv (fun W hm => rv_not rfl) ?_
  refine nt' ?_
  rcases Bool.eq_false_or_eq_true (laws_eqVersionSS_m x0.Segments x1.Segments) with g18 | g18
  ·
    refine CM_condF rfl (nt g18) ?_
    refine CM_skip ?_
    refine QM_then ?_
    refine CM_seq ?_
    refine sr ?_
    refine wv (fun W hm => rv_field Try.underlying26 rfl Try.type3 (by decide) rfl rfl) ?_
    refine wv (fun W hm => rv_load Try.underlying3 rfl rfl (hm.boxCell (n := 1) (o := 1) rfl rfl)) ?_
    refine wv (fun W hm => rv_field Try.underlying26 rfl Try.type3 (by decide) rfl rfl) ?_
    refine wv (fun W hm => rv_load Try.underlying3 rfl rfl (hm.boxCell (n := 0) (o := 1) rfl rfl)) ?_
    refine wv (fun W hm => rv_neq rfl rfl) ?_
    refine nt' ?_
    by_cases h19 : x0.Now = x1.Now
    · have g20 : (x0.Now != x1.Now) = false := by rw [h19]; exact bne_self_eq_false _
      refine CM_condF rfl g20 ?_
      refine CM_skip ?_
      refine QM_then ?_
      refine sr ?_
      refine wa ?_
      refine nt' ?_
      refine CM_ret ?_
      exact QM_ret1 rfl rfl (fun W hm => ⟨ret_b (show laws_eqStore_m x0 x1 = true from by unfold laws_eqStore_m; exact cond_t g18 (cond_f g20 (rfl))), hm.below⟩)
    · have g20 : (x0.Now != x1.Now) = true := bne_iff_ne.2 h19
      refine CM_condT rfl g20 ?_
      refine sr ?_
      refine wa ?_
      refine nt' ?_
      refine CM_ret ?_
      refine QM_then_ret ?_
      exact QM_ret1 rfl rfl (fun W hm => ⟨ret_b (show laws_eqStore_m x0 x1 = false from by unfold laws_eqStore_m; exact cond_t g18 (cond_t g20 (rfl))), hm.below⟩)
  ·
    refine CM_condT rfl (nf g18) ?_
    refine sr ?_
    refine wa ?_
    refine nt' ?_
    refine CM_ret ?_
    refine QM_then_ret ?_
    exact QM_ret1 rfl rfl (fun W hm => ⟨ret_b (show laws_eqStore_m x0 x1 = false from by unfold laws_eqStore_m; exact cond_f g18 (rfl)), hm.below⟩)

def laws_eqCond_m (x0 : DCond) (x1 : DCond) : Bool :=
  cond (x0.Field != x1.Field) false (cond (x0.Low != x1.Low) false (cond (x0.High != x1.High) false true))
set_option maxRecDepth 100000 in
theorem cb218 : Cb Try.prog 218 := ⟨Try.f218, _, Try.func218, rfl, by decide⟩
set_option maxRecDepth 10000 in
set_option maxHeartbeats 4000000 in
theorem laws_eqCond_c (w : World) (z0 : List Value) (x0 : DCond) (z1 : List Value) (x1 : DCond) (r_0 : tyCond.rd w w.heap.size z0 x0) (r_1 : tyCond.rd w w.heap.size z1 x1) :
    Calls Try.prog 218 #[.agg z0.toArray, .agg z1.toArray] w fun e w' => e = .returned (.bool (laws_eqCond_m x0 x1)) ∧ Below w.heap.size w w' := by
  obtain rfl := tyCond_rd r_0
  obtain rfl := tyCond_rd r_1
  refine call_enterM (L := [(0, .agg #[.int .i64 x0.Field, .int .i64 x0.Low, .int .i64 x0.High]), (1, .agg #[.int .i64 x1.Field, .int .i64 x1.Low, .int .i64 x1.High])]) (N := 20) Try.func218 rfl rfl (Nat.le_of_ble_eq_true rfl) (argsL_cons rfl (argsL_cons rfl argsL_nil)) ?_
  refine sr ?_
  refine WM_box rfl (Wd_none rfl) (by decide) (fun p1 => ?_)
  refine WM_box rfl (Wd_none rfl) (by decide) (fun p2 => ?_)
  refine wa ?_
  refine nt' ?_
  refine CM_seq ?_
  refine sr ?_
  refine wv (fun W hm => rv_field Try.underlying183 rfl Try.type3 (by decide) rfl rfl) ?_
  refine wv (fun W hm => rv_load Try.underlying3 rfl rfl (hm.boxCell (n := 1) (o := 0) rfl rfl)) ?_
  refine wv (fun W hm => rv_field Try.underlying183 rfl Try.type3 (by decide) rfl rfl) ?_
  refine wv (fun W hm => rv_load Try.underlying3 rfl rfl (hm.boxCell (n := 0) (o := 0) rfl rfl)) ?_
  refine wv (fun W hm => rv_neq rfl rfl) ?_
  refine nt' ?_
  by_cases h3 : x0.Field = x1.Field
  · have g4 : (x0.Field != x1.Field) = false := by rw [h3]; exact bne_self_eq_false _
    refine CM_condF rfl g4 ?_
    refine CM_skip ?_
    refine QM_then ?_
    refine CM_seq ?_
    refine sr ?_
    refine wv (fun W hm => rv_field Try.underlying183 rfl Try.type3 (by decide) rfl rfl) ?_
    refine wv (fun W hm => rv_load Try.underlying3 rfl rfl (hm.boxCell (n := 1) (o := 1) rfl rfl)) ?_
    refine wv (fun W hm => rv_field Try.underlying183 rfl Try.type3 (by decide) rfl rfl) ?_
    refine wv (fun W hm => rv_load Try.underlying3 rfl rfl (hm.boxCell (n := 0) (o := 1) rfl rfl)) ?_
    refine wv (fun W hm => rv_neq rfl rfl) ?_
    refine nt' ?_
    by_cases h5 : x0.Low = x1.Low
    · have g6 : (x0.Low != x1.Low) = false := by rw [h5]; exact bne_self_eq_false _
      refine CM_condF rfl g6 ?_
      refine CM_skip ?_
      refine QM_then ?_
      refine CM_seq ?_
      refine sr ?_
      refine wv (fun W hm => rv_field Try.underlying183 rfl Try.type3 (by decide) rfl rfl) ?_
      refine wv (fun W hm => rv_load Try.underlying3 rfl rfl (hm.boxCell (n := 1) (o := 2) rfl rfl)) ?_
      refine wv (fun W hm => rv_field Try.underlying183 rfl Try.type3 (by decide) rfl rfl) ?_
      refine wv (fun W hm => rv_load Try.underlying3 rfl rfl (hm.boxCell (n := 0) (o := 2) rfl rfl)) ?_
      refine wv (fun W hm => rv_neq rfl rfl) ?_
      refine nt' ?_
      by_cases h7 : x0.High = x1.High
      · have g8 : (x0.High != x1.High) = false := by rw [h7]; exact bne_self_eq_false _
        refine CM_condF rfl g8 ?_
        refine CM_skip ?_
        refine QM_then ?_
        refine sr ?_
        refine wa ?_
        refine nt' ?_
        refine CM_ret ?_
        exact QM_ret1 rfl rfl (fun W hm => ⟨ret_b (show laws_eqCond_m x0 x1 = true from by unfold laws_eqCond_m; exact cond_f g4 (cond_f g6 (cond_f g8 (rfl)))), hm.below⟩)
      · have g8 : (x0.High != x1.High) = true := bne_iff_ne.2 h7
        refine CM_condT rfl g8 ?_
        refine sr ?_
        refine wa ?_
        refine nt' ?_
        refine CM_ret ?_
        refine QM_then_ret ?_
        exact QM_ret1 rfl rfl (fun W hm => ⟨ret_b (show laws_eqCond_m x0 x1 = false from by unfold laws_eqCond_m; exact cond_f g4 (cond_f g6 (cond_t g8 (rfl)))), hm.below⟩)
    · have g6 : (x0.Low != x1.Low) = true := bne_iff_ne.2 h5
      refine CM_condT rfl g6 ?_
      refine sr ?_
      refine wa ?_
      refine nt' ?_
      refine CM_ret ?_
      refine QM_then_ret ?_
      exact QM_ret1 rfl rfl (fun W hm => ⟨ret_b (show laws_eqCond_m x0 x1 = false from by unfold laws_eqCond_m; exact cond_f g4 (cond_t g6 (rfl))), hm.below⟩)
  · have g4 : (x0.Field != x1.Field) = true := bne_iff_ne.2 h3
    refine CM_condT rfl g4 ?_
    refine sr ?_
    refine wa ?_
    refine nt' ?_
    refine CM_ret ?_
    refine QM_then_ret ?_
    exact QM_ret1 rfl rfl (fun W hm => ⟨ret_b (show laws_eqCond_m x0 x1 = false from by unfold laws_eqCond_m; exact cond_t g4 (rfl)), hm.below⟩)

def laws_eqCondS_b1 (x0 : (List DCond)) (x1 : (List DCond)) (k13 : Nat) : Bool ⊕ (Unit) :=
  cond (laws_eqCond_m (gt x0 k13) (gt x1 k13)) (Sum.inr ()) (Sum.inl false)
def laws_eqCondS_m (x0 : (List DCond)) (x1 : (List DCond)) : Bool :=
  cond (((x0.length : Nat) : Int) != ((x1.length : Nat) : Int)) false (Sum.elim id (fun (s : Unit) => true) (rng (R := Bool) (fun k (_ : Unit) => laws_eqCondS_b1 x0 x1 k) (x0.length - 0) 0 ()))
set_option maxRecDepth 100000 in
theorem cb214 : Cb Try.prog 214 := ⟨Try.f214, _, Try.func214, rfl, by decide⟩
set_option maxRecDepth 10000 in
set_option maxHeartbeats 4000000 in
theorem laws_eqCondS_c (w : World) (z0 : Value) (x0 : (List DCond)) (z1 : Value) (x1 : (List DCond)) (r_0 : rdS tyCond w w.heap.size z0 x0) (r_1 : rdS tyCond w w.heap.size z1 x1) :
    Calls Try.prog 214 #[z0, z1] w fun e w' => e = .returned (.bool (laws_eqCondS_m x0 x1)) ∧ Below w.heap.size w w' := by
  have r5 := r_0
  obtain ⟨m1, A2, c3, rfl, q4⟩ := r_0
  have r10 := r_1
  obtain ⟨m6, A7, c8, rfl, q9⟩ := r_1
  refine call_enterM (L := [(0, .slice A2 x0.length c3), (1, .slice A7 x1.length c8)]) (N := 27) Try.func214 rfl rfl (Nat.le_of_ble_eq_true rfl) (argsL_cons rfl (argsL_cons rfl argsL_nil)) ?_
  refine sr ?_
  refine wa ?_
  refine nt' ?_
  refine CM_seq ?_
  refine sr ?_
  refine wm ?_
  refine wv (fun W hm => rv_len Try.underlying123 rfl) ?_
  refine wm ?_
  refine wv (fun W hm => rv_len Try.underlying123 rfl) ?_
  refine wv (fun W hm => rv_neq rfl rfl) ?_
  refine nt' ?_
  by_cases h11 : ((x0.length : Nat) : Int) = ((x1.length : Nat) : Int)
  · have g12 : (((x0.length : Nat) : Int) != ((x1.length : Nat) : Int)) = false := by rw [h11]; exact bne_self_eq_false _
    refine CM_condF rfl g12 ?_
    refine CM_skip ?_
    refine QM_then ?_
    refine CM_seq ?_
    refine sr ?_
    refine wa ?_
    refine nt' ?_
    refine CM_block ?_
    refine CM_loop (σ := Nat × (Unit) × (Unit)) (fun s => [(0, .slice A2 x0.length c3), (1, .slice A7 x1.length c8), (5, .int .i64 ((s.1 : Nat) : Int))]) (fun s => []) (fun s => s.1 ≤ x0.length ∧ rng (R := Bool) (fun k (_ : Unit) => laws_eqCondS_b1 x0 x1 k) (x0.length - s.1) s.1 s.2.1 = rng (R := Bool) (fun k (_ : Unit) => laws_eqCondS_b1 x0 x1 k) (x0.length - 0) 0 ()) (fun s => x0.length - s.1) (0, (), ()) (subL_cons rfl (subL_cons rfl (subL_cons rfl subL_nil))) (fun W hm => hm) ⟨(by omega), rfl⟩ ?_
    rintro ⟨k13, ⟨⟩, ⟨⟩⟩ H16
    obtain ⟨hk14, hF15⟩ : k13 ≤ x0.length ∧ rng (R := Bool) (fun k (_ : Unit) => laws_eqCondS_b1 x0 x1 k) (x0.length - k13) k13 () = rng (R := Bool) (fun k (_ : Unit) => laws_eqCondS_b1 x0 x1 k) (x0.length - 0) 0 () := H16
    show CM Try.prog 27 _ _ _ _ [(0, .slice A2 x0.length c3), (1, .slice A7 x1.length c8), (5, .int .i64 ((k13 : Nat) : Int))] []
    refine CM_seq ?_
    refine sr ?_
    refine wm ?_
    refine wm ?_
    refine wv (fun W hm => rv_len Try.underlying123 rfl) ?_
    refine wv (fun W hm => rv_lss rfl rfl) ?_
    refine nt' ?_
    by_cases hl17 : k13 < x0.length
    · have g18 : (decide (((k13 : Nat) : Int) < ((x0.length : Nat) : Int))) = true := decide_eq_true (by omega)
      refine CM_condT rfl g18 ?_
      refine CM_skip ?_
      refine QM_then ?_
      refine CM_seq ?_
      refine CM_block ?_
      refine CM_seq ?_
      refine CM_regionD (by kernel_rfl) (by kernel_rfl) ?_
      refine qm ?_
      refine qm ?_
      obtain ⟨a19, rfl, hb20, he21⟩ := q4 (by omega)
      refine qv (fun W hm => rv_index (sz := 3) (k := k13) Try.underlying123 Try.type183 rfl rfl rfl (by omega)) ?_
      obtain ⟨_, e23, hc22⟩ := he21 k13 _ (gt_some (show k13 < x0.length from by omega))
      obtain rfl := tyCond_rd e23
      refine qv (fun W hm => rv_loadN (cs := [.int .i64 ((gt x0 k13).Field), .int .i64 ((gt x0 k13).Low), .int .i64 ((gt x0 k13).High)]) Try.underlying183 Try.type183 rfl rfl (hm.elCells (show (a19.add (k13 * 3)).block < w.heap.size from by rw [add_block]; exact hb20.1) hc22)) ?_
      refine qm ?_
      refine qm ?_
      obtain ⟨a24, rfl, hb25, he26⟩ := q9 (by omega)
      refine qv (fun W hm => rv_index (sz := 3) (k := k13) Try.underlying123 Try.type183 rfl rfl rfl (by omega)) ?_
      obtain ⟨_, e28, hc27⟩ := he26 k13 _ (gt_some (show k13 < x1.length from by omega))
      obtain rfl := tyCond_rd e28
      refine qv (fun W hm => rv_loadN (cs := [.int .i64 ((gt x1 k13).Field), .int .i64 ((gt x1 k13).Low), .int .i64 ((gt x1 k13).High)]) Try.underlying183 Try.type183 rfl rfl (hm.elCells (show (a24.add (k13 * 3)).block < w.heap.size from by rw [add_block]; exact hb25.1) hc27)) ?_
      refine QR_callV (cl_fn cb218 rfl) (fun W hm => laws_eqCond_c W _ (gt x0 k13) _ (gt x1 k13) (tyCond_mk (x := (gt x0 k13))) (tyCond_mk (x := (gt x1 k13)))) (Wd_none rfl) (by decide) ?_
      refine qv (fun W hm => rv_not rfl) ?_
      refine nq' ?_
      rcases Bool.eq_false_or_eq_true (laws_eqCond_m (gt x0 k13) (gt x1 k13)) with g30 | g30
      ·
        refine CM_condF rfl (nt g30) ?_
        refine CM_skip ?_
        refine QM_block_normal ?_
        refine QM_then ?_
        refine CM_region ?_
        refine wm ?_
        refine wv (fun W hm => rv_addN (p := k13) (q := 1) rfl rfl (by omega)) ?_
        refine wa ?_
        refine WM_nil ?_
        have hn31 := rng_next (R := Bool) (body := (fun k (_ : Unit) => laws_eqCondS_b1 x0 x1 k)) (k := k13) (s := ()) (s' := ()) (show k13 < x0.length from by omega) (show laws_eqCondS_b1 x0 x1 k13 = Sum.inr () from by unfold laws_eqCondS_b1; exact cond_t g30 (rfl)) hF15
        exact QM_round (k13 + 1, (), ()) (subL_cons rfl (subL_cons rfl (subL_cons rfl subL_nil))) (fun W hm => hm) ⟨(by omega), hn31⟩ (show x0.length - (k13 + 1) < x0.length - k13 from by omega)
      ·
        refine CM_condT rfl (nf g30) ?_
        refine sr ?_
        refine wa ?_
        refine nt' ?_
        refine CM_ret ?_
        refine QM_block_ret ?_
        refine QM_then_ret ?_
        refine QM_then_ret ?_
        refine QM_block_ret ?_
        refine QM_then_ret ?_
        exact QM_ret1 rfl rfl (fun W hm => ⟨ret_b (show laws_eqCondS_m x0 x1 = false from by unfold laws_eqCondS_m; exact cond_f g12 (fin_inl (rng_ret (body := (fun k (_ : Unit) => laws_eqCondS_b1 x0 x1 k)) (k := k13) (s := ()) (show k13 < x0.length from by omega) (show laws_eqCondS_b1 x0 x1 k13 = Sum.inl false from by unfold laws_eqCondS_b1; exact cond_f g30 (rfl)) hF15) rfl)), hm.below⟩)
    · have g18 : (decide (((k13 : Nat) : Int) < ((x0.length : Nat) : Int))) = false := decide_eq_false (by omega)
      refine CM_condF rfl g18 ?_
      refine CM_exit ?_
      refine QM_then_exit ?_
      refine QM_then_exit ?_
      have hE32 : rng (R := Bool) (fun k (_ : Unit) => laws_eqCondS_b1 x0 x1 k) (x0.length - 0) 0 () = Sum.inr () := rng_end hl17 hF15
      refine QM_block_hit ?_
      refine QM_then ?_
      refine sr ?_
      refine wa ?_
      refine nt' ?_
      refine CM_ret ?_
      exact QM_ret1 rfl rfl (fun W hm => ⟨ret_b (show laws_eqCondS_m x0 x1 = true from by unfold laws_eqCondS_m; exact cond_f g12 (fin_inr hE32 (rfl))), hm.below⟩)
  · have g12 : (((x0.length : Nat) : Int) != ((x1.length : Nat) : Int)) = true := bne_iff_ne.2 h11
    refine CM_condT rfl g12 ?_
    refine sr ?_
    refine wa ?_
    refine nt' ?_
    refine CM_ret ?_
    refine QM_then_ret ?_
    exact QM_ret1 rfl rfl (fun W hm => ⟨ret_b (show laws_eqCondS_m x0 x1 = false from by unfold laws_eqCondS_m; exact cond_t g12 (rfl)), hm.below⟩)

def laws_eqQuery_m (x0 : DQuery) (x1 : DQuery) : Bool :=
  cond (x0.Id != x1.Id) false (cond (x0.Tenant != x1.Tenant) false (cond (laws_eqCondS_m x0.Conds x1.Conds) (cond (laws_eqIntS_m x0.Out x1.Out) true false) false))
set_option maxRecDepth 100000 in
theorem cb203 : Cb Try.prog 203 := ⟨Try.f203, _, Try.func203, rfl, by decide⟩
set_option maxRecDepth 10000 in
set_option maxHeartbeats 4000000 in
theorem laws_eqQuery_c (w : World) (z0 : List Value) (x0 : DQuery) (z1 : List Value) (x1 : DQuery) (r_0 : tyQuery.rd w w.heap.size z0 x0) (r_1 : tyQuery.rd w w.heap.size z1 x1) :
    Calls Try.prog 203 #[.agg z0.toArray, .agg z1.toArray] w fun e w' => e = .returned (.bool (laws_eqQuery_m x0 x1)) ∧ Below w.heap.size w w' := by
  obtain ⟨v1, v3, rfl, r2, r4⟩ := tyQuery_rd r_0
  have r9 := r2
  obtain ⟨m5, A6, c7, rfl, q8⟩ := r2
  have r14 := r4
  obtain ⟨m10, A11, c12, rfl, q13⟩ := r4
  obtain ⟨v15, v17, rfl, r16, r18⟩ := tyQuery_rd r_1
  have r23 := r16
  obtain ⟨m19, A20, c21, rfl, q22⟩ := r16
  have r28 := r18
  obtain ⟨m24, A25, c26, rfl, q27⟩ := r18
  refine call_enterM (L := [(0, .agg #[.int .i64 x0.Id, .int .i64 x0.Tenant, .slice A6 x0.Conds.length c7, .slice A11 x0.Out.length c12]), (1, .agg #[.int .i64 x1.Id, .int .i64 x1.Tenant, .slice A20 x1.Conds.length c21, .slice A25 x1.Out.length c26])]) (N := 27) Try.func203 rfl rfl (Nat.le_of_ble_eq_true rfl) (argsL_cons rfl (argsL_cons rfl argsL_nil)) ?_
  refine sr ?_
  refine WM_box rfl (Wd_none rfl) (by decide) (fun p29 => ?_)
  refine WM_box rfl (Wd_none rfl) (by decide) (fun p30 => ?_)
  refine wa ?_
  refine nt' ?_
  refine CM_seq ?_
  refine sr ?_
  refine wv (fun W hm => rv_field Try.underlying125 rfl Try.type3 (by decide) rfl rfl) ?_
  refine wv (fun W hm => rv_load Try.underlying3 rfl rfl (hm.boxCell (n := 1) (o := 0) rfl rfl)) ?_
  refine wv (fun W hm => rv_field Try.underlying125 rfl Try.type3 (by decide) rfl rfl) ?_
  refine wv (fun W hm => rv_load Try.underlying3 rfl rfl (hm.boxCell (n := 0) (o := 0) rfl rfl)) ?_
  refine wv (fun W hm => rv_neq rfl rfl) ?_
  refine nt' ?_
  by_cases h31 : x0.Id = x1.Id
  · have g32 : (x0.Id != x1.Id) = false := by rw [h31]; exact bne_self_eq_false _
    refine CM_condF rfl g32 ?_
    refine CM_skip ?_
    refine QM_then ?_
    refine CM_seq ?_
    refine sr ?_
    refine wv (fun W hm => rv_field Try.underlying125 rfl Try.type3 (by decide) rfl rfl) ?_
    refine wv (fun W hm => rv_load Try.underlying3 rfl rfl (hm.boxCell (n := 1) (o := 1) rfl rfl)) ?_
    refine wv (fun W hm => rv_field Try.underlying125 rfl Try.type3 (by decide) rfl rfl) ?_
    refine wv (fun W hm => rv_load Try.underlying3 rfl rfl (hm.boxCell (n := 0) (o := 1) rfl rfl)) ?_
    refine wv (fun W hm => rv_neq rfl rfl) ?_
    refine nt' ?_
    by_cases h33 : x0.Tenant = x1.Tenant
    · have g34 : (x0.Tenant != x1.Tenant) = false := by rw [h33]; exact bne_self_eq_false _
      refine CM_condF rfl g34 ?_
      refine CM_skip ?_
      refine QM_then ?_
      refine CM_seq ?_
      refine sr ?_
      refine wv (fun W hm => rv_field Try.underlying125 rfl Try.type123 (by decide) rfl rfl) ?_
      refine wv (fun W hm => rv_load Try.underlying123 rfl rfl (hm.boxCell (n := 1) (o := 2) rfl rfl)) ?_
      refine wv (fun W hm => rv_field Try.underlying125 rfl Try.type123 (by decide) rfl rfl) ?_
      refine wv (fun W hm => rv_load Try.underlying123 rfl rfl (hm.boxCell (n := 0) (o := 2) rfl rfl)) ?_
      refine WM_callV (cl_fn cb214 rfl) (fun W hm => laws_eqCondS_c W _ x0.Conds _ x1.Conds (hm.rdS0 r9) (hm.rdS0 r23)) (Wd_none rfl) (by decide) ?_
      refine wv (fun W hm => rv_not rfl) ?_
      refine nt' ?_
      rcases Bool.eq_false_or_eq_true (laws_eqCondS_m x0.Conds x1.Conds) with g36 | g36
      ·
        refine CM_condF rfl (nt g36) ?_
        refine CM_skip ?_
        refine QM_then ?_
        refine CM_seq ?_
        refine sr ?_
        refine wv (fun W hm => rv_field Try.underlying125 rfl Try.type27 (by decide) rfl rfl) ?_
        refine wv (fun W hm => rv_load Try.underlying27 rfl rfl (hm.boxCell (n := 1) (o := 3) rfl rfl)) ?_
        refine wv (fun W hm => rv_field Try.underlying125 rfl Try.type27 (by decide) rfl rfl) ?_
        refine wv (fun W hm => rv_load Try.underlying27 rfl rfl (hm.boxCell (n := 0) (o := 3) rfl rfl)) ?_
        refine WM_callV (cl_fn cb67 rfl) (fun W hm => laws_eqIntS_c W _ x0.Out _ x1.Out (hm.rdS0 r14) (hm.rdS0 r28)) (Wd_none rfl) (by decide) ?_
        refine wv (fun W hm => rv_not rfl) ?_
        refine nt' ?_
        rcases Bool.eq_false_or_eq_true (laws_eqIntS_m x0.Out x1.Out) with g38 | g38
        ·
          refine CM_condF rfl (nt g38) ?_
          refine CM_skip ?_
          refine QM_then ?_
          refine sr ?_
          refine wa ?_
          refine nt' ?_
          refine CM_ret ?_
          exact QM_ret1 rfl rfl (fun W hm => ⟨ret_b (show laws_eqQuery_m x0 x1 = true from by unfold laws_eqQuery_m; exact cond_f g32 (cond_f g34 (cond_t g36 (cond_t g38 (rfl))))), hm.below⟩)
        ·
          refine CM_condT rfl (nf g38) ?_
          refine sr ?_
          refine wa ?_
          refine nt' ?_
          refine CM_ret ?_
          refine QM_then_ret ?_
          exact QM_ret1 rfl rfl (fun W hm => ⟨ret_b (show laws_eqQuery_m x0 x1 = false from by unfold laws_eqQuery_m; exact cond_f g32 (cond_f g34 (cond_t g36 (cond_f g38 (rfl))))), hm.below⟩)
      ·
        refine CM_condT rfl (nf g36) ?_
        refine sr ?_
        refine wa ?_
        refine nt' ?_
        refine CM_ret ?_
        refine QM_then_ret ?_
        exact QM_ret1 rfl rfl (fun W hm => ⟨ret_b (show laws_eqQuery_m x0 x1 = false from by unfold laws_eqQuery_m; exact cond_f g32 (cond_f g34 (cond_f g36 (rfl)))), hm.below⟩)
    · have g34 : (x0.Tenant != x1.Tenant) = true := bne_iff_ne.2 h33
      refine CM_condT rfl g34 ?_
      refine sr ?_
      refine wa ?_
      refine nt' ?_
      refine CM_ret ?_
      refine QM_then_ret ?_
      exact QM_ret1 rfl rfl (fun W hm => ⟨ret_b (show laws_eqQuery_m x0 x1 = false from by unfold laws_eqQuery_m; exact cond_f g32 (cond_t g34 (rfl))), hm.below⟩)
  · have g32 : (x0.Id != x1.Id) = true := bne_iff_ne.2 h31
    refine CM_condT rfl g32 ?_
    refine sr ?_
    refine wa ?_
    refine nt' ?_
    refine CM_ret ?_
    refine QM_then_ret ?_
    exact QM_ret1 rfl rfl (fun W hm => ⟨ret_b (show laws_eqQuery_m x0 x1 = false from by unfold laws_eqQuery_m; exact cond_t g32 (rfl)), hm.below⟩)

def laws_eqRow_m (x0 : DRow) (x1 : DRow) : Bool :=
  cond (x0.Id != x1.Id) false (cond (laws_eqIntS_m x0.Values x1.Values) true false)
set_option maxRecDepth 100000 in
theorem cb215 : Cb Try.prog 215 := ⟨Try.f215, _, Try.func215, rfl, by decide⟩
set_option maxRecDepth 10000 in
set_option maxHeartbeats 4000000 in
theorem laws_eqRow_c (w : World) (z0 : List Value) (x0 : DRow) (z1 : List Value) (x1 : DRow) (r_0 : tyRow.rd w w.heap.size z0 x0) (r_1 : tyRow.rd w w.heap.size z1 x1) :
    Calls Try.prog 215 #[.agg z0.toArray, .agg z1.toArray] w fun e w' => e = .returned (.bool (laws_eqRow_m x0 x1)) ∧ Below w.heap.size w w' := by
  obtain ⟨v1, rfl, r2⟩ := tyRow_rd r_0
  have r7 := r2
  obtain ⟨m3, A4, c5, rfl, q6⟩ := r2
  obtain ⟨v8, rfl, r9⟩ := tyRow_rd r_1
  have r14 := r9
  obtain ⟨m10, A11, c12, rfl, q13⟩ := r9
  refine call_enterM (L := [(0, .agg #[.int .i64 x0.Id, .slice A4 x0.Values.length c5]), (1, .agg #[.int .i64 x1.Id, .slice A11 x1.Values.length c12])]) (N := 16) Try.func215 rfl rfl (Nat.le_of_ble_eq_true rfl) (argsL_cons rfl (argsL_cons rfl argsL_nil)) ?_
  refine sr ?_
  refine WM_box rfl (Wd_none rfl) (by decide) (fun p15 => ?_)
  refine WM_box rfl (Wd_none rfl) (by decide) (fun p16 => ?_)
  refine wa ?_
  refine nt' ?_
  refine CM_seq ?_
  refine sr ?_
  refine wv (fun W hm => rv_field Try.underlying29 rfl Try.type3 (by decide) rfl rfl) ?_
  refine wv (fun W hm => rv_load Try.underlying3 rfl rfl (hm.boxCell (n := 1) (o := 0) rfl rfl)) ?_
  refine wv (fun W hm => rv_field Try.underlying29 rfl Try.type3 (by decide) rfl rfl) ?_
  refine wv (fun W hm => rv_load Try.underlying3 rfl rfl (hm.boxCell (n := 0) (o := 0) rfl rfl)) ?_
  refine wv (fun W hm => rv_neq rfl rfl) ?_
  refine nt' ?_
  by_cases h17 : x0.Id = x1.Id
  · have g18 : (x0.Id != x1.Id) = false := by rw [h17]; exact bne_self_eq_false _
    refine CM_condF rfl g18 ?_
    refine CM_skip ?_
    refine QM_then ?_
    refine CM_seq ?_
    refine sr ?_
    refine wv (fun W hm => rv_field Try.underlying29 rfl Try.type27 (by decide) rfl rfl) ?_
    refine wv (fun W hm => rv_load Try.underlying27 rfl rfl (hm.boxCell (n := 1) (o := 1) rfl rfl)) ?_
    refine wv (fun W hm => rv_field Try.underlying29 rfl Try.type27 (by decide) rfl rfl) ?_
    refine wv (fun W hm => rv_load Try.underlying27 rfl rfl (hm.boxCell (n := 0) (o := 1) rfl rfl)) ?_
    refine WM_callV (cl_fn cb67 rfl) (fun W hm => laws_eqIntS_c W _ x0.Values _ x1.Values (hm.rdS0 r7) (hm.rdS0 r14)) (Wd_none rfl) (by decide) ?_
    refine wv (fun W hm => rv_not rfl) ?_
    refine nt' ?_
    rcases Bool.eq_false_or_eq_true (laws_eqIntS_m x0.Values x1.Values) with g20 | g20
    ·
      refine CM_condF rfl (nt g20) ?_
      refine CM_skip ?_
      refine QM_then ?_
      refine sr ?_
      refine wa ?_
      refine nt' ?_
      refine CM_ret ?_
      exact QM_ret1 rfl rfl (fun W hm => ⟨ret_b (show laws_eqRow_m x0 x1 = true from by unfold laws_eqRow_m; exact cond_f g18 (cond_t g20 (rfl))), hm.below⟩)
    ·
      refine CM_condT rfl (nf g20) ?_
      refine sr ?_
      refine wa ?_
      refine nt' ?_
      refine CM_ret ?_
      refine QM_then_ret ?_
      exact QM_ret1 rfl rfl (fun W hm => ⟨ret_b (show laws_eqRow_m x0 x1 = false from by unfold laws_eqRow_m; exact cond_f g18 (cond_f g20 (rfl))), hm.below⟩)
  · have g18 : (x0.Id != x1.Id) = true := bne_iff_ne.2 h17
    refine CM_condT rfl g18 ?_
    refine sr ?_
    refine wa ?_
    refine nt' ?_
    refine CM_ret ?_
    refine QM_then_ret ?_
    exact QM_ret1 rfl rfl (fun W hm => ⟨ret_b (show laws_eqRow_m x0 x1 = false from by unfold laws_eqRow_m; exact cond_t g18 (rfl)), hm.below⟩)

def laws_eqRowS_b1 (x0 : (List DRow)) (x1 : (List DRow)) (k13 : Nat) : Bool ⊕ (Unit) :=
  cond (laws_eqRow_m (gt x0 k13) (gt x1 k13)) (Sum.inr ()) (Sum.inl false)
def laws_eqRowS_m (x0 : (List DRow)) (x1 : (List DRow)) : Bool :=
  cond (((x0.length : Nat) : Int) != ((x1.length : Nat) : Int)) false (Sum.elim id (fun (s : Unit) => true) (rng (R := Bool) (fun k (_ : Unit) => laws_eqRowS_b1 x0 x1 k) (x0.length - 0) 0 ()))
set_option maxRecDepth 100000 in
theorem cb204 : Cb Try.prog 204 := ⟨Try.f204, _, Try.func204, rfl, by decide⟩
set_option maxRecDepth 10000 in
set_option maxHeartbeats 4000000 in
theorem laws_eqRowS_c (w : World) (z0 : Value) (x0 : (List DRow)) (z1 : Value) (x1 : (List DRow)) (r_0 : rdS tyRow w w.heap.size z0 x0) (r_1 : rdS tyRow w w.heap.size z1 x1) :
    Calls Try.prog 204 #[z0, z1] w fun e w' => e = .returned (.bool (laws_eqRowS_m x0 x1)) ∧ Below w.heap.size w w' := by
  have r5 := r_0
  obtain ⟨m1, A2, c3, rfl, q4⟩ := r_0
  have r10 := r_1
  obtain ⟨m6, A7, c8, rfl, q9⟩ := r_1
  refine call_enterM (L := [(0, .slice A2 x0.length c3), (1, .slice A7 x1.length c8)]) (N := 27) Try.func204 rfl rfl (Nat.le_of_ble_eq_true rfl) (argsL_cons rfl (argsL_cons rfl argsL_nil)) ?_
  refine sr ?_
  refine wa ?_
  refine nt' ?_
  refine CM_seq ?_
  refine sr ?_
  refine wm ?_
  refine wv (fun W hm => rv_len Try.underlying39 rfl) ?_
  refine wm ?_
  refine wv (fun W hm => rv_len Try.underlying39 rfl) ?_
  refine wv (fun W hm => rv_neq rfl rfl) ?_
  refine nt' ?_
  by_cases h11 : ((x0.length : Nat) : Int) = ((x1.length : Nat) : Int)
  · have g12 : (((x0.length : Nat) : Int) != ((x1.length : Nat) : Int)) = false := by rw [h11]; exact bne_self_eq_false _
    refine CM_condF rfl g12 ?_
    refine CM_skip ?_
    refine QM_then ?_
    refine CM_seq ?_
    refine sr ?_
    refine wa ?_
    refine nt' ?_
    refine CM_block ?_
    refine CM_loop (σ := Nat × (Unit) × (Unit)) (fun s => [(0, .slice A2 x0.length c3), (1, .slice A7 x1.length c8), (5, .int .i64 ((s.1 : Nat) : Int))]) (fun s => []) (fun s => s.1 ≤ x0.length ∧ rng (R := Bool) (fun k (_ : Unit) => laws_eqRowS_b1 x0 x1 k) (x0.length - s.1) s.1 s.2.1 = rng (R := Bool) (fun k (_ : Unit) => laws_eqRowS_b1 x0 x1 k) (x0.length - 0) 0 ()) (fun s => x0.length - s.1) (0, (), ()) (subL_cons rfl (subL_cons rfl (subL_cons rfl subL_nil))) (fun W hm => hm) ⟨(by omega), rfl⟩ ?_
    rintro ⟨k13, ⟨⟩, ⟨⟩⟩ H16
    obtain ⟨hk14, hF15⟩ : k13 ≤ x0.length ∧ rng (R := Bool) (fun k (_ : Unit) => laws_eqRowS_b1 x0 x1 k) (x0.length - k13) k13 () = rng (R := Bool) (fun k (_ : Unit) => laws_eqRowS_b1 x0 x1 k) (x0.length - 0) 0 () := H16
    show CM Try.prog 27 _ _ _ _ [(0, .slice A2 x0.length c3), (1, .slice A7 x1.length c8), (5, .int .i64 ((k13 : Nat) : Int))] []
    refine CM_seq ?_
    refine sr ?_
    refine wm ?_
    refine wm ?_
    refine wv (fun W hm => rv_len Try.underlying39 rfl) ?_
    refine wv (fun W hm => rv_lss rfl rfl) ?_
    refine nt' ?_
    by_cases hl17 : k13 < x0.length
    · have g18 : (decide (((k13 : Nat) : Int) < ((x0.length : Nat) : Int))) = true := decide_eq_true (by omega)
      refine CM_condT rfl g18 ?_
      refine CM_skip ?_
      refine QM_then ?_
      refine CM_seq ?_
      refine CM_block ?_
      refine CM_seq ?_
      refine CM_regionD (by kernel_rfl) (by kernel_rfl) ?_
      refine qm ?_
      refine qm ?_
      obtain ⟨a19, rfl, hb20, he21⟩ := q4 (by omega)
      refine qv (fun W hm => rv_index (sz := 2) (k := k13) Try.underlying39 Try.type29 rfl rfl rfl (by omega)) ?_
      obtain ⟨_, e25, hc22⟩ := he21 k13 _ (gt_some (show k13 < x0.length from by omega))
      obtain ⟨v23, rfl, r24⟩ := tyRow_rd e25
      have r30 := r24
      obtain ⟨m26, A27, c28, rfl, q29⟩ := r24
      refine qv (fun W hm => rv_loadN (cs := [.int .i64 ((gt x0 k13).Id), .slice A27 ((gt x0 k13).Values).length c28]) Try.underlying29 Try.type29 rfl rfl (hm.elCells (show (a19.add (k13 * 2)).block < w.heap.size from by rw [add_block]; exact hb20.1) hc22)) ?_
      refine qm ?_
      refine qm ?_
      obtain ⟨a31, rfl, hb32, he33⟩ := q9 (by omega)
      refine qv (fun W hm => rv_index (sz := 2) (k := k13) Try.underlying39 Try.type29 rfl rfl rfl (by omega)) ?_
      obtain ⟨_, e37, hc34⟩ := he33 k13 _ (gt_some (show k13 < x1.length from by omega))
      obtain ⟨v35, rfl, r36⟩ := tyRow_rd e37
      have r42 := r36
      obtain ⟨m38, A39, c40, rfl, q41⟩ := r36
      refine qv (fun W hm => rv_loadN (cs := [.int .i64 ((gt x1 k13).Id), .slice A39 ((gt x1 k13).Values).length c40]) Try.underlying29 Try.type29 rfl rfl (hm.elCells (show (a31.add (k13 * 2)).block < w.heap.size from by rw [add_block]; exact hb32.1) hc34)) ?_
      refine QR_callV (cl_fn cb215 rfl) (fun W hm => laws_eqRow_c W _ (gt x0 k13) _ (gt x1 k13) (tyRow_mk (x := (gt x0 k13)) (hm.rdS0 r30)) (tyRow_mk (x := (gt x1 k13)) (hm.rdS0 r42))) (Wd_none rfl) (by decide) ?_
      refine qv (fun W hm => rv_not rfl) ?_
      refine nq' ?_
      rcases Bool.eq_false_or_eq_true (laws_eqRow_m (gt x0 k13) (gt x1 k13)) with g44 | g44
      ·
        refine CM_condF rfl (nt g44) ?_
        refine CM_skip ?_
        refine QM_block_normal ?_
        refine QM_then ?_
        refine CM_region ?_
        refine wm ?_
        refine wv (fun W hm => rv_addN (p := k13) (q := 1) rfl rfl (by omega)) ?_
        refine wa ?_
        refine WM_nil ?_
        have hn45 := rng_next (R := Bool) (body := (fun k (_ : Unit) => laws_eqRowS_b1 x0 x1 k)) (k := k13) (s := ()) (s' := ()) (show k13 < x0.length from by omega) (show laws_eqRowS_b1 x0 x1 k13 = Sum.inr () from by unfold laws_eqRowS_b1; exact cond_t g44 (rfl)) hF15
        exact QM_round (k13 + 1, (), ()) (subL_cons rfl (subL_cons rfl (subL_cons rfl subL_nil))) (fun W hm => hm) ⟨(by omega), hn45⟩ (show x0.length - (k13 + 1) < x0.length - k13 from by omega)
      ·
        refine CM_condT rfl (nf g44) ?_
        refine sr ?_
        refine wa ?_
        refine nt' ?_
        refine CM_ret ?_
        refine QM_block_ret ?_
        refine QM_then_ret ?_
        refine QM_then_ret ?_
        refine QM_block_ret ?_
        refine QM_then_ret ?_
        exact QM_ret1 rfl rfl (fun W hm => ⟨ret_b (show laws_eqRowS_m x0 x1 = false from by unfold laws_eqRowS_m; exact cond_f g12 (fin_inl (rng_ret (body := (fun k (_ : Unit) => laws_eqRowS_b1 x0 x1 k)) (k := k13) (s := ()) (show k13 < x0.length from by omega) (show laws_eqRowS_b1 x0 x1 k13 = Sum.inl false from by unfold laws_eqRowS_b1; exact cond_f g44 (rfl)) hF15) rfl)), hm.below⟩)
    · have g18 : (decide (((k13 : Nat) : Int) < ((x0.length : Nat) : Int))) = false := decide_eq_false (by omega)
      refine CM_condF rfl g18 ?_
      refine CM_exit ?_
      refine QM_then_exit ?_
      refine QM_then_exit ?_
      have hE46 : rng (R := Bool) (fun k (_ : Unit) => laws_eqRowS_b1 x0 x1 k) (x0.length - 0) 0 () = Sum.inr () := rng_end hl17 hF15
      refine QM_block_hit ?_
      refine QM_then ?_
      refine sr ?_
      refine wa ?_
      refine nt' ?_
      refine CM_ret ?_
      exact QM_ret1 rfl rfl (fun W hm => ⟨ret_b (show laws_eqRowS_m x0 x1 = true from by unfold laws_eqRowS_m; exact cond_f g12 (fin_inr hE46 (rfl))), hm.below⟩)
  · have g12 : (((x0.length : Nat) : Int) != ((x1.length : Nat) : Int)) = true := bne_iff_ne.2 h11
    refine CM_condT rfl g12 ?_
    refine sr ?_
    refine wa ?_
    refine nt' ?_
    refine CM_ret ?_
    refine QM_then_ret ?_
    exact QM_ret1 rfl rfl (fun W hm => ⟨ret_b (show laws_eqRowS_m x0 x1 = false from by unfold laws_eqRowS_m; exact cond_t g12 (rfl)), hm.below⟩)

def laws_eqActive_m (x0 : DActive) (x1 : DActive) : Bool :=
  cond (laws_eqQuery_m x0.Query x1.Query) (cond (x0.Time != x1.Time) false (cond (laws_eqIntS_m x0.Todo x1.Todo) (cond (x0.Age != x1.Age) false (cond (x0.Sent != x1.Sent) false (cond (x0.Cap != x1.Cap) false (cond (laws_eqRowS_m x0.Rows x1.Rows) true false)))) false)) false
set_option maxRecDepth 100000 in
theorem cb171 : Cb Try.prog 171 := ⟨Try.f171, _, Try.func171, rfl, by decide⟩
set_option maxRecDepth 10000 in
set_option maxHeartbeats 4000000 in
theorem laws_eqActive_c (w : World) (z0 : List Value) (x0 : DActive) (z1 : List Value) (x1 : DActive) (r_0 : tyActive.rd w w.heap.size z0 x0) (r_1 : tyActive.rd w w.heap.size z1 x1) :
    Calls Try.prog 171 #[.agg z0.toArray, .agg z1.toArray] w fun e w' => e = .returned (.bool (laws_eqActive_m x0 x1)) ∧ Below w.heap.size w w' := by
  obtain ⟨v1, v3, v5, v7, rfl, r2, r4, r6, r8⟩ := tyActive_rd r_0
  have r13 := r2
  obtain ⟨m9, A10, c11, rfl, q12⟩ := r2
  have r18 := r4
  obtain ⟨m14, A15, c16, rfl, q17⟩ := r4
  have r23 := r6
  obtain ⟨m19, A20, c21, rfl, q22⟩ := r6
  have r28 := r8
  obtain ⟨m24, A25, c26, rfl, q27⟩ := r8
  obtain ⟨v29, v31, v33, v35, rfl, r30, r32, r34, r36⟩ := tyActive_rd r_1
  have r41 := r30
  obtain ⟨m37, A38, c39, rfl, q40⟩ := r30
  have r46 := r32
  obtain ⟨m42, A43, c44, rfl, q45⟩ := r32
  have r51 := r34
  obtain ⟨m47, A48, c49, rfl, q50⟩ := r34
  have r56 := r36
  obtain ⟨m52, A53, c54, rfl, q55⟩ := r36
  refine call_enterM (L := [(0, .agg #[.int .i64 x0.Query.Id, .int .i64 x0.Query.Tenant, .slice A10 x0.Query.Conds.length c11, .slice A15 x0.Query.Out.length c16, .int .i64 x0.Time, .slice A20 x0.Todo.length c21, .int .i64 x0.Age, .int .i64 x0.Sent, .int .i64 x0.Cap, .slice A25 x0.Rows.length c26]), (1, .agg #[.int .i64 x1.Query.Id, .int .i64 x1.Query.Tenant, .slice A38 x1.Query.Conds.length c39, .slice A43 x1.Query.Out.length c44, .int .i64 x1.Time, .slice A48 x1.Todo.length c49, .int .i64 x1.Age, .int .i64 x1.Sent, .int .i64 x1.Cap, .slice A53 x1.Rows.length c54])]) (N := 43) Try.func171 rfl rfl (Nat.le_of_ble_eq_true rfl) (argsL_cons rfl (argsL_cons rfl argsL_nil)) ?_
  refine sr ?_
  refine WM_box rfl (Wd_none rfl) (by decide) (fun p57 => ?_)
  refine WM_box rfl (Wd_none rfl) (by decide) (fun p58 => ?_)
  refine wa ?_
  refine nt' ?_
  refine CM_seq ?_
  refine sr ?_
  refine wv (fun W hm => rv_field Try.underlying127 rfl Try.type125 (by decide) rfl rfl) ?_
  refine wv (fun W hm => rv_loadN (cs := [.int .i64 x0.Query.Id, .int .i64 x0.Query.Tenant, .slice A10 x0.Query.Conds.length c11, .slice A15 x0.Query.Out.length c16]) Try.underlying125 Try.type125 rfl rfl (hm.boxPart (n := 1) rfl rfl)) ?_
  refine wv (fun W hm => rv_field Try.underlying127 rfl Try.type125 (by decide) rfl rfl) ?_
  refine wv (fun W hm => rv_loadN (cs := [.int .i64 x1.Query.Id, .int .i64 x1.Query.Tenant, .slice A38 x1.Query.Conds.length c39, .slice A43 x1.Query.Out.length c44]) Try.underlying125 Try.type125 rfl rfl (hm.boxPart (n := 0) rfl rfl)) ?_
  refine WM_callV (cl_fn cb203 rfl) (fun W hm => laws_eqQuery_c W _ x0.Query _ x1.Query (tyQuery_mk (x := x0.Query) (hm.rdS0 r13) (hm.rdS0 r18)) (tyQuery_mk (x := x1.Query) (hm.rdS0 r41) (hm.rdS0 r46))) (Wd_none rfl) (by decide) ?_
  refine wv (fun W hm => rv_not rfl) ?_
  refine nt' ?_
  rcases Bool.eq_false_or_eq_true (laws_eqQuery_m x0.Query x1.Query) with g60 | g60
  ·
    refine CM_condF rfl (nt g60) ?_
    refine CM_skip ?_
    refine QM_then ?_
    refine CM_seq ?_
    refine sr ?_
    refine wv (fun W hm => rv_field Try.underlying127 rfl Try.type3 (by decide) rfl rfl) ?_
    refine wv (fun W hm => rv_load Try.underlying3 rfl rfl (hm.boxCell (n := 1) (o := 4) rfl rfl)) ?_
    refine wv (fun W hm => rv_field Try.underlying127 rfl Try.type3 (by decide) rfl rfl) ?_
    refine wv (fun W hm => rv_load Try.underlying3 rfl rfl (hm.boxCell (n := 0) (o := 4) rfl rfl)) ?_
    refine wv (fun W hm => rv_neq rfl rfl) ?_
    refine nt' ?_
    by_cases h61 : x0.Time = x1.Time
    · have g62 : (x0.Time != x1.Time) = false := by rw [h61]; exact bne_self_eq_false _
      refine CM_condF rfl g62 ?_
      refine CM_skip ?_
      refine QM_then ?_
      refine CM_seq ?_
      refine sr ?_
      refine wv (fun W hm => rv_field Try.underlying127 rfl Try.type27 (by decide) rfl rfl) ?_
      refine wv (fun W hm => rv_load Try.underlying27 rfl rfl (hm.boxCell (n := 1) (o := 5) rfl rfl)) ?_
      refine wv (fun W hm => rv_field Try.underlying127 rfl Try.type27 (by decide) rfl rfl) ?_
      refine wv (fun W hm => rv_load Try.underlying27 rfl rfl (hm.boxCell (n := 0) (o := 5) rfl rfl)) ?_
      refine WM_callV (cl_fn cb67 rfl) (fun W hm => laws_eqIntS_c W _ x0.Todo _ x1.Todo (hm.rdS0 r23) (hm.rdS0 r51)) (Wd_none rfl) (by decide) ?_
      refine wv (fun W hm => rv_not rfl) ?_
      refine nt' ?_
      rcases Bool.eq_false_or_eq_true (laws_eqIntS_m x0.Todo x1.Todo) with g64 | g64
      ·
        refine CM_condF rfl (nt g64) ?_
        refine CM_skip ?_
        refine QM_then ?_
        refine CM_seq ?_
        refine sr ?_
        refine wv (fun W hm => rv_field Try.underlying127 rfl Try.type3 (by decide) rfl rfl) ?_
        refine wv (fun W hm => rv_load Try.underlying3 rfl rfl (hm.boxCell (n := 1) (o := 6) rfl rfl)) ?_
        refine wv (fun W hm => rv_field Try.underlying127 rfl Try.type3 (by decide) rfl rfl) ?_
        refine wv (fun W hm => rv_load Try.underlying3 rfl rfl (hm.boxCell (n := 0) (o := 6) rfl rfl)) ?_
        refine wv (fun W hm => rv_neq rfl rfl) ?_
        refine nt' ?_
        by_cases h65 : x0.Age = x1.Age
        · have g66 : (x0.Age != x1.Age) = false := by rw [h65]; exact bne_self_eq_false _
          refine CM_condF rfl g66 ?_
          refine CM_skip ?_
          refine QM_then ?_
          refine CM_seq ?_
          refine sr ?_
          refine wv (fun W hm => rv_field Try.underlying127 rfl Try.type3 (by decide) rfl rfl) ?_
          refine wv (fun W hm => rv_load Try.underlying3 rfl rfl (hm.boxCell (n := 1) (o := 7) rfl rfl)) ?_
          refine wv (fun W hm => rv_field Try.underlying127 rfl Try.type3 (by decide) rfl rfl) ?_
          refine wv (fun W hm => rv_load Try.underlying3 rfl rfl (hm.boxCell (n := 0) (o := 7) rfl rfl)) ?_
          refine wv (fun W hm => rv_neq rfl rfl) ?_
          refine nt' ?_
          by_cases h67 : x0.Sent = x1.Sent
          · have g68 : (x0.Sent != x1.Sent) = false := by rw [h67]; exact bne_self_eq_false _
            refine CM_condF rfl g68 ?_
            refine CM_skip ?_
            refine QM_then ?_
            refine CM_seq ?_
            refine sr ?_
            refine wv (fun W hm => rv_field Try.underlying127 rfl Try.type3 (by decide) rfl rfl) ?_
            refine wv (fun W hm => rv_load Try.underlying3 rfl rfl (hm.boxCell (n := 1) (o := 8) rfl rfl)) ?_
            refine wv (fun W hm => rv_field Try.underlying127 rfl Try.type3 (by decide) rfl rfl) ?_
            refine wv (fun W hm => rv_load Try.underlying3 rfl rfl (hm.boxCell (n := 0) (o := 8) rfl rfl)) ?_
            refine wv (fun W hm => rv_neq rfl rfl) ?_
            refine nt' ?_
            by_cases h69 : x0.Cap = x1.Cap
            · have g70 : (x0.Cap != x1.Cap) = false := by rw [h69]; exact bne_self_eq_false _
              refine CM_condF rfl g70 ?_
              refine CM_skip ?_
              refine QM_then ?_
              refine CM_seq ?_
              refine sr ?_
              refine wv (fun W hm => rv_field Try.underlying127 rfl Try.type39 (by decide) rfl rfl) ?_
              refine wv (fun W hm => rv_load Try.underlying39 rfl rfl (hm.boxCell (n := 1) (o := 9) rfl rfl)) ?_
              refine wv (fun W hm => rv_field Try.underlying127 rfl Try.type39 (by decide) rfl rfl) ?_
              refine wv (fun W hm => rv_load Try.underlying39 rfl rfl (hm.boxCell (n := 0) (o := 9) rfl rfl)) ?_
              refine WM_callV (cl_fn cb204 rfl) (fun W hm => laws_eqRowS_c W _ x0.Rows _ x1.Rows (hm.rdS0 r28) (hm.rdS0 r56)) (Wd_none rfl) (by decide) ?_
              refine wv (fun W hm => rv_not rfl) ?_
              refine nt' ?_
              rcases Bool.eq_false_or_eq_true (laws_eqRowS_m x0.Rows x1.Rows) with g72 | g72
              ·
                refine CM_condF rfl (nt g72) ?_
                refine CM_skip ?_
                refine QM_then ?_
                refine sr ?_
                refine wa ?_
                refine nt' ?_
                refine CM_ret ?_
                exact QM_ret1 rfl rfl (fun W hm => ⟨ret_b (show laws_eqActive_m x0 x1 = true from by unfold laws_eqActive_m; exact cond_t g60 (cond_f g62 (cond_t g64 (cond_f g66 (cond_f g68 (cond_f g70 (cond_t g72 (rfl)))))))), hm.below⟩)
              ·
                refine CM_condT rfl (nf g72) ?_
                refine sr ?_
                refine wa ?_
                refine nt' ?_
                refine CM_ret ?_
                refine QM_then_ret ?_
                exact QM_ret1 rfl rfl (fun W hm => ⟨ret_b (show laws_eqActive_m x0 x1 = false from by unfold laws_eqActive_m; exact cond_t g60 (cond_f g62 (cond_t g64 (cond_f g66 (cond_f g68 (cond_f g70 (cond_f g72 (rfl)))))))), hm.below⟩)
            · have g70 : (x0.Cap != x1.Cap) = true := bne_iff_ne.2 h69
              refine CM_condT rfl g70 ?_
              refine sr ?_
              refine wa ?_
              refine nt' ?_
              refine CM_ret ?_
              refine QM_then_ret ?_
              exact QM_ret1 rfl rfl (fun W hm => ⟨ret_b (show laws_eqActive_m x0 x1 = false from by unfold laws_eqActive_m; exact cond_t g60 (cond_f g62 (cond_t g64 (cond_f g66 (cond_f g68 (cond_t g70 (rfl))))))), hm.below⟩)
          · have g68 : (x0.Sent != x1.Sent) = true := bne_iff_ne.2 h67
            refine CM_condT rfl g68 ?_
            refine sr ?_
            refine wa ?_
            refine nt' ?_
            refine CM_ret ?_
            refine QM_then_ret ?_
            exact QM_ret1 rfl rfl (fun W hm => ⟨ret_b (show laws_eqActive_m x0 x1 = false from by unfold laws_eqActive_m; exact cond_t g60 (cond_f g62 (cond_t g64 (cond_f g66 (cond_t g68 (rfl)))))), hm.below⟩)
        · have g66 : (x0.Age != x1.Age) = true := bne_iff_ne.2 h65
          refine CM_condT rfl g66 ?_
          refine sr ?_
          refine wa ?_
          refine nt' ?_
          refine CM_ret ?_
          refine QM_then_ret ?_
          exact QM_ret1 rfl rfl (fun W hm => ⟨ret_b (show laws_eqActive_m x0 x1 = false from by unfold laws_eqActive_m; exact cond_t g60 (cond_f g62 (cond_t g64 (cond_t g66 (rfl))))), hm.below⟩)
      ·
        refine CM_condT rfl (nf g64) ?_
        refine sr ?_
        refine wa ?_
        refine nt' ?_
        refine CM_ret ?_
        refine QM_then_ret ?_
        exact QM_ret1 rfl rfl (fun W hm => ⟨ret_b (show laws_eqActive_m x0 x1 = false from by unfold laws_eqActive_m; exact cond_t g60 (cond_f g62 (cond_f g64 (rfl)))), hm.below⟩)
    · have g62 : (x0.Time != x1.Time) = true := bne_iff_ne.2 h61
      refine CM_condT rfl g62 ?_
      refine sr ?_
      refine wa ?_
      refine nt' ?_
      refine CM_ret ?_
      refine QM_then_ret ?_
      exact QM_ret1 rfl rfl (fun W hm => ⟨ret_b (show laws_eqActive_m x0 x1 = false from by unfold laws_eqActive_m; exact cond_t g60 (cond_t g62 (rfl))), hm.below⟩)
  ·
    refine CM_condT rfl (nf g60) ?_
    refine sr ?_
    refine wa ?_
    refine nt' ?_
    refine CM_ret ?_
    refine QM_then_ret ?_
    exact QM_ret1 rfl rfl (fun W hm => ⟨ret_b (show laws_eqActive_m x0 x1 = false from by unfold laws_eqActive_m; exact cond_f g60 (rfl)), hm.below⟩)

def laws_eqActiveS_b1 (x0 : (List DActive)) (x1 : (List DActive)) (k13 : Nat) : Bool ⊕ (Unit) :=
  cond (laws_eqActive_m (gt x0 k13) (gt x1 k13)) (Sum.inr ()) (Sum.inl false)
def laws_eqActiveS_m (x0 : (List DActive)) (x1 : (List DActive)) : Bool :=
  cond (((x0.length : Nat) : Int) != ((x1.length : Nat) : Int)) false (Sum.elim id (fun (s : Unit) => true) (rng (R := Bool) (fun k (_ : Unit) => laws_eqActiveS_b1 x0 x1 k) (x0.length - 0) 0 ()))
set_option maxRecDepth 100000 in
theorem cb113 : Cb Try.prog 113 := ⟨Try.f113, _, Try.func113, rfl, by decide⟩
set_option maxRecDepth 10000 in
set_option maxHeartbeats 4000000 in
theorem laws_eqActiveS_c (w : World) (z0 : Value) (x0 : (List DActive)) (z1 : Value) (x1 : (List DActive)) (r_0 : rdS tyActive w w.heap.size z0 x0) (r_1 : rdS tyActive w w.heap.size z1 x1) :
    Calls Try.prog 113 #[z0, z1] w fun e w' => e = .returned (.bool (laws_eqActiveS_m x0 x1)) ∧ Below w.heap.size w w' := by
  have r5 := r_0
  obtain ⟨m1, A2, c3, rfl, q4⟩ := r_0
  have r10 := r_1
  obtain ⟨m6, A7, c8, rfl, q9⟩ := r_1
  refine call_enterM (L := [(0, .slice A2 x0.length c3), (1, .slice A7 x1.length c8)]) (N := 27) Try.func113 rfl rfl (Nat.le_of_ble_eq_true rfl) (argsL_cons rfl (argsL_cons rfl argsL_nil)) ?_
  refine sr ?_
  refine wa ?_
  refine nt' ?_
  refine CM_seq ?_
  refine sr ?_
  refine wm ?_
  refine wv (fun W hm => rv_len Try.underlying73 rfl) ?_
  refine wm ?_
  refine wv (fun W hm => rv_len Try.underlying73 rfl) ?_
  refine wv (fun W hm => rv_neq rfl rfl) ?_
  refine nt' ?_
  by_cases h11 : ((x0.length : Nat) : Int) = ((x1.length : Nat) : Int)
  · have g12 : (((x0.length : Nat) : Int) != ((x1.length : Nat) : Int)) = false := by rw [h11]; exact bne_self_eq_false _
    refine CM_condF rfl g12 ?_
    refine CM_skip ?_
    refine QM_then ?_
    refine CM_seq ?_
    refine sr ?_
    refine wa ?_
    refine nt' ?_
    refine CM_block ?_
    refine CM_loop (σ := Nat × (Unit) × (Unit)) (fun s => [(0, .slice A2 x0.length c3), (1, .slice A7 x1.length c8), (5, .int .i64 ((s.1 : Nat) : Int))]) (fun s => []) (fun s => s.1 ≤ x0.length ∧ rng (R := Bool) (fun k (_ : Unit) => laws_eqActiveS_b1 x0 x1 k) (x0.length - s.1) s.1 s.2.1 = rng (R := Bool) (fun k (_ : Unit) => laws_eqActiveS_b1 x0 x1 k) (x0.length - 0) 0 ()) (fun s => x0.length - s.1) (0, (), ()) (subL_cons rfl (subL_cons rfl (subL_cons rfl subL_nil))) (fun W hm => hm) ⟨(by omega), rfl⟩ ?_
    rintro ⟨k13, ⟨⟩, ⟨⟩⟩ H16
    obtain ⟨hk14, hF15⟩ : k13 ≤ x0.length ∧ rng (R := Bool) (fun k (_ : Unit) => laws_eqActiveS_b1 x0 x1 k) (x0.length - k13) k13 () = rng (R := Bool) (fun k (_ : Unit) => laws_eqActiveS_b1 x0 x1 k) (x0.length - 0) 0 () := H16
    show CM Try.prog 27 _ _ _ _ [(0, .slice A2 x0.length c3), (1, .slice A7 x1.length c8), (5, .int .i64 ((k13 : Nat) : Int))] []
    refine CM_seq ?_
    refine sr ?_
    refine wm ?_
    refine wm ?_
    refine wv (fun W hm => rv_len Try.underlying73 rfl) ?_
    refine wv (fun W hm => rv_lss rfl rfl) ?_
    refine nt' ?_
    by_cases hl17 : k13 < x0.length
    · have g18 : (decide (((k13 : Nat) : Int) < ((x0.length : Nat) : Int))) = true := decide_eq_true (by omega)
      refine CM_condT rfl g18 ?_
      refine CM_skip ?_
      refine QM_then ?_
      refine CM_seq ?_
      refine CM_block ?_
      refine CM_seq ?_
      refine CM_regionD (by kernel_rfl) (by kernel_rfl) ?_
      refine qm ?_
      refine qm ?_
      obtain ⟨a19, rfl, hb20, he21⟩ := q4 (by omega)
      refine qv (fun W hm => rv_index (sz := 10) (k := k13) Try.underlying73 Try.type127 rfl rfl rfl (by omega)) ?_
      obtain ⟨_, e31, hc22⟩ := he21 k13 _ (gt_some (show k13 < x0.length from by omega))
      obtain ⟨v23, v25, v27, v29, rfl, r24, r26, r28, r30⟩ := tyActive_rd e31
      have r36 := r24
      obtain ⟨m32, A33, c34, rfl, q35⟩ := r24
      have r41 := r26
      obtain ⟨m37, A38, c39, rfl, q40⟩ := r26
      have r46 := r28
      obtain ⟨m42, A43, c44, rfl, q45⟩ := r28
      have r51 := r30
      obtain ⟨m47, A48, c49, rfl, q50⟩ := r30
      refine qv (fun W hm => rv_loadN (cs := [.int .i64 ((gt x0 k13).Query.Id), .int .i64 ((gt x0 k13).Query.Tenant), .slice A33 ((gt x0 k13).Query.Conds).length c34, .slice A38 ((gt x0 k13).Query.Out).length c39, .int .i64 ((gt x0 k13).Time), .slice A43 ((gt x0 k13).Todo).length c44, .int .i64 ((gt x0 k13).Age), .int .i64 ((gt x0 k13).Sent), .int .i64 ((gt x0 k13).Cap), .slice A48 ((gt x0 k13).Rows).length c49]) Try.underlying127 Try.type127 rfl rfl (hm.elCells (show (a19.add (k13 * 10)).block < w.heap.size from by rw [add_block]; exact hb20.1) hc22)) ?_
      refine qm ?_
      refine qm ?_
      obtain ⟨a52, rfl, hb53, he54⟩ := q9 (by omega)
      refine qv (fun W hm => rv_index (sz := 10) (k := k13) Try.underlying73 Try.type127 rfl rfl rfl (by omega)) ?_
      obtain ⟨_, e64, hc55⟩ := he54 k13 _ (gt_some (show k13 < x1.length from by omega))
      obtain ⟨v56, v58, v60, v62, rfl, r57, r59, r61, r63⟩ := tyActive_rd e64
      have r69 := r57
      obtain ⟨m65, A66, c67, rfl, q68⟩ := r57
      have r74 := r59
      obtain ⟨m70, A71, c72, rfl, q73⟩ := r59
      have r79 := r61
      obtain ⟨m75, A76, c77, rfl, q78⟩ := r61
      have r84 := r63
      obtain ⟨m80, A81, c82, rfl, q83⟩ := r63
      refine qv (fun W hm => rv_loadN (cs := [.int .i64 ((gt x1 k13).Query.Id), .int .i64 ((gt x1 k13).Query.Tenant), .slice A66 ((gt x1 k13).Query.Conds).length c67, .slice A71 ((gt x1 k13).Query.Out).length c72, .int .i64 ((gt x1 k13).Time), .slice A76 ((gt x1 k13).Todo).length c77, .int .i64 ((gt x1 k13).Age), .int .i64 ((gt x1 k13).Sent), .int .i64 ((gt x1 k13).Cap), .slice A81 ((gt x1 k13).Rows).length c82]) Try.underlying127 Try.type127 rfl rfl (hm.elCells (show (a52.add (k13 * 10)).block < w.heap.size from by rw [add_block]; exact hb53.1) hc55)) ?_
      refine QR_callV (cl_fn cb171 rfl) (fun W hm => laws_eqActive_c W _ (gt x0 k13) _ (gt x1 k13) (tyActive_mk (x := (gt x0 k13)) (hm.rdS0 r36) (hm.rdS0 r41) (hm.rdS0 r46) (hm.rdS0 r51)) (tyActive_mk (x := (gt x1 k13)) (hm.rdS0 r69) (hm.rdS0 r74) (hm.rdS0 r79) (hm.rdS0 r84))) (Wd_none rfl) (by decide) ?_
      refine qv (fun W hm => rv_not rfl) ?_
      refine nq' ?_
      rcases Bool.eq_false_or_eq_true (laws_eqActive_m (gt x0 k13) (gt x1 k13)) with g86 | g86
      ·
        refine CM_condF rfl (nt g86) ?_
        refine CM_skip ?_
        refine QM_block_normal ?_
        refine QM_then ?_
        refine CM_region ?_
        refine wm ?_
        refine wv (fun W hm => rv_addN (p := k13) (q := 1) rfl rfl (by omega)) ?_
        refine wa ?_
        refine WM_nil ?_
        have hn87 := rng_next (R := Bool) (body := (fun k (_ : Unit) => laws_eqActiveS_b1 x0 x1 k)) (k := k13) (s := ()) (s' := ()) (show k13 < x0.length from by omega) (show laws_eqActiveS_b1 x0 x1 k13 = Sum.inr () from by unfold laws_eqActiveS_b1; exact cond_t g86 (rfl)) hF15
        exact QM_round (k13 + 1, (), ()) (subL_cons rfl (subL_cons rfl (subL_cons rfl subL_nil))) (fun W hm => hm) ⟨(by omega), hn87⟩ (show x0.length - (k13 + 1) < x0.length - k13 from by omega)
      ·
        refine CM_condT rfl (nf g86) ?_
        refine sr ?_
        refine wa ?_
        refine nt' ?_
        refine CM_ret ?_
        refine QM_block_ret ?_
        refine QM_then_ret ?_
        refine QM_then_ret ?_
        refine QM_block_ret ?_
        refine QM_then_ret ?_
        exact QM_ret1 rfl rfl (fun W hm => ⟨ret_b (show laws_eqActiveS_m x0 x1 = false from by unfold laws_eqActiveS_m; exact cond_f g12 (fin_inl (rng_ret (body := (fun k (_ : Unit) => laws_eqActiveS_b1 x0 x1 k)) (k := k13) (s := ()) (show k13 < x0.length from by omega) (show laws_eqActiveS_b1 x0 x1 k13 = Sum.inl false from by unfold laws_eqActiveS_b1; exact cond_f g86 (rfl)) hF15) rfl)), hm.below⟩)
    · have g18 : (decide (((k13 : Nat) : Int) < ((x0.length : Nat) : Int))) = false := decide_eq_false (by omega)
      refine CM_condF rfl g18 ?_
      refine CM_exit ?_
      refine QM_then_exit ?_
      refine QM_then_exit ?_
      have hE88 : rng (R := Bool) (fun k (_ : Unit) => laws_eqActiveS_b1 x0 x1 k) (x0.length - 0) 0 () = Sum.inr () := rng_end hl17 hF15
      refine QM_block_hit ?_
      refine QM_then ?_
      refine sr ?_
      refine wa ?_
      refine nt' ?_
      refine CM_ret ?_
      exact QM_ret1 rfl rfl (fun W hm => ⟨ret_b (show laws_eqActiveS_m x0 x1 = true from by unfold laws_eqActiveS_m; exact cond_f g12 (fin_inr hE88 (rfl))), hm.below⟩)
  · have g12 : (((x0.length : Nat) : Int) != ((x1.length : Nat) : Int)) = true := bne_iff_ne.2 h11
    refine CM_condT rfl g12 ?_
    refine sr ?_
    refine wa ?_
    refine nt' ?_
    refine CM_ret ?_
    refine QM_then_ret ?_
    exact QM_ret1 rfl rfl (fun W hm => ⟨ret_b (show laws_eqActiveS_m x0 x1 = false from by unfold laws_eqActiveS_m; exact cond_t g12 (rfl)), hm.below⟩)

def laws_eqFinished_m (x0 : DFinished) (x1 : DFinished) : Bool :=
  cond (laws_eqQuery_m x0.Query x1.Query) (cond (x0.Time != x1.Time) false (cond (x0.Steps != x1.Steps) false (cond (laws_eqRowS_m x0.Rows x1.Rows) true false))) false
set_option maxRecDepth 100000 in
theorem cb172 : Cb Try.prog 172 := ⟨Try.f172, _, Try.func172, rfl, by decide⟩
set_option maxRecDepth 10000 in
set_option maxHeartbeats 4000000 in
theorem laws_eqFinished_c (w : World) (z0 : List Value) (x0 : DFinished) (z1 : List Value) (x1 : DFinished) (r_0 : tyFinished.rd w w.heap.size z0 x0) (r_1 : tyFinished.rd w w.heap.size z1 x1) :
    Calls Try.prog 172 #[.agg z0.toArray, .agg z1.toArray] w fun e w' => e = .returned (.bool (laws_eqFinished_m x0 x1)) ∧ Below w.heap.size w w' := by
  obtain ⟨v1, v3, v5, rfl, r2, r4, r6⟩ := tyFinished_rd r_0
  have r11 := r2
  obtain ⟨m7, A8, c9, rfl, q10⟩ := r2
  have r16 := r4
  obtain ⟨m12, A13, c14, rfl, q15⟩ := r4
  have r21 := r6
  obtain ⟨m17, A18, c19, rfl, q20⟩ := r6
  obtain ⟨v22, v24, v26, rfl, r23, r25, r27⟩ := tyFinished_rd r_1
  have r32 := r23
  obtain ⟨m28, A29, c30, rfl, q31⟩ := r23
  have r37 := r25
  obtain ⟨m33, A34, c35, rfl, q36⟩ := r25
  have r42 := r27
  obtain ⟨m38, A39, c40, rfl, q41⟩ := r27
  refine call_enterM (L := [(0, .agg #[.int .i64 x0.Query.Id, .int .i64 x0.Query.Tenant, .slice A8 x0.Query.Conds.length c9, .slice A13 x0.Query.Out.length c14, .int .i64 x0.Time, .int .i64 x0.Steps, .slice A18 x0.Rows.length c19]), (1, .agg #[.int .i64 x1.Query.Id, .int .i64 x1.Query.Tenant, .slice A29 x1.Query.Conds.length c30, .slice A34 x1.Query.Out.length c35, .int .i64 x1.Time, .int .i64 x1.Steps, .slice A39 x1.Rows.length c40])]) (N := 27) Try.func172 rfl rfl (Nat.le_of_ble_eq_true rfl) (argsL_cons rfl (argsL_cons rfl argsL_nil)) ?_
  refine sr ?_
  refine WM_box rfl (Wd_none rfl) (by decide) (fun p43 => ?_)
  refine WM_box rfl (Wd_none rfl) (by decide) (fun p44 => ?_)
  refine wa ?_
  refine nt' ?_
  refine CM_seq ?_
  refine sr ?_
  refine wv (fun W hm => rv_field Try.underlying136 rfl Try.type125 (by decide) rfl rfl) ?_
  refine wv (fun W hm => rv_loadN (cs := [.int .i64 x0.Query.Id, .int .i64 x0.Query.Tenant, .slice A8 x0.Query.Conds.length c9, .slice A13 x0.Query.Out.length c14]) Try.underlying125 Try.type125 rfl rfl (hm.boxPart (n := 1) rfl rfl)) ?_
  refine wv (fun W hm => rv_field Try.underlying136 rfl Try.type125 (by decide) rfl rfl) ?_
  refine wv (fun W hm => rv_loadN (cs := [.int .i64 x1.Query.Id, .int .i64 x1.Query.Tenant, .slice A29 x1.Query.Conds.length c30, .slice A34 x1.Query.Out.length c35]) Try.underlying125 Try.type125 rfl rfl (hm.boxPart (n := 0) rfl rfl)) ?_
  refine WM_callV (cl_fn cb203 rfl) (fun W hm => laws_eqQuery_c W _ x0.Query _ x1.Query (tyQuery_mk (x := x0.Query) (hm.rdS0 r11) (hm.rdS0 r16)) (tyQuery_mk (x := x1.Query) (hm.rdS0 r32) (hm.rdS0 r37))) (Wd_none rfl) (by decide) ?_
  refine wv (fun W hm => rv_not rfl) ?_
  refine nt' ?_
  rcases Bool.eq_false_or_eq_true (laws_eqQuery_m x0.Query x1.Query) with g46 | g46
  ·
    refine CM_condF rfl (nt g46) ?_
    refine CM_skip ?_
    refine QM_then ?_
    refine CM_seq ?_
    refine sr ?_
    refine wv (fun W hm => rv_field Try.underlying136 rfl Try.type3 (by decide) rfl rfl) ?_
    refine wv (fun W hm => rv_load Try.underlying3 rfl rfl (hm.boxCell (n := 1) (o := 4) rfl rfl)) ?_
    refine wv (fun W hm => rv_field Try.underlying136 rfl Try.type3 (by decide) rfl rfl) ?_
    refine wv (fun W hm => rv_load Try.underlying3 rfl rfl (hm.boxCell (n := 0) (o := 4) rfl rfl)) ?_
    refine wv (fun W hm => rv_neq rfl rfl) ?_
    refine nt' ?_
    by_cases h47 : x0.Time = x1.Time
    · have g48 : (x0.Time != x1.Time) = false := by rw [h47]; exact bne_self_eq_false _
      refine CM_condF rfl g48 ?_
      refine CM_skip ?_
      refine QM_then ?_
      refine CM_seq ?_
      refine sr ?_
      refine wv (fun W hm => rv_field Try.underlying136 rfl Try.type3 (by decide) rfl rfl) ?_
      refine wv (fun W hm => rv_load Try.underlying3 rfl rfl (hm.boxCell (n := 1) (o := 5) rfl rfl)) ?_
      refine wv (fun W hm => rv_field Try.underlying136 rfl Try.type3 (by decide) rfl rfl) ?_
      refine wv (fun W hm => rv_load Try.underlying3 rfl rfl (hm.boxCell (n := 0) (o := 5) rfl rfl)) ?_
      refine wv (fun W hm => rv_neq rfl rfl) ?_
      refine nt' ?_
      by_cases h49 : x0.Steps = x1.Steps
      · have g50 : (x0.Steps != x1.Steps) = false := by rw [h49]; exact bne_self_eq_false _
        refine CM_condF rfl g50 ?_
        refine CM_skip ?_
        refine QM_then ?_
        refine CM_seq ?_
        refine sr ?_
        refine wv (fun W hm => rv_field Try.underlying136 rfl Try.type39 (by decide) rfl rfl) ?_
        refine wv (fun W hm => rv_load Try.underlying39 rfl rfl (hm.boxCell (n := 1) (o := 6) rfl rfl)) ?_
        refine wv (fun W hm => rv_field Try.underlying136 rfl Try.type39 (by decide) rfl rfl) ?_
        refine wv (fun W hm => rv_load Try.underlying39 rfl rfl (hm.boxCell (n := 0) (o := 6) rfl rfl)) ?_
        refine WM_callV (cl_fn cb204 rfl) (fun W hm => laws_eqRowS_c W _ x0.Rows _ x1.Rows (hm.rdS0 r21) (hm.rdS0 r42)) (Wd_none rfl) (by decide) ?_
        refine wv (fun W hm => rv_not rfl) ?_
        refine nt' ?_
        rcases Bool.eq_false_or_eq_true (laws_eqRowS_m x0.Rows x1.Rows) with g52 | g52
        ·
          refine CM_condF rfl (nt g52) ?_
          refine CM_skip ?_
          refine QM_then ?_
          refine sr ?_
          refine wa ?_
          refine nt' ?_
          refine CM_ret ?_
          exact QM_ret1 rfl rfl (fun W hm => ⟨ret_b (show laws_eqFinished_m x0 x1 = true from by unfold laws_eqFinished_m; exact cond_t g46 (cond_f g48 (cond_f g50 (cond_t g52 (rfl))))), hm.below⟩)
        ·
          refine CM_condT rfl (nf g52) ?_
          refine sr ?_
          refine wa ?_
          refine nt' ?_
          refine CM_ret ?_
          refine QM_then_ret ?_
          exact QM_ret1 rfl rfl (fun W hm => ⟨ret_b (show laws_eqFinished_m x0 x1 = false from by unfold laws_eqFinished_m; exact cond_t g46 (cond_f g48 (cond_f g50 (cond_f g52 (rfl))))), hm.below⟩)
      · have g50 : (x0.Steps != x1.Steps) = true := bne_iff_ne.2 h49
        refine CM_condT rfl g50 ?_
        refine sr ?_
        refine wa ?_
        refine nt' ?_
        refine CM_ret ?_
        refine QM_then_ret ?_
        exact QM_ret1 rfl rfl (fun W hm => ⟨ret_b (show laws_eqFinished_m x0 x1 = false from by unfold laws_eqFinished_m; exact cond_t g46 (cond_f g48 (cond_t g50 (rfl)))), hm.below⟩)
    · have g48 : (x0.Time != x1.Time) = true := bne_iff_ne.2 h47
      refine CM_condT rfl g48 ?_
      refine sr ?_
      refine wa ?_
      refine nt' ?_
      refine CM_ret ?_
      refine QM_then_ret ?_
      exact QM_ret1 rfl rfl (fun W hm => ⟨ret_b (show laws_eqFinished_m x0 x1 = false from by unfold laws_eqFinished_m; exact cond_t g46 (cond_t g48 (rfl))), hm.below⟩)
  ·
    refine CM_condT rfl (nf g46) ?_
    refine sr ?_
    refine wa ?_
    refine nt' ?_
    refine CM_ret ?_
    refine QM_then_ret ?_
    exact QM_ret1 rfl rfl (fun W hm => ⟨ret_b (show laws_eqFinished_m x0 x1 = false from by unfold laws_eqFinished_m; exact cond_f g46 (rfl)), hm.below⟩)

def laws_eqFinishedS_b1 (x0 : (List DFinished)) (x1 : (List DFinished)) (k13 : Nat) : Bool ⊕ (Unit) :=
  cond (laws_eqFinished_m (gt x0 k13) (gt x1 k13)) (Sum.inr ()) (Sum.inl false)
def laws_eqFinishedS_m (x0 : (List DFinished)) (x1 : (List DFinished)) : Bool :=
  cond (((x0.length : Nat) : Int) != ((x1.length : Nat) : Int)) false (Sum.elim id (fun (s : Unit) => true) (rng (R := Bool) (fun k (_ : Unit) => laws_eqFinishedS_b1 x0 x1 k) (x0.length - 0) 0 ()))
set_option maxRecDepth 100000 in
theorem cb114 : Cb Try.prog 114 := ⟨Try.f114, _, Try.func114, rfl, by decide⟩
set_option maxRecDepth 10000 in
set_option maxHeartbeats 4000000 in
theorem laws_eqFinishedS_c (w : World) (z0 : Value) (x0 : (List DFinished)) (z1 : Value) (x1 : (List DFinished)) (r_0 : rdS tyFinished w w.heap.size z0 x0) (r_1 : rdS tyFinished w w.heap.size z1 x1) :
    Calls Try.prog 114 #[z0, z1] w fun e w' => e = .returned (.bool (laws_eqFinishedS_m x0 x1)) ∧ Below w.heap.size w w' := by
  have r5 := r_0
  obtain ⟨m1, A2, c3, rfl, q4⟩ := r_0
  have r10 := r_1
  obtain ⟨m6, A7, c8, rfl, q9⟩ := r_1
  refine call_enterM (L := [(0, .slice A2 x0.length c3), (1, .slice A7 x1.length c8)]) (N := 27) Try.func114 rfl rfl (Nat.le_of_ble_eq_true rfl) (argsL_cons rfl (argsL_cons rfl argsL_nil)) ?_
  refine sr ?_
  refine wa ?_
  refine nt' ?_
  refine CM_seq ?_
  refine sr ?_
  refine wm ?_
  refine wv (fun W hm => rv_len Try.underlying74 rfl) ?_
  refine wm ?_
  refine wv (fun W hm => rv_len Try.underlying74 rfl) ?_
  refine wv (fun W hm => rv_neq rfl rfl) ?_
  refine nt' ?_
  by_cases h11 : ((x0.length : Nat) : Int) = ((x1.length : Nat) : Int)
  · have g12 : (((x0.length : Nat) : Int) != ((x1.length : Nat) : Int)) = false := by rw [h11]; exact bne_self_eq_false _
    refine CM_condF rfl g12 ?_
    refine CM_skip ?_
    refine QM_then ?_
    refine CM_seq ?_
    refine sr ?_
    refine wa ?_
    refine nt' ?_
    refine CM_block ?_
    refine CM_loop (σ := Nat × (Unit) × (Unit)) (fun s => [(0, .slice A2 x0.length c3), (1, .slice A7 x1.length c8), (5, .int .i64 ((s.1 : Nat) : Int))]) (fun s => []) (fun s => s.1 ≤ x0.length ∧ rng (R := Bool) (fun k (_ : Unit) => laws_eqFinishedS_b1 x0 x1 k) (x0.length - s.1) s.1 s.2.1 = rng (R := Bool) (fun k (_ : Unit) => laws_eqFinishedS_b1 x0 x1 k) (x0.length - 0) 0 ()) (fun s => x0.length - s.1) (0, (), ()) (subL_cons rfl (subL_cons rfl (subL_cons rfl subL_nil))) (fun W hm => hm) ⟨(by omega), rfl⟩ ?_
    rintro ⟨k13, ⟨⟩, ⟨⟩⟩ H16
    obtain ⟨hk14, hF15⟩ : k13 ≤ x0.length ∧ rng (R := Bool) (fun k (_ : Unit) => laws_eqFinishedS_b1 x0 x1 k) (x0.length - k13) k13 () = rng (R := Bool) (fun k (_ : Unit) => laws_eqFinishedS_b1 x0 x1 k) (x0.length - 0) 0 () := H16
    show CM Try.prog 27 _ _ _ _ [(0, .slice A2 x0.length c3), (1, .slice A7 x1.length c8), (5, .int .i64 ((k13 : Nat) : Int))] []
    refine CM_seq ?_
    refine sr ?_
    refine wm ?_
    refine wm ?_
    refine wv (fun W hm => rv_len Try.underlying74 rfl) ?_
    refine wv (fun W hm => rv_lss rfl rfl) ?_
    refine nt' ?_
    by_cases hl17 : k13 < x0.length
    · have g18 : (decide (((k13 : Nat) : Int) < ((x0.length : Nat) : Int))) = true := decide_eq_true (by omega)
      refine CM_condT rfl g18 ?_
      refine CM_skip ?_
      refine QM_then ?_
      refine CM_seq ?_
      refine CM_block ?_
      refine CM_seq ?_
      refine CM_regionD (by kernel_rfl) (by kernel_rfl) ?_
      refine qm ?_
      refine qm ?_
      obtain ⟨a19, rfl, hb20, he21⟩ := q4 (by omega)
      refine qv (fun W hm => rv_index (sz := 7) (k := k13) Try.underlying74 Try.type136 rfl rfl rfl (by omega)) ?_
      obtain ⟨_, e29, hc22⟩ := he21 k13 _ (gt_some (show k13 < x0.length from by omega))
      obtain ⟨v23, v25, v27, rfl, r24, r26, r28⟩ := tyFinished_rd e29
      have r34 := r24
      obtain ⟨m30, A31, c32, rfl, q33⟩ := r24
      have r39 := r26
      obtain ⟨m35, A36, c37, rfl, q38⟩ := r26
      have r44 := r28
      obtain ⟨m40, A41, c42, rfl, q43⟩ := r28
      refine qv (fun W hm => rv_loadN (cs := [.int .i64 ((gt x0 k13).Query.Id), .int .i64 ((gt x0 k13).Query.Tenant), .slice A31 ((gt x0 k13).Query.Conds).length c32, .slice A36 ((gt x0 k13).Query.Out).length c37, .int .i64 ((gt x0 k13).Time), .int .i64 ((gt x0 k13).Steps), .slice A41 ((gt x0 k13).Rows).length c42]) Try.underlying136 Try.type136 rfl rfl (hm.elCells (show (a19.add (k13 * 7)).block < w.heap.size from by rw [add_block]; exact hb20.1) hc22)) ?_
      refine qm ?_
      refine qm ?_
      obtain ⟨a45, rfl, hb46, he47⟩ := q9 (by omega)
      refine qv (fun W hm => rv_index (sz := 7) (k := k13) Try.underlying74 Try.type136 rfl rfl rfl (by omega)) ?_
      obtain ⟨_, e55, hc48⟩ := he47 k13 _ (gt_some (show k13 < x1.length from by omega))
      obtain ⟨v49, v51, v53, rfl, r50, r52, r54⟩ := tyFinished_rd e55
      have r60 := r50
      obtain ⟨m56, A57, c58, rfl, q59⟩ := r50
      have r65 := r52
      obtain ⟨m61, A62, c63, rfl, q64⟩ := r52
      have r70 := r54
      obtain ⟨m66, A67, c68, rfl, q69⟩ := r54
      refine qv (fun W hm => rv_loadN (cs := [.int .i64 ((gt x1 k13).Query.Id), .int .i64 ((gt x1 k13).Query.Tenant), .slice A57 ((gt x1 k13).Query.Conds).length c58, .slice A62 ((gt x1 k13).Query.Out).length c63, .int .i64 ((gt x1 k13).Time), .int .i64 ((gt x1 k13).Steps), .slice A67 ((gt x1 k13).Rows).length c68]) Try.underlying136 Try.type136 rfl rfl (hm.elCells (show (a45.add (k13 * 7)).block < w.heap.size from by rw [add_block]; exact hb46.1) hc48)) ?_
      refine QR_callV (cl_fn cb172 rfl) (fun W hm => laws_eqFinished_c W _ (gt x0 k13) _ (gt x1 k13) (tyFinished_mk (x := (gt x0 k13)) (hm.rdS0 r34) (hm.rdS0 r39) (hm.rdS0 r44)) (tyFinished_mk (x := (gt x1 k13)) (hm.rdS0 r60) (hm.rdS0 r65) (hm.rdS0 r70))) (Wd_none rfl) (by decide) ?_
      refine qv (fun W hm => rv_not rfl) ?_
      refine nq' ?_
      rcases Bool.eq_false_or_eq_true (laws_eqFinished_m (gt x0 k13) (gt x1 k13)) with g72 | g72
      ·
        refine CM_condF rfl (nt g72) ?_
        refine CM_skip ?_
        refine QM_block_normal ?_
        refine QM_then ?_
        refine CM_region ?_
        refine wm ?_
        refine wv (fun W hm => rv_addN (p := k13) (q := 1) rfl rfl (by omega)) ?_
        refine wa ?_
        refine WM_nil ?_
        have hn73 := rng_next (R := Bool) (body := (fun k (_ : Unit) => laws_eqFinishedS_b1 x0 x1 k)) (k := k13) (s := ()) (s' := ()) (show k13 < x0.length from by omega) (show laws_eqFinishedS_b1 x0 x1 k13 = Sum.inr () from by unfold laws_eqFinishedS_b1; exact cond_t g72 (rfl)) hF15
        exact QM_round (k13 + 1, (), ()) (subL_cons rfl (subL_cons rfl (subL_cons rfl subL_nil))) (fun W hm => hm) ⟨(by omega), hn73⟩ (show x0.length - (k13 + 1) < x0.length - k13 from by omega)
      ·
        refine CM_condT rfl (nf g72) ?_
        refine sr ?_
        refine wa ?_
        refine nt' ?_
        refine CM_ret ?_
        refine QM_block_ret ?_
        refine QM_then_ret ?_
        refine QM_then_ret ?_
        refine QM_block_ret ?_
        refine QM_then_ret ?_
        exact QM_ret1 rfl rfl (fun W hm => ⟨ret_b (show laws_eqFinishedS_m x0 x1 = false from by unfold laws_eqFinishedS_m; exact cond_f g12 (fin_inl (rng_ret (body := (fun k (_ : Unit) => laws_eqFinishedS_b1 x0 x1 k)) (k := k13) (s := ()) (show k13 < x0.length from by omega) (show laws_eqFinishedS_b1 x0 x1 k13 = Sum.inl false from by unfold laws_eqFinishedS_b1; exact cond_f g72 (rfl)) hF15) rfl)), hm.below⟩)
    · have g18 : (decide (((k13 : Nat) : Int) < ((x0.length : Nat) : Int))) = false := decide_eq_false (by omega)
      refine CM_condF rfl g18 ?_
      refine CM_exit ?_
      refine QM_then_exit ?_
      refine QM_then_exit ?_
      have hE74 : rng (R := Bool) (fun k (_ : Unit) => laws_eqFinishedS_b1 x0 x1 k) (x0.length - 0) 0 () = Sum.inr () := rng_end hl17 hF15
      refine QM_block_hit ?_
      refine QM_then ?_
      refine sr ?_
      refine wa ?_
      refine nt' ?_
      refine CM_ret ?_
      exact QM_ret1 rfl rfl (fun W hm => ⟨ret_b (show laws_eqFinishedS_m x0 x1 = true from by unfold laws_eqFinishedS_m; exact cond_f g12 (fin_inr hE74 (rfl))), hm.below⟩)
  · have g12 : (((x0.length : Nat) : Int) != ((x1.length : Nat) : Int)) = true := bne_iff_ne.2 h11
    refine CM_condT rfl g12 ?_
    refine sr ?_
    refine wa ?_
    refine nt' ?_
    refine CM_ret ?_
    refine QM_then_ret ?_
    exact QM_ret1 rfl rfl (fun W hm => ⟨ret_b (show laws_eqFinishedS_m x0 x1 = false from by unfold laws_eqFinishedS_m; exact cond_t g12 (rfl)), hm.below⟩)

def laws_eqCharge_m (x0 : DCharge) (x1 : DCharge) : Bool :=
  cond (x0.Segment != x1.Segment) false (cond (x0.Base != x1.Base) false (cond (laws_eqIntS_m x0.Ids x1.Ids) (cond (laws_eqIntS_m x0.Tenants x1.Tenants) (cond (laws_eqIntS_m x0.Rows x1.Rows) true false) false) false))
set_option maxRecDepth 100000 in
theorem cb173 : Cb Try.prog 173 := ⟨Try.f173, _, Try.func173, rfl, by decide⟩
set_option maxRecDepth 10000 in
set_option maxHeartbeats 4000000 in
theorem laws_eqCharge_c (w : World) (z0 : List Value) (x0 : DCharge) (z1 : List Value) (x1 : DCharge) (r_0 : tyCharge.rd w w.heap.size z0 x0) (r_1 : tyCharge.rd w w.heap.size z1 x1) :
    Calls Try.prog 173 #[.agg z0.toArray, .agg z1.toArray] w fun e w' => e = .returned (.bool (laws_eqCharge_m x0 x1)) ∧ Below w.heap.size w w' := by
  obtain ⟨v1, v3, v5, rfl, r2, r4, r6⟩ := tyCharge_rd r_0
  have r11 := r2
  obtain ⟨m7, A8, c9, rfl, q10⟩ := r2
  have r16 := r4
  obtain ⟨m12, A13, c14, rfl, q15⟩ := r4
  have r21 := r6
  obtain ⟨m17, A18, c19, rfl, q20⟩ := r6
  obtain ⟨v22, v24, v26, rfl, r23, r25, r27⟩ := tyCharge_rd r_1
  have r32 := r23
  obtain ⟨m28, A29, c30, rfl, q31⟩ := r23
  have r37 := r25
  obtain ⟨m33, A34, c35, rfl, q36⟩ := r25
  have r42 := r27
  obtain ⟨m38, A39, c40, rfl, q41⟩ := r27
  refine call_enterM (L := [(0, .agg #[.int .i64 x0.Segment, .int .i64 x0.Base, .slice A8 x0.Ids.length c9, .slice A13 x0.Tenants.length c14, .slice A18 x0.Rows.length c19]), (1, .agg #[.int .i64 x1.Segment, .int .i64 x1.Base, .slice A29 x1.Ids.length c30, .slice A34 x1.Tenants.length c35, .slice A39 x1.Rows.length c40])]) (N := 33) Try.func173 rfl rfl (Nat.le_of_ble_eq_true rfl) (argsL_cons rfl (argsL_cons rfl argsL_nil)) ?_
  refine sr ?_
  refine WM_box rfl (Wd_none rfl) (by decide) (fun p43 => ?_)
  refine WM_box rfl (Wd_none rfl) (by decide) (fun p44 => ?_)
  refine wa ?_
  refine nt' ?_
  refine CM_seq ?_
  refine sr ?_
  refine wv (fun W hm => rv_field Try.underlying140 rfl Try.type3 (by decide) rfl rfl) ?_
  refine wv (fun W hm => rv_load Try.underlying3 rfl rfl (hm.boxCell (n := 1) (o := 0) rfl rfl)) ?_
  refine wv (fun W hm => rv_field Try.underlying140 rfl Try.type3 (by decide) rfl rfl) ?_
  refine wv (fun W hm => rv_load Try.underlying3 rfl rfl (hm.boxCell (n := 0) (o := 0) rfl rfl)) ?_
  refine wv (fun W hm => rv_neq rfl rfl) ?_
  refine nt' ?_
  by_cases h45 : x0.Segment = x1.Segment
  · have g46 : (x0.Segment != x1.Segment) = false := by rw [h45]; exact bne_self_eq_false _
    refine CM_condF rfl g46 ?_
    refine CM_skip ?_
    refine QM_then ?_
    refine CM_seq ?_
    refine sr ?_
    refine wv (fun W hm => rv_field Try.underlying140 rfl Try.type3 (by decide) rfl rfl) ?_
    refine wv (fun W hm => rv_load Try.underlying3 rfl rfl (hm.boxCell (n := 1) (o := 1) rfl rfl)) ?_
    refine wv (fun W hm => rv_field Try.underlying140 rfl Try.type3 (by decide) rfl rfl) ?_
    refine wv (fun W hm => rv_load Try.underlying3 rfl rfl (hm.boxCell (n := 0) (o := 1) rfl rfl)) ?_
    refine wv (fun W hm => rv_neq rfl rfl) ?_
    refine nt' ?_
    by_cases h47 : x0.Base = x1.Base
    · have g48 : (x0.Base != x1.Base) = false := by rw [h47]; exact bne_self_eq_false _
      refine CM_condF rfl g48 ?_
      refine CM_skip ?_
      refine QM_then ?_
      refine CM_seq ?_
      refine sr ?_
      refine wv (fun W hm => rv_field Try.underlying140 rfl Try.type27 (by decide) rfl rfl) ?_
      refine wv (fun W hm => rv_load Try.underlying27 rfl rfl (hm.boxCell (n := 1) (o := 2) rfl rfl)) ?_
      refine wv (fun W hm => rv_field Try.underlying140 rfl Try.type27 (by decide) rfl rfl) ?_
      refine wv (fun W hm => rv_load Try.underlying27 rfl rfl (hm.boxCell (n := 0) (o := 2) rfl rfl)) ?_
      refine WM_callV (cl_fn cb67 rfl) (fun W hm => laws_eqIntS_c W _ x0.Ids _ x1.Ids (hm.rdS0 r11) (hm.rdS0 r32)) (Wd_none rfl) (by decide) ?_
      refine wv (fun W hm => rv_not rfl) ?_
      refine nt' ?_
      rcases Bool.eq_false_or_eq_true (laws_eqIntS_m x0.Ids x1.Ids) with g50 | g50
      ·
        refine CM_condF rfl (nt g50) ?_
        refine CM_skip ?_
        refine QM_then ?_
        refine CM_seq ?_
        refine sr ?_
        refine wv (fun W hm => rv_field Try.underlying140 rfl Try.type27 (by decide) rfl rfl) ?_
        refine wv (fun W hm => rv_load Try.underlying27 rfl rfl (hm.boxCell (n := 1) (o := 3) rfl rfl)) ?_
        refine wv (fun W hm => rv_field Try.underlying140 rfl Try.type27 (by decide) rfl rfl) ?_
        refine wv (fun W hm => rv_load Try.underlying27 rfl rfl (hm.boxCell (n := 0) (o := 3) rfl rfl)) ?_
        refine WM_callV (cl_fn cb67 rfl) (fun W hm => laws_eqIntS_c W _ x0.Tenants _ x1.Tenants (hm.rdS0 r16) (hm.rdS0 r37)) (Wd_none rfl) (by decide) ?_
        refine wv (fun W hm => rv_not rfl) ?_
        refine nt' ?_
        rcases Bool.eq_false_or_eq_true (laws_eqIntS_m x0.Tenants x1.Tenants) with g52 | g52
        ·
          refine CM_condF rfl (nt g52) ?_
          refine CM_skip ?_
          refine QM_then ?_
          refine CM_seq ?_
          refine sr ?_
          refine wv (fun W hm => rv_field Try.underlying140 rfl Try.type27 (by decide) rfl rfl) ?_
          refine wv (fun W hm => rv_load Try.underlying27 rfl rfl (hm.boxCell (n := 1) (o := 4) rfl rfl)) ?_
          refine wv (fun W hm => rv_field Try.underlying140 rfl Try.type27 (by decide) rfl rfl) ?_
          refine wv (fun W hm => rv_load Try.underlying27 rfl rfl (hm.boxCell (n := 0) (o := 4) rfl rfl)) ?_
          refine WM_callV (cl_fn cb67 rfl) (fun W hm => laws_eqIntS_c W _ x0.Rows _ x1.Rows (hm.rdS0 r21) (hm.rdS0 r42)) (Wd_none rfl) (by decide) ?_
          refine wv (fun W hm => rv_not rfl) ?_
          refine nt' ?_
          rcases Bool.eq_false_or_eq_true (laws_eqIntS_m x0.Rows x1.Rows) with g54 | g54
          ·
            refine CM_condF rfl (nt g54) ?_
            refine CM_skip ?_
            refine QM_then ?_
            refine sr ?_
            refine wa ?_
            refine nt' ?_
            refine CM_ret ?_
            exact QM_ret1 rfl rfl (fun W hm => ⟨ret_b (show laws_eqCharge_m x0 x1 = true from by unfold laws_eqCharge_m; exact cond_f g46 (cond_f g48 (cond_t g50 (cond_t g52 (cond_t g54 (rfl)))))), hm.below⟩)
          ·
            refine CM_condT rfl (nf g54) ?_
            refine sr ?_
            refine wa ?_
            refine nt' ?_
            refine CM_ret ?_
            refine QM_then_ret ?_
            exact QM_ret1 rfl rfl (fun W hm => ⟨ret_b (show laws_eqCharge_m x0 x1 = false from by unfold laws_eqCharge_m; exact cond_f g46 (cond_f g48 (cond_t g50 (cond_t g52 (cond_f g54 (rfl)))))), hm.below⟩)
        ·
          refine CM_condT rfl (nf g52) ?_
          refine sr ?_
          refine wa ?_
          refine nt' ?_
          refine CM_ret ?_
          refine QM_then_ret ?_
          exact QM_ret1 rfl rfl (fun W hm => ⟨ret_b (show laws_eqCharge_m x0 x1 = false from by unfold laws_eqCharge_m; exact cond_f g46 (cond_f g48 (cond_t g50 (cond_f g52 (rfl))))), hm.below⟩)
      ·
        refine CM_condT rfl (nf g50) ?_
        refine sr ?_
        refine wa ?_
        refine nt' ?_
        refine CM_ret ?_
        refine QM_then_ret ?_
        exact QM_ret1 rfl rfl (fun W hm => ⟨ret_b (show laws_eqCharge_m x0 x1 = false from by unfold laws_eqCharge_m; exact cond_f g46 (cond_f g48 (cond_f g50 (rfl)))), hm.below⟩)
    · have g48 : (x0.Base != x1.Base) = true := bne_iff_ne.2 h47
      refine CM_condT rfl g48 ?_
      refine sr ?_
      refine wa ?_
      refine nt' ?_
      refine CM_ret ?_
      refine QM_then_ret ?_
      exact QM_ret1 rfl rfl (fun W hm => ⟨ret_b (show laws_eqCharge_m x0 x1 = false from by unfold laws_eqCharge_m; exact cond_f g46 (cond_t g48 (rfl))), hm.below⟩)
  · have g46 : (x0.Segment != x1.Segment) = true := bne_iff_ne.2 h45
    refine CM_condT rfl g46 ?_
    refine sr ?_
    refine wa ?_
    refine nt' ?_
    refine CM_ret ?_
    refine QM_then_ret ?_
    exact QM_ret1 rfl rfl (fun W hm => ⟨ret_b (show laws_eqCharge_m x0 x1 = false from by unfold laws_eqCharge_m; exact cond_t g46 (rfl)), hm.below⟩)

def laws_eqChargeS_b1 (x0 : (List DCharge)) (x1 : (List DCharge)) (k13 : Nat) : Bool ⊕ (Unit) :=
  cond (laws_eqCharge_m (gt x0 k13) (gt x1 k13)) (Sum.inr ()) (Sum.inl false)
def laws_eqChargeS_m (x0 : (List DCharge)) (x1 : (List DCharge)) : Bool :=
  cond (((x0.length : Nat) : Int) != ((x1.length : Nat) : Int)) false (Sum.elim id (fun (s : Unit) => true) (rng (R := Bool) (fun k (_ : Unit) => laws_eqChargeS_b1 x0 x1 k) (x0.length - 0) 0 ()))
set_option maxRecDepth 100000 in
theorem cb115 : Cb Try.prog 115 := ⟨Try.f115, _, Try.func115, rfl, by decide⟩
set_option maxRecDepth 10000 in
set_option maxHeartbeats 4000000 in
theorem laws_eqChargeS_c (w : World) (z0 : Value) (x0 : (List DCharge)) (z1 : Value) (x1 : (List DCharge)) (r_0 : rdS tyCharge w w.heap.size z0 x0) (r_1 : rdS tyCharge w w.heap.size z1 x1) :
    Calls Try.prog 115 #[z0, z1] w fun e w' => e = .returned (.bool (laws_eqChargeS_m x0 x1)) ∧ Below w.heap.size w w' := by
  have r5 := r_0
  obtain ⟨m1, A2, c3, rfl, q4⟩ := r_0
  have r10 := r_1
  obtain ⟨m6, A7, c8, rfl, q9⟩ := r_1
  refine call_enterM (L := [(0, .slice A2 x0.length c3), (1, .slice A7 x1.length c8)]) (N := 27) Try.func115 rfl rfl (Nat.le_of_ble_eq_true rfl) (argsL_cons rfl (argsL_cons rfl argsL_nil)) ?_
  refine sr ?_
  refine wa ?_
  refine nt' ?_
  refine CM_seq ?_
  refine sr ?_
  refine wm ?_
  refine wv (fun W hm => rv_len Try.underlying75 rfl) ?_
  refine wm ?_
  refine wv (fun W hm => rv_len Try.underlying75 rfl) ?_
  refine wv (fun W hm => rv_neq rfl rfl) ?_
  refine nt' ?_
  by_cases h11 : ((x0.length : Nat) : Int) = ((x1.length : Nat) : Int)
  · have g12 : (((x0.length : Nat) : Int) != ((x1.length : Nat) : Int)) = false := by rw [h11]; exact bne_self_eq_false _
    refine CM_condF rfl g12 ?_
    refine CM_skip ?_
    refine QM_then ?_
    refine CM_seq ?_
    refine sr ?_
    refine wa ?_
    refine nt' ?_
    refine CM_block ?_
    refine CM_loop (σ := Nat × (Unit) × (Unit)) (fun s => [(0, .slice A2 x0.length c3), (1, .slice A7 x1.length c8), (5, .int .i64 ((s.1 : Nat) : Int))]) (fun s => []) (fun s => s.1 ≤ x0.length ∧ rng (R := Bool) (fun k (_ : Unit) => laws_eqChargeS_b1 x0 x1 k) (x0.length - s.1) s.1 s.2.1 = rng (R := Bool) (fun k (_ : Unit) => laws_eqChargeS_b1 x0 x1 k) (x0.length - 0) 0 ()) (fun s => x0.length - s.1) (0, (), ()) (subL_cons rfl (subL_cons rfl (subL_cons rfl subL_nil))) (fun W hm => hm) ⟨(by omega), rfl⟩ ?_
    rintro ⟨k13, ⟨⟩, ⟨⟩⟩ H16
    obtain ⟨hk14, hF15⟩ : k13 ≤ x0.length ∧ rng (R := Bool) (fun k (_ : Unit) => laws_eqChargeS_b1 x0 x1 k) (x0.length - k13) k13 () = rng (R := Bool) (fun k (_ : Unit) => laws_eqChargeS_b1 x0 x1 k) (x0.length - 0) 0 () := H16
    show CM Try.prog 27 _ _ _ _ [(0, .slice A2 x0.length c3), (1, .slice A7 x1.length c8), (5, .int .i64 ((k13 : Nat) : Int))] []
    refine CM_seq ?_
    refine sr ?_
    refine wm ?_
    refine wm ?_
    refine wv (fun W hm => rv_len Try.underlying75 rfl) ?_
    refine wv (fun W hm => rv_lss rfl rfl) ?_
    refine nt' ?_
    by_cases hl17 : k13 < x0.length
    · have g18 : (decide (((k13 : Nat) : Int) < ((x0.length : Nat) : Int))) = true := decide_eq_true (by omega)
      refine CM_condT rfl g18 ?_
      refine CM_skip ?_
      refine QM_then ?_
      refine CM_seq ?_
      refine CM_block ?_
      refine CM_seq ?_
      refine CM_regionD (by kernel_rfl) (by kernel_rfl) ?_
      refine qm ?_
      refine qm ?_
      obtain ⟨a19, rfl, hb20, he21⟩ := q4 (by omega)
      refine qv (fun W hm => rv_index (sz := 5) (k := k13) Try.underlying75 Try.type140 rfl rfl rfl (by omega)) ?_
      obtain ⟨_, e29, hc22⟩ := he21 k13 _ (gt_some (show k13 < x0.length from by omega))
      obtain ⟨v23, v25, v27, rfl, r24, r26, r28⟩ := tyCharge_rd e29
      have r34 := r24
      obtain ⟨m30, A31, c32, rfl, q33⟩ := r24
      have r39 := r26
      obtain ⟨m35, A36, c37, rfl, q38⟩ := r26
      have r44 := r28
      obtain ⟨m40, A41, c42, rfl, q43⟩ := r28
      refine qv (fun W hm => rv_loadN (cs := [.int .i64 ((gt x0 k13).Segment), .int .i64 ((gt x0 k13).Base), .slice A31 ((gt x0 k13).Ids).length c32, .slice A36 ((gt x0 k13).Tenants).length c37, .slice A41 ((gt x0 k13).Rows).length c42]) Try.underlying140 Try.type140 rfl rfl (hm.elCells (show (a19.add (k13 * 5)).block < w.heap.size from by rw [add_block]; exact hb20.1) hc22)) ?_
      refine qm ?_
      refine qm ?_
      obtain ⟨a45, rfl, hb46, he47⟩ := q9 (by omega)
      refine qv (fun W hm => rv_index (sz := 5) (k := k13) Try.underlying75 Try.type140 rfl rfl rfl (by omega)) ?_
      obtain ⟨_, e55, hc48⟩ := he47 k13 _ (gt_some (show k13 < x1.length from by omega))
      obtain ⟨v49, v51, v53, rfl, r50, r52, r54⟩ := tyCharge_rd e55
      have r60 := r50
      obtain ⟨m56, A57, c58, rfl, q59⟩ := r50
      have r65 := r52
      obtain ⟨m61, A62, c63, rfl, q64⟩ := r52
      have r70 := r54
      obtain ⟨m66, A67, c68, rfl, q69⟩ := r54
      refine qv (fun W hm => rv_loadN (cs := [.int .i64 ((gt x1 k13).Segment), .int .i64 ((gt x1 k13).Base), .slice A57 ((gt x1 k13).Ids).length c58, .slice A62 ((gt x1 k13).Tenants).length c63, .slice A67 ((gt x1 k13).Rows).length c68]) Try.underlying140 Try.type140 rfl rfl (hm.elCells (show (a45.add (k13 * 5)).block < w.heap.size from by rw [add_block]; exact hb46.1) hc48)) ?_
      refine QR_callV (cl_fn cb173 rfl) (fun W hm => laws_eqCharge_c W _ (gt x0 k13) _ (gt x1 k13) (tyCharge_mk (x := (gt x0 k13)) (hm.rdS0 r34) (hm.rdS0 r39) (hm.rdS0 r44)) (tyCharge_mk (x := (gt x1 k13)) (hm.rdS0 r60) (hm.rdS0 r65) (hm.rdS0 r70))) (Wd_none rfl) (by decide) ?_
      refine qv (fun W hm => rv_not rfl) ?_
      refine nq' ?_
      rcases Bool.eq_false_or_eq_true (laws_eqCharge_m (gt x0 k13) (gt x1 k13)) with g72 | g72
      ·
        refine CM_condF rfl (nt g72) ?_
        refine CM_skip ?_
        refine QM_block_normal ?_
        refine QM_then ?_
        refine CM_region ?_
        refine wm ?_
        refine wv (fun W hm => rv_addN (p := k13) (q := 1) rfl rfl (by omega)) ?_
        refine wa ?_
        refine WM_nil ?_
        have hn73 := rng_next (R := Bool) (body := (fun k (_ : Unit) => laws_eqChargeS_b1 x0 x1 k)) (k := k13) (s := ()) (s' := ()) (show k13 < x0.length from by omega) (show laws_eqChargeS_b1 x0 x1 k13 = Sum.inr () from by unfold laws_eqChargeS_b1; exact cond_t g72 (rfl)) hF15
        exact QM_round (k13 + 1, (), ()) (subL_cons rfl (subL_cons rfl (subL_cons rfl subL_nil))) (fun W hm => hm) ⟨(by omega), hn73⟩ (show x0.length - (k13 + 1) < x0.length - k13 from by omega)
      ·
        refine CM_condT rfl (nf g72) ?_
        refine sr ?_
        refine wa ?_
        refine nt' ?_
        refine CM_ret ?_
        refine QM_block_ret ?_
        refine QM_then_ret ?_
        refine QM_then_ret ?_
        refine QM_block_ret ?_
        refine QM_then_ret ?_
        exact QM_ret1 rfl rfl (fun W hm => ⟨ret_b (show laws_eqChargeS_m x0 x1 = false from by unfold laws_eqChargeS_m; exact cond_f g12 (fin_inl (rng_ret (body := (fun k (_ : Unit) => laws_eqChargeS_b1 x0 x1 k)) (k := k13) (s := ()) (show k13 < x0.length from by omega) (show laws_eqChargeS_b1 x0 x1 k13 = Sum.inl false from by unfold laws_eqChargeS_b1; exact cond_f g72 (rfl)) hF15) rfl)), hm.below⟩)
    · have g18 : (decide (((k13 : Nat) : Int) < ((x0.length : Nat) : Int))) = false := decide_eq_false (by omega)
      refine CM_condF rfl g18 ?_
      refine CM_exit ?_
      refine QM_then_exit ?_
      refine QM_then_exit ?_
      have hE74 : rng (R := Bool) (fun k (_ : Unit) => laws_eqChargeS_b1 x0 x1 k) (x0.length - 0) 0 () = Sum.inr () := rng_end hl17 hF15
      refine QM_block_hit ?_
      refine QM_then ?_
      refine sr ?_
      refine wa ?_
      refine nt' ?_
      refine CM_ret ?_
      exact QM_ret1 rfl rfl (fun W hm => ⟨ret_b (show laws_eqChargeS_m x0 x1 = true from by unfold laws_eqChargeS_m; exact cond_f g12 (fin_inr hE74 (rfl))), hm.below⟩)
  · have g12 : (((x0.length : Nat) : Int) != ((x1.length : Nat) : Int)) = true := bne_iff_ne.2 h11
    refine CM_condT rfl g12 ?_
    refine sr ?_
    refine wa ?_
    refine nt' ?_
    refine CM_ret ?_
    refine QM_then_ret ?_
    exact QM_ret1 rfl rfl (fun W hm => ⟨ret_b (show laws_eqChargeS_m x0 x1 = false from by unfold laws_eqChargeS_m; exact cond_t g12 (rfl)), hm.below⟩)

def laws_eqEngine_m (x0 : DEngine) (x1 : DEngine) : Bool :=
  cond (laws_eqStore_m x0.Store x1.Store) (cond (x0.Cursor != x1.Cursor) false (cond (laws_eqIntS_m x0.Order x1.Order) (cond (laws_eqActiveS_m x0.Active x1.Active) (cond (laws_eqFinishedS_m x0.Done x1.Done) (cond (laws_eqChargeS_m x0.Ledger x1.Ledger) (cond (x0.Steps != x1.Steps) false true) false) false) false) false)) false
set_option maxRecDepth 100000 in
theorem cb46 : Cb Try.prog 46 := ⟨Try.f46, _, Try.func46, rfl, by decide⟩
set_option maxRecDepth 10000 in
set_option maxHeartbeats 4000000 in
theorem laws_eqEngine_c (w : World) (z0 : List Value) (x0 : DEngine) (z1 : List Value) (x1 : DEngine) (r_0 : tyEngine.rd w w.heap.size z0 x0) (r_1 : tyEngine.rd w w.heap.size z1 x1) :
    Calls Try.prog 46 #[.agg z0.toArray, .agg z1.toArray] w fun e w' => e = .returned (.bool (laws_eqEngine_m x0 x1)) ∧ Below w.heap.size w w' := by
  obtain ⟨v1, v3, v5, v7, v9, rfl, r2, r4, r6, r8, r10⟩ := tyEngine_rd r_0
  have r15 := r2
  obtain ⟨m11, A12, c13, rfl, q14⟩ := r2
  have r20 := r4
  obtain ⟨m16, A17, c18, rfl, q19⟩ := r4
  have r25 := r6
  obtain ⟨m21, A22, c23, rfl, q24⟩ := r6
  have r30 := r8
  obtain ⟨m26, A27, c28, rfl, q29⟩ := r8
  have r35 := r10
  obtain ⟨m31, A32, c33, rfl, q34⟩ := r10
  obtain ⟨v36, v38, v40, v42, v44, rfl, r37, r39, r41, r43, r45⟩ := tyEngine_rd r_1
  have r50 := r37
  obtain ⟨m46, A47, c48, rfl, q49⟩ := r37
  have r55 := r39
  obtain ⟨m51, A52, c53, rfl, q54⟩ := r39
  have r60 := r41
  obtain ⟨m56, A57, c58, rfl, q59⟩ := r41
  have r65 := r43
  obtain ⟨m61, A62, c63, rfl, q64⟩ := r43
  have r70 := r45
  obtain ⟨m66, A67, c68, rfl, q69⟩ := r45
  refine call_enterM (L := [(0, .agg #[.slice A12 x0.Store.Segments.length c13, .int .i64 x0.Store.Now, .int .i64 x0.Cursor, .slice A17 x0.Order.length c18, .slice A22 x0.Active.length c23, .slice A27 x0.Done.length c28, .slice A32 x0.Ledger.length c33, .int .i64 x0.Steps]), (1, .agg #[.slice A47 x1.Store.Segments.length c48, .int .i64 x1.Store.Now, .int .i64 x1.Cursor, .slice A52 x1.Order.length c53, .slice A57 x1.Active.length c58, .slice A62 x1.Done.length c63, .slice A67 x1.Ledger.length c68, .int .i64 x1.Steps])]) (N := 45) Try.func46 rfl rfl (Nat.le_of_ble_eq_true rfl) (argsL_cons rfl (argsL_cons rfl argsL_nil)) ?_
  refine sr ?_
  refine WM_box rfl (Wd_none rfl) (by decide) (fun p71 => ?_)
  refine WM_box rfl (Wd_none rfl) (by decide) (fun p72 => ?_)
  refine wa ?_
  refine nt' ?_
  refine CM_seq ?_
  refine sr ?_
  refine wv (fun W hm => rv_field Try.underlying77 rfl Try.type26 (by decide) rfl rfl) ?_
  refine wv (fun W hm => rv_loadN (cs := [.slice A12 x0.Store.Segments.length c13, .int .i64 x0.Store.Now]) Try.underlying26 Try.type26 rfl rfl (hm.boxPart (n := 1) rfl rfl)) ?_
  refine wv (fun W hm => rv_field Try.underlying77 rfl Try.type26 (by decide) rfl rfl) ?_
  refine wv (fun W hm => rv_loadN (cs := [.slice A47 x1.Store.Segments.length c48, .int .i64 x1.Store.Now]) Try.underlying26 Try.type26 rfl rfl (hm.boxPart (n := 0) rfl rfl)) ?_
  refine WM_callV (cl_fn cb53 rfl) (fun W hm => laws_eqStore_c W _ x0.Store _ x1.Store (tyStore_mk (x := x0.Store) (hm.rdS0 r15)) (tyStore_mk (x := x1.Store) (hm.rdS0 r50))) (Wd_none rfl) (by decide) ?_
  refine wv (fun W hm => rv_not rfl) ?_
  refine nt' ?_
  rcases Bool.eq_false_or_eq_true (laws_eqStore_m x0.Store x1.Store) with g74 | g74
  ·
    refine CM_condF rfl (nt g74) ?_
    refine CM_skip ?_
    refine QM_then ?_
    refine CM_seq ?_
    refine sr ?_
    refine wv (fun W hm => rv_field Try.underlying77 rfl Try.type3 (by decide) rfl rfl) ?_
    refine wv (fun W hm => rv_load Try.underlying3 rfl rfl (hm.boxCell (n := 1) (o := 2) rfl rfl)) ?_
    refine wv (fun W hm => rv_field Try.underlying77 rfl Try.type3 (by decide) rfl rfl) ?_
    refine wv (fun W hm => rv_load Try.underlying3 rfl rfl (hm.boxCell (n := 0) (o := 2) rfl rfl)) ?_
    refine wv (fun W hm => rv_neq rfl rfl) ?_
    refine nt' ?_
    by_cases h75 : x0.Cursor = x1.Cursor
    · have g76 : (x0.Cursor != x1.Cursor) = false := by rw [h75]; exact bne_self_eq_false _
      refine CM_condF rfl g76 ?_
      refine CM_skip ?_
      refine QM_then ?_
      refine CM_seq ?_
      refine sr ?_
      refine wv (fun W hm => rv_field Try.underlying77 rfl Try.type27 (by decide) rfl rfl) ?_
      refine wv (fun W hm => rv_load Try.underlying27 rfl rfl (hm.boxCell (n := 1) (o := 3) rfl rfl)) ?_
      refine wv (fun W hm => rv_field Try.underlying77 rfl Try.type27 (by decide) rfl rfl) ?_
      refine wv (fun W hm => rv_load Try.underlying27 rfl rfl (hm.boxCell (n := 0) (o := 3) rfl rfl)) ?_
      refine WM_callV (cl_fn cb67 rfl) (fun W hm => laws_eqIntS_c W _ x0.Order _ x1.Order (hm.rdS0 r20) (hm.rdS0 r55)) (Wd_none rfl) (by decide) ?_
      refine wv (fun W hm => rv_not rfl) ?_
      refine nt' ?_
      rcases Bool.eq_false_or_eq_true (laws_eqIntS_m x0.Order x1.Order) with g78 | g78
      ·
        refine CM_condF rfl (nt g78) ?_
        refine CM_skip ?_
        refine QM_then ?_
        refine CM_seq ?_
        refine sr ?_
        refine wv (fun W hm => rv_field Try.underlying77 rfl Try.type73 (by decide) rfl rfl) ?_
        refine wv (fun W hm => rv_load Try.underlying73 rfl rfl (hm.boxCell (n := 1) (o := 4) rfl rfl)) ?_
        refine wv (fun W hm => rv_field Try.underlying77 rfl Try.type73 (by decide) rfl rfl) ?_
        refine wv (fun W hm => rv_load Try.underlying73 rfl rfl (hm.boxCell (n := 0) (o := 4) rfl rfl)) ?_
        refine WM_callV (cl_fn cb113 rfl) (fun W hm => laws_eqActiveS_c W _ x0.Active _ x1.Active (hm.rdS0 r25) (hm.rdS0 r60)) (Wd_none rfl) (by decide) ?_
        refine wv (fun W hm => rv_not rfl) ?_
        refine nt' ?_
        rcases Bool.eq_false_or_eq_true (laws_eqActiveS_m x0.Active x1.Active) with g80 | g80
        ·
          refine CM_condF rfl (nt g80) ?_
          refine CM_skip ?_
          refine QM_then ?_
          refine CM_seq ?_
          refine sr ?_
          refine wv (fun W hm => rv_field Try.underlying77 rfl Try.type74 (by decide) rfl rfl) ?_
          refine wv (fun W hm => rv_load Try.underlying74 rfl rfl (hm.boxCell (n := 1) (o := 5) rfl rfl)) ?_
          refine wv (fun W hm => rv_field Try.underlying77 rfl Try.type74 (by decide) rfl rfl) ?_
          refine wv (fun W hm => rv_load Try.underlying74 rfl rfl (hm.boxCell (n := 0) (o := 5) rfl rfl)) ?_
          refine WM_callV (cl_fn cb114 rfl) (fun W hm => laws_eqFinishedS_c W _ x0.Done _ x1.Done (hm.rdS0 r30) (hm.rdS0 r65)) (Wd_none rfl) (by decide) ?_
          refine wv (fun W hm => rv_not rfl) ?_
          refine nt' ?_
          rcases Bool.eq_false_or_eq_true (laws_eqFinishedS_m x0.Done x1.Done) with g82 | g82
          ·
            refine CM_condF rfl (nt g82) ?_
            refine CM_skip ?_
            refine QM_then ?_
            refine CM_seq ?_
            refine sr ?_
            refine wv (fun W hm => rv_field Try.underlying77 rfl Try.type75 (by decide) rfl rfl) ?_
            refine wv (fun W hm => rv_load Try.underlying75 rfl rfl (hm.boxCell (n := 1) (o := 6) rfl rfl)) ?_
            refine wv (fun W hm => rv_field Try.underlying77 rfl Try.type75 (by decide) rfl rfl) ?_
            refine wv (fun W hm => rv_load Try.underlying75 rfl rfl (hm.boxCell (n := 0) (o := 6) rfl rfl)) ?_
            refine WM_callV (cl_fn cb115 rfl) (fun W hm => laws_eqChargeS_c W _ x0.Ledger _ x1.Ledger (hm.rdS0 r35) (hm.rdS0 r70)) (Wd_none rfl) (by decide) ?_
            refine wv (fun W hm => rv_not rfl) ?_
            refine nt' ?_
            rcases Bool.eq_false_or_eq_true (laws_eqChargeS_m x0.Ledger x1.Ledger) with g84 | g84
            ·
              refine CM_condF rfl (nt g84) ?_
              refine CM_skip ?_
              refine QM_then ?_
              refine CM_seq ?_
              refine sr ?_
              refine wv (fun W hm => rv_field Try.underlying77 rfl Try.type3 (by decide) rfl rfl) ?_
              refine wv (fun W hm => rv_load Try.underlying3 rfl rfl (hm.boxCell (n := 1) (o := 7) rfl rfl)) ?_
              refine wv (fun W hm => rv_field Try.underlying77 rfl Try.type3 (by decide) rfl rfl) ?_
              refine wv (fun W hm => rv_load Try.underlying3 rfl rfl (hm.boxCell (n := 0) (o := 7) rfl rfl)) ?_
              refine wv (fun W hm => rv_neq rfl rfl) ?_
              refine nt' ?_
              by_cases h85 : x0.Steps = x1.Steps
              · have g86 : (x0.Steps != x1.Steps) = false := by rw [h85]; exact bne_self_eq_false _
                refine CM_condF rfl g86 ?_
                refine CM_skip ?_
                refine QM_then ?_
                refine sr ?_
                refine wa ?_
                refine nt' ?_
                refine CM_ret ?_
                exact QM_ret1 rfl rfl (fun W hm => ⟨ret_b (show laws_eqEngine_m x0 x1 = true from by unfold laws_eqEngine_m; exact cond_t g74 (cond_f g76 (cond_t g78 (cond_t g80 (cond_t g82 (cond_t g84 (cond_f g86 (rfl)))))))), hm.below⟩)
              · have g86 : (x0.Steps != x1.Steps) = true := bne_iff_ne.2 h85
                refine CM_condT rfl g86 ?_
                refine sr ?_
                refine wa ?_
                refine nt' ?_
                refine CM_ret ?_
                refine QM_then_ret ?_
                exact QM_ret1 rfl rfl (fun W hm => ⟨ret_b (show laws_eqEngine_m x0 x1 = false from by unfold laws_eqEngine_m; exact cond_t g74 (cond_f g76 (cond_t g78 (cond_t g80 (cond_t g82 (cond_t g84 (cond_t g86 (rfl)))))))), hm.below⟩)
            ·
              refine CM_condT rfl (nf g84) ?_
              refine sr ?_
              refine wa ?_
              refine nt' ?_
              refine CM_ret ?_
              refine QM_then_ret ?_
              exact QM_ret1 rfl rfl (fun W hm => ⟨ret_b (show laws_eqEngine_m x0 x1 = false from by unfold laws_eqEngine_m; exact cond_t g74 (cond_f g76 (cond_t g78 (cond_t g80 (cond_t g82 (cond_f g84 (rfl))))))), hm.below⟩)
          ·
            refine CM_condT rfl (nf g82) ?_
            refine sr ?_
            refine wa ?_
            refine nt' ?_
            refine CM_ret ?_
            refine QM_then_ret ?_
            exact QM_ret1 rfl rfl (fun W hm => ⟨ret_b (show laws_eqEngine_m x0 x1 = false from by unfold laws_eqEngine_m; exact cond_t g74 (cond_f g76 (cond_t g78 (cond_t g80 (cond_f g82 (rfl)))))), hm.below⟩)
        ·
          refine CM_condT rfl (nf g80) ?_
          refine sr ?_
          refine wa ?_
          refine nt' ?_
          refine CM_ret ?_
          refine QM_then_ret ?_
          exact QM_ret1 rfl rfl (fun W hm => ⟨ret_b (show laws_eqEngine_m x0 x1 = false from by unfold laws_eqEngine_m; exact cond_t g74 (cond_f g76 (cond_t g78 (cond_f g80 (rfl))))), hm.below⟩)
      ·
        refine CM_condT rfl (nf g78) ?_
        refine sr ?_
        refine wa ?_
        refine nt' ?_
        refine CM_ret ?_
        refine QM_then_ret ?_
        exact QM_ret1 rfl rfl (fun W hm => ⟨ret_b (show laws_eqEngine_m x0 x1 = false from by unfold laws_eqEngine_m; exact cond_t g74 (cond_f g76 (cond_f g78 (rfl)))), hm.below⟩)
    · have g76 : (x0.Cursor != x1.Cursor) = true := bne_iff_ne.2 h75
      refine CM_condT rfl g76 ?_
      refine sr ?_
      refine wa ?_
      refine nt' ?_
      refine CM_ret ?_
      refine QM_then_ret ?_
      exact QM_ret1 rfl rfl (fun W hm => ⟨ret_b (show laws_eqEngine_m x0 x1 = false from by unfold laws_eqEngine_m; exact cond_t g74 (cond_t g76 (rfl))), hm.below⟩)
  ·
    refine CM_condT rfl (nf g74) ?_
    refine sr ?_
    refine wa ?_
    refine nt' ?_
    refine CM_ret ?_
    refine QM_then_ret ?_
    exact QM_ret1 rfl rfl (fun W hm => ⟨ret_b (show laws_eqEngine_m x0 x1 = false from by unfold laws_eqEngine_m; exact cond_f g74 (rfl)), hm.below⟩)

end Go.Proofs.Ytfjhiegahdknmaa
