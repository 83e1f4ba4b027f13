/-
  Contracts of functions, printed by a program of ours.
-/
import Derived.Test.YtfjhiegahdknmaaL10F2
namespace Go.Proofs.Ytfjhiegahdknmaa
open Go.RowKit
def spec_IsAwake_m (x0 : DEngine) (x1 : Int) : Bool :=
  cond (spec_IsEngine_m x0) (cond (spec_l1In_m x1 0 (IntKind.i64.wrap (((x0.Active.length : Nat) : Int) - 1))) (cond (((gt x0.Active (x1.toNat)).Cap) == 0) true (decide (((gt x0.Active (x1.toNat)).Sent) < ((gt x0.Active (x1.toNat)).Cap)))) false) false
set_option maxRecDepth 100000 in
theorem cb59 : Cb Try.prog 59 := ⟨Try.f59, _, Try.func59, rfl, by decide⟩
set_option maxRecDepth 10000 in
set_option maxHeartbeats 4000000 in
theorem spec_IsAwake_c (w : World) (z0 : List Value) (x0 : DEngine) (x1 : Int) (r_0 : tyEngine.rd w w.heap.size z0 x0) (s_0 : smEngine 68719476736 x0) :
    Calls Try.prog 59 #[.agg z0.toArray, .int .i64 x1] w fun e w' => e = .returned (.bool (spec_IsAwake_m x0 x1)) ∧ Below w.heap.size w w' := by
  obtain ⟨v1, v3, v5, v7, v9, rfl, r2, r4, r6, r8, r10⟩ := tyEngine_rd r_0
  have r15 := r2
  obtain ⟨m11, A12, c13, rfl, q14⟩ := r2
  have r20 := r4
  obtain ⟨m16, A17, c18, rfl, q19⟩ := r4
  have r25 := r6
  obtain ⟨m21, A22, c23, rfl, q24⟩ := r6
  have r30 := r8
  obtain ⟨m26, A27, c28, rfl, q29⟩ := r8
  have r35 := r10
  obtain ⟨m31, A32, c33, rfl, q34⟩ := r10
  have l36 : x0.Store.Segments.length ≤ 68719476736 := s_0.1.1
  have l37 : x0.Order.length ≤ 68719476736 := s_0.2.1
  have l38 : x0.Active.length ≤ 68719476736 := s_0.2.2.1.1
  have l39 : x0.Done.length ≤ 68719476736 := s_0.2.2.2.1.1
  have l40 : x0.Ledger.length ≤ 68719476736 := s_0.2.2.2.2.1
  refine call_enterM (L := [(0, .agg #[.slice A12 x0.Store.Segments.length c13, .int .i64 x0.Store.Now, .int .i64 x0.Cursor, .slice A17 x0.Order.length c18, .slice A22 x0.Active.length c23, .slice A27 x0.Done.length c28, .slice A32 x0.Ledger.length c33, .int .i64 x0.Steps]), (1, .int .i64 x1)]) (N := 33) Try.func59 rfl rfl (Nat.le_of_ble_eq_true rfl) (argsL_cons rfl (argsL_cons rfl argsL_nil)) ?_
  refine sr ?_
  refine WM_box rfl (Wd_none rfl) (by decide) (fun p41 => ?_)
  refine wa ?_
  refine nt' ?_
  refine CM_seq ?_
  refine sr ?_
  refine wv (fun W hm => rv_loadN (cs := [.slice A12 x0.Store.Segments.length c13, .int .i64 x0.Store.Now, .int .i64 x0.Cursor, .slice A17 x0.Order.length c18, .slice A22 x0.Active.length c23, .slice A27 x0.Done.length c28, .slice A32 x0.Ledger.length c33, .int .i64 x0.Steps]) Try.underlying77 Try.type77 rfl rfl (hm.boxCells (n := 0) rfl)) ?_
  refine WM_callV (cl_fn cb57 rfl) (fun W hm => spec_IsEngine_c W _ x0 (tyEngine_mk (x := x0) (hm.rdS0 r15) (hm.rdS0 r20) (hm.rdS0 r25) (hm.rdS0 r30) (hm.rdS0 r35)) s_0) (Wd_none rfl) (by decide) ?_
  refine wv (fun W hm => rv_not rfl) ?_
  refine wm ?_
  rcases Bool.eq_false_or_eq_true (spec_IsEngine_m x0) with g43 | g43
  ·
    refine wg (fun W hm => rv_move rfl) (nt g43) ?_
    refine wg (fun W hm => rv_field Try.underlying77 rfl Try.type73 (by decide) rfl rfl) (nt g43) ?_
    refine wg (fun W hm => rv_load Try.underlying73 rfl rfl (hm.boxCell (n := 0) (o := 4) rfl rfl)) (nt g43) ?_
    refine wg (fun W hm => rv_len Try.underlying73 rfl) (nt g43) ?_
    refine wg (fun W hm => rv_sub rfl rfl) (nt g43) ?_
    refine WM_callV (cl_fn cb86 rfl) (fun W hm => spec_l1In_c W x1 0 (IntKind.i64.wrap (((x0.Active.length : Nat) : Int) - 1))) (Wd_some rfl rfl rfl (bw (nt g43) rfl)) (by decide) ?_
    refine wg (fun W hm => rv_not rfl) (nt g43) ?_
    refine wv (fun W hm => rv_pickF rfl (nt g43) rfl) ?_
    refine nt' ?_
    rcases Bool.eq_false_or_eq_true (spec_l1In_m x1 0 (IntKind.i64.wrap (((x0.Active.length : Nat) : Int) - 1))) with g45 | g45
    ·
      have hw := spec_l1In_fact g45
      rw [wrap_pred (by omega)] at hw
      refine CM_condF rfl (nt g45) ?_
      refine CM_skip ?_
      refine QM_then ?_
      refine sr ?_
      refine wv (fun W hm => rv_field Try.underlying77 rfl Try.type73 (by decide) rfl rfl) ?_
      refine wv (fun W hm => rv_load Try.underlying73 rfl rfl (hm.boxCell (n := 0) (o := 4) rfl rfl)) ?_
      refine wm ?_
      obtain ⟨a46, rfl, hb47, he48⟩ := q24 (by omega)
      refine wv (fun W hm => rv_indexI (sz := 10) (k := x1) Try.underlying73 Try.type127 rfl rfl rfl (by omega) (by omega)) ?_
      obtain ⟨_, e58, hc49⟩ := he48 (x1.toNat) _ (gt_some (show (x1.toNat) < x0.Active.length from by omega))
      obtain ⟨v50, v52, v54, v56, rfl, r51, r53, r55, r57⟩ := tyActive_rd e58
      have l59 : ((gt x0.Active (x1.toNat)).Query.Conds).length ≤ 68719476736 := (s_0.2.2.1.2 _ (gt_mem (show (x1.toNat) < x0.Active.length from by omega))).1.1
      have l60 : ((gt x0.Active (x1.toNat)).Query.Out).length ≤ 68719476736 := (s_0.2.2.1.2 _ (gt_mem (show (x1.toNat) < x0.Active.length from by omega))).1.2
      have l61 : ((gt x0.Active (x1.toNat)).Todo).length ≤ 68719476736 := (s_0.2.2.1.2 _ (gt_mem (show (x1.toNat) < x0.Active.length from by omega))).2.1
      have l62 : ((gt x0.Active (x1.toNat)).Rows).length ≤ 68719476736 := (s_0.2.2.1.2 _ (gt_mem (show (x1.toNat) < x0.Active.length from by omega))).2.2.1
      have r67 := r51
      obtain ⟨m63, A64, c65, rfl, q66⟩ := r51
      have r72 := r53
      obtain ⟨m68, A69, c70, rfl, q71⟩ := r53
      have r77 := r55
      obtain ⟨m73, A74, c75, rfl, q76⟩ := r55
      have r82 := r57
      obtain ⟨m78, A79, c80, rfl, q81⟩ := r57
      refine wv (fun W hm => rv_loadN (cs := [.int .i64 ((gt x0.Active (x1.toNat)).Query.Id), .int .i64 ((gt x0.Active (x1.toNat)).Query.Tenant), .slice A64 ((gt x0.Active (x1.toNat)).Query.Conds).length c65, .slice A69 ((gt x0.Active (x1.toNat)).Query.Out).length c70, .int .i64 ((gt x0.Active (x1.toNat)).Time), .slice A74 ((gt x0.Active (x1.toNat)).Todo).length c75, .int .i64 ((gt x0.Active (x1.toNat)).Age), .int .i64 ((gt x0.Active (x1.toNat)).Sent), .int .i64 ((gt x0.Active (x1.toNat)).Cap), .slice A79 ((gt x0.Active (x1.toNat)).Rows).length c80]) Try.underlying127 Try.type127 rfl rfl (hm.elCells (show (a46.add ((x1.toNat) * 10)).block < w.heap.size from by rw [add_block]; exact hb47.1) hc49)) ?_
      refine WM_alloc Try.type127 rfl (Wd_none rfl) (by decide) (fun p83 => ?_)
      refine WM_storeBox (p := p83) (o := 0) (cs := [.int .i64 0, .int .i64 0, .slice none 0 0, .slice none 0 0, .int .i64 0, .slice none 0 0, .int .i64 0, .int .i64 0, .int .i64 0, .slice none 0 0]) (cs' := [.int .i64 ((gt x0.Active (x1.toNat)).Query.Id), .int .i64 ((gt x0.Active (x1.toNat)).Query.Tenant), .slice A64 ((gt x0.Active (x1.toNat)).Query.Conds).length c65, .slice A69 ((gt x0.Active (x1.toNat)).Query.Out).length c70, .int .i64 ((gt x0.Active (x1.toNat)).Time), .slice A74 ((gt x0.Active (x1.toNat)).Todo).length c75, .int .i64 ((gt x0.Active (x1.toNat)).Age), .int .i64 ((gt x0.Active (x1.toNat)).Sent), .int .i64 ((gt x0.Active (x1.toNat)).Cap), .slice A79 ((gt x0.Active (x1.toNat)).Rows).length c80]) (js := [iBox p41 77 [.slice A12 x0.Store.Segments.length c13, .int .i64 x0.Store.Now, .int .i64 x0.Cursor, .slice A17 x0.Order.length c18, .slice (some a46) x0.Active.length c23, .slice A27 x0.Done.length c28, .slice A32 x0.Ledger.length c33, .int .i64 x0.Steps]]) (fun W hm => hm) Try.type127 rfl (Nat.le_of_ble_eq_true rfl) rfl rfl rfl rfl (Wd_none rfl) ?_
      refine nt' ?_
      refine sr ?_
      refine wv (fun W hm => rv_field Try.underlying127 rfl Try.type3 (by decide) rfl rfl) ?_
      refine wv (fun W hm => rv_load Try.underlying3 rfl rfl (hm.boxCell (n := 0) (o := 8) rfl rfl)) ?_
      refine wv (fun W hm => rv_eql rfl rfl) ?_
      refine wm ?_
      by_cases h84 : ((gt x0.Active (x1.toNat)).Cap) = 0
      · have g85 : (((gt x0.Active (x1.toNat)).Cap) == 0) = true := beq_iff_eq.2 h84
        refine ws g85 ?_
        refine ws g85 ?_
        refine ws g85 ?_
        refine ws g85 ?_
        refine ws g85 ?_
        refine wv (fun W hm => rv_pickT rfl g85 rfl) ?_
        refine wa ?_
        refine nt' ?_
        refine CM_ret ?_
        exact QM_ret1 rfl rfl (fun W hm => ⟨ret_b (show spec_IsAwake_m x0 x1 = true from by unfold spec_IsAwake_m; exact cond_t g43 (cond_t g45 (cond_t g85 (rfl)))), hm.below⟩)
      · have g85 : (((gt x0.Active (x1.toNat)).Cap) == 0) = false := beq_eq_false_iff_ne.2 h84
        refine wg (fun W hm => rv_field Try.underlying127 rfl Try.type3 (by decide) rfl rfl) g85 ?_
        refine wg (fun W hm => rv_load Try.underlying3 rfl rfl (hm.boxCell (n := 0) (o := 7) rfl rfl)) g85 ?_
        refine wg (fun W hm => rv_field Try.underlying127 rfl Try.type3 (by decide) rfl rfl) g85 ?_
        refine wg (fun W hm => rv_load Try.underlying3 rfl rfl (hm.boxCell (n := 0) (o := 8) rfl rfl)) g85 ?_
        refine wg (fun W hm => rv_lss rfl rfl) g85 ?_
        refine wv (fun W hm => rv_pickF rfl g85 rfl) ?_
        refine wa ?_
        refine nt' ?_
        refine CM_ret ?_
        exact QM_ret1 rfl rfl (fun W hm => ⟨ret_b (show spec_IsAwake_m x0 x1 = (decide (((gt x0.Active (x1.toNat)).Sent) < ((gt x0.Active (x1.toNat)).Cap))) from by unfold spec_IsAwake_m; exact cond_t g43 (cond_t g45 (cond_f g85 (rfl)))), hm.below⟩)
    ·
      refine CM_condT rfl (nf g45) ?_
      refine sr ?_
      refine wa ?_
      refine nt' ?_
      refine CM_ret ?_
      refine QM_then_ret ?_
      exact QM_ret1 rfl rfl (fun W hm => ⟨ret_b (show spec_IsAwake_m x0 x1 = false from by unfold spec_IsAwake_m; exact cond_t g43 (cond_f g45 (rfl))), hm.below⟩)
  ·
    refine ws (nf g43) ?_
    refine ws (nf g43) ?_
    refine ws (nf g43) ?_
    refine ws (nf g43) ?_
    refine ws (nf g43) ?_
    refine ws (nf g43) ?_
    refine ws (nf g43) ?_
    refine wv (fun W hm => rv_pickT rfl (nf g43) rfl) ?_
    refine nt' ?_
    refine CM_condT rfl rfl ?_
    refine sr ?_
    refine wa ?_
    refine nt' ?_
    refine CM_ret ?_
    refine QM_then_ret ?_
    exact QM_ret1 rfl rfl (fun W hm => ⟨ret_b (show spec_IsAwake_m x0 x1 = false from by unfold spec_IsAwake_m; exact cond_f g43 (rfl)), hm.below⟩)

def impl_within_m (x0 : Int) (x1 : Int) (x2 : Int) : Bool :=
  cond (decide (x1 ≤ x0)) (decide (x0 ≤ x2)) false
set_option maxRecDepth 100000 in
theorem cb82 : Cb Try.prog 82 := ⟨Try.f82, _, Try.func82, rfl, by decide⟩
set_option maxRecDepth 10000 in
set_option maxHeartbeats 4000000 in
theorem impl_within_c (w : World) (x0 : Int) (x1 : Int) (x2 : Int) :
    Calls Try.prog 82 #[.int .i64 x0, .int .i64 x1, .int .i64 x2] w fun e w' => e = .returned (.bool (impl_within_m x0 x1 x2)) ∧ Below w.heap.size w w' := by
  refine call_enterM (L := [(0, .int .i64 x0), (1, .int .i64 x1), (2, .int .i64 x2)]) (N := 15) Try.func82 rfl rfl (Nat.le_of_ble_eq_true rfl) (argsL_cons rfl (argsL_cons rfl (argsL_cons rfl argsL_nil))) ?_
  refine sr ?_
  refine wa ?_
  refine nt' ?_
  refine sr ?_
  refine wm ?_
  refine wm ?_
  refine wv (fun W hm => rv_geq rfl rfl) ?_
  refine wm ?_
  by_cases h1 : x1 ≤ x0
  · have g2 : (decide (x1 ≤ x0)) = true := decide_eq_true h1
    refine wg (fun W hm => rv_move rfl) g2 ?_
    refine wg (fun W hm => rv_move rfl) g2 ?_
    refine wg (fun W hm => rv_leq rfl rfl) g2 ?_
    refine wv (fun W hm => rv_pickT rfl g2 rfl) ?_
    refine wa ?_
    refine nt' ?_
    refine CM_ret ?_
    exact QM_ret1 rfl rfl (fun W hm => ⟨ret_b (show impl_within_m x0 x1 x2 = (decide (x0 ≤ x2)) from by unfold impl_within_m; exact cond_t g2 (rfl)), hm.below⟩)
  · have g2 : (decide (x1 ≤ x0)) = false := decide_eq_false h1
    refine ws g2 ?_
    refine ws g2 ?_
    refine ws g2 ?_
    refine wv (fun W hm => rv_pickF rfl g2 rfl) ?_
    refine wa ?_
    refine nt' ?_
    refine CM_ret ?_
    exact QM_ret1 rfl rfl (fun W hm => ⟨ret_b (show impl_within_m x0 x1 x2 = false from by unfold impl_within_m; exact cond_f g2 (rfl)), hm.below⟩)

theorem impl_within_fact {x a b : Int} (h : impl_within_m x a b = true) : a ≤ x ∧ x ≤ b := by
  unfold impl_within_m at h
  by_cases h1 : a ≤ x
  · rw [decide_eq_true h1] at h
    exact ⟨h1, of_decide_eq_true h⟩
  · rw [decide_eq_false h1] at h
    cases h
theorem impl_within_iff (x a b : Int) : impl_within_m x a b = decide (a ≤ x ∧ x ≤ b) := by
  unfold impl_within_m
  by_cases h1 : a ≤ x
  · by_cases h2 : x ≤ b
    · simp [h1, h2]
    · simp [h1, h2]
  · simp [h1]

def impl_copyInts_m (x0 : (List Int)) : (List Int) :=
  x0
set_option maxRecDepth 100000 in
theorem cb76 : Cb Try.prog 76 := ⟨Try.f76, _, Try.func76, rfl, by decide⟩
set_option maxRecDepth 10000 in
set_option maxHeartbeats 4000000 in
theorem impl_copyInts_c (w : World) (z0 : Value) (x0 : (List Int)) (r_0 : rdS tInt w w.heap.size z0 x0) (s_0 : x0.length ≤ 68719476736) :
    Calls Try.prog 76 #[z0] w fun e w' => ∃ v : Value, e = .returned (v) ∧ Mem w.heap.size w [iOwn (tSl tInt 3) [v] (impl_copyInts_m x0)] w' := by
  have r5 := r_0
  obtain ⟨m1, A2, c3, rfl, q4⟩ := r_0
  have l6 : x0.length ≤ 68719476736 := s_0
  refine call_enterM (L := [(0, .slice A2 x0.length c3)]) (N := 6) Try.func76 rfl rfl (Nat.le_of_ble_eq_true rfl) (argsL_cons rfl argsL_nil) ?_
  refine sr ?_
  refine wa ?_
  refine nt' ?_
  refine sr ?_
  refine WM_build0 (E := tInt) Try.underlying27 Try.type3 (Wd_none rfl) (by decide) (fun p7 => ?_)
  refine wm ?_
  refine WM_appendR (F := tInt) (E := tInt) (e := 3) (v := .slice (some ⟨p7, 0, none⟩) 0 0) (xs := []) (ys := x0) (js := []) (fun W hm => hm) (fun W hm => src_flat flat_int (hm.rdS0 r5)) Try.underlying27 Try.type3 rfl rfl rfl (Nat.le_of_ble_eq_true rfl) rfl rfl (show ([].length + x0.length) * 8 ≤ 140737488355328 from by first | omega | (simp only [List.length_append, List.length_cons, List.length_nil] at *; omega)) (show [].length + x0.length ≤ 9223372036854775807 from by first | omega | (simp only [List.length_append, List.length_cons, List.length_nil] at *; omega)) (Wd_none rfl) (by decide) (fun v9 => ?_)
  refine WM_form (n := 0) rfl ?_
  rintro A10 c11 rfl m12
  refine wa ?_
  refine nt' ?_
  refine CM_ret ?_
  refine QM_r1 rfl (RR_tmp rfl) (fun W hm => ⟨.slice A10 x0.length c11, ?_, ?_⟩)
  · first | rw [(show impl_copyInts_m x0 = x0 from by unfold impl_copyInts_m; exact rfl)] | rfl
  · rw [(show impl_copyInts_m x0 = x0 from by unfold impl_copyInts_m; exact rfl)]; exact hm
theorem impl_copyInts_eq (x0 : (List Int)) : impl_copyInts_m x0 = x0 := by
  rfl
theorem impl_copyInts_c2 (w : World) (z0 : Value) (x0 : (List Int)) (r_0 : rdS tInt w w.heap.size z0 x0) (s_0 : x0.length ≤ 68719476736) :
    Calls Try.prog 76 #[z0] w fun e w' => ∃ v : Value, e = .returned (v) ∧ Mem w.heap.size w [iOwn (tSl tInt 3) [v] x0] w' := by
  have h := impl_copyInts_c w z0 x0 r_0 s_0
  rw [impl_copyInts_eq] at h
  exact h

def impl_rowOf_m (x0 : DVersion) : DRow :=
  (⟨x0.Id, x0.Values⟩ : DRow)
set_option maxRecDepth 100000 in
theorem cb84 : Cb Try.prog 84 := ⟨Try.f84, _, Try.func84, rfl, by decide⟩
set_option maxRecDepth 10000 in
set_option maxHeartbeats 4000000 in
theorem impl_rowOf_c (w : World) (z0 : List Value) (x0 : DVersion) (r_0 : tyVersion.rd w w.heap.size z0 x0) (s_0 : smVersion 68719476736 x0) :
    Calls Try.prog 84 #[.agg z0.toArray] w fun e w' => ∃ v : List Value, e = .returned (.agg v.toArray) ∧ Mem w.heap.size w [iOwn tyRow v (impl_rowOf_m x0)] w' := by
  obtain ⟨v1, rfl, r2⟩ := tyVersion_rd r_0
  have r7 := r2
  obtain ⟨m3, A4, c5, rfl, q6⟩ := r2
  have l8 : x0.Values.length ≤ 68719476736 := s_0
  refine call_enterM (L := [(0, .agg #[.int .i64 x0.Id, .slice A4 x0.Values.length c5, .int .i64 x0.Born, .int .i64 x0.Died])]) (N := 9) Try.func84 rfl rfl (Nat.le_of_ble_eq_true rfl) (argsL_cons rfl argsL_nil) ?_
  refine sr ?_
  refine WM_box rfl (Wd_none rfl) (by decide) (fun p9 => ?_)
  refine WM_alloc Try.type29 rfl (Wd_none rfl) (by decide) (fun p10 => ?_)
  refine nt' ?_
  refine CM_seq ?_
  refine CM_regionB (n := 7) (listed := #[false, false, false, false, false, false, false]) (s := [iBox p9 51 [.int .i64 x0.Id, .slice A4 x0.Values.length c5, .int .i64 x0.Born, .int .i64 x0.Died]]) (by kernel_rfl) rfl (by kernel_rfl) (fun W hm => (hm.pick [1] (by decide))) ?_
  refine QB_take 0 (listed' := #[true, false, false, false, false, false, false]) (by kernel_rfl) rfl (by kernel_rfl) (by kernel_rfl) (by kernel_rfl) (fun _ _ _ h => h) (fun W hm => rv_field Try.underlying51 rfl Try.type3 (by decide) rfl rfl) (Wd_none rfl) rfl (by decide) ?_
  refine QB_take 1 (listed' := #[true, true, false, false, false, false, false]) (by kernel_rfl) rfl (by kernel_rfl) (by kernel_rfl) (by kernel_rfl) (fun _ _ _ h => h) (fun W hm => rv_load Try.underlying3 rfl rfl (hm.boxCell (n := 0) (o := 0) rfl rfl)) (Wd_none rfl) rfl (by decide) ?_
  refine QB_take 2 (listed' := #[true, true, true, false, false, false, false]) (by kernel_rfl) rfl (by kernel_rfl) (by kernel_rfl) (by kernel_rfl) (fun _ _ _ h => h) (fun W hm => rv_field Try.underlying51 rfl Try.type27 (by decide) rfl rfl) (Wd_none rfl) rfl (by decide) ?_
  refine QB_take 3 (listed' := #[true, true, true, true, false, false, false]) (by kernel_rfl) rfl (by kernel_rfl) (by kernel_rfl) (by kernel_rfl) (fun _ _ _ h => h) (fun W hm => rv_load Try.underlying27 rfl rfl (hm.boxCell (n := 0) (o := 1) rfl rfl)) (Wd_none rfl) rfl (by decide) ?_
  refine QB_one 4 (listed' := #[true, true, true, true, true, false, false]) (by kernel_rfl) rfl (by kernel_rfl) ?_
  refine WM_call (χ := Value) (val := fun x => x) (js := fun x => [iOwn (tSl tInt 3) [x] x0.Values]) (cl_fn cb76 rfl) (fun W hm => impl_copyInts_c2 W _ x0.Values (hm.rdS0 r7) s_0) (Wd_none rfl) (by decide) (fun z11 => ?_)
  refine WM_form (n := 0) rfl ?_
  rintro A12 c13 rfl m14
  refine WM_nil ?_
  refine QB_next (fun W hm => (hm.pick [2] (by decide))) ?_
  refine QB_take 5 (listed' := #[true, true, true, true, true, true, false]) (by kernel_rfl) rfl (by kernel_rfl) (by kernel_rfl) (by kernel_rfl) (fun _ _ _ h => h) (fun W hm => rv_build (cs := [.int .i64 x0.Id, .slice A12 x0.Values.length c13]) rfl (by kernel_rfl)) (Wd_none rfl) rfl (by decide) ?_
  refine QB_one 6 (listed' := #[true, true, true, true, true, true, true]) (by kernel_rfl) rfl (by kernel_rfl) ?_
  refine WM_storeBox (p := p10) (o := 0) (cs := [.int .i64 0, .slice none 0 0]) (cs' := [.int .i64 x0.Id, .slice A12 x0.Values.length c13]) (js := [iOwn (tSl tInt 3) [.slice A12 x0.Values.length c13] x0.Values, iBox p9 51 [.int .i64 x0.Id, .slice A4 x0.Values.length c5, .int .i64 x0.Born, .int .i64 x0.Died]]) (fun W hm => (hm.pick [1, 0, 2] (by decide))) Try.type29 rfl (Nat.le_of_ble_eq_true rfl) rfl rfl rfl rfl (Wd_none rfl) ?_
  refine WM_nil ?_
  refine QB_next (fun W hm => (hm.pick [2] (by decide))) ?_
  refine QB_done (by kernel_rfl) ?_
  refine QM_then ?_
  refine CM_ret ?_
  refine QM_r1 rfl (RR_cell (n := 0) rfl rfl Try.underlying29 Try.type29 rfl) (fun W hm => ⟨[.int .i64 x0.Id, .slice A12 x0.Values.length c13], ?_, ?_⟩)
  · first | rw [(show impl_rowOf_m x0 = (⟨x0.Id, x0.Values⟩ : DRow) from by unfold impl_rowOf_m; exact rfl)] | rfl
  · rw [(show impl_rowOf_m x0 = (⟨x0.Id, x0.Values⟩ : DRow) from by unfold impl_rowOf_m; exact rfl)]; exact Mem.join (is := [iOwn (tSl tInt 3) [.slice A12 x0.Values.length c13] x0.Values]) (js := []) (fun _ _ hs => tyRow_join (x := (⟨x0.Id, x0.Values⟩ : DRow)) hs) (hm.pick [1] (by decide))

def impl_IsRow_b1 (x0 : DRow) (k9 : Nat) : Bool ⊕ (Unit) :=
  cond (impl_within_m (gt x0.Values k9) 0 99) (Sum.inr ()) (Sum.inl false)
def impl_IsRow_m (x0 : DRow) : Bool :=
  Sum.elim id (fun (s : Unit) => cond (impl_within_m x0.Id 0 999) (((x0.Values.length : Nat) : Int) == 3) false) (rng (R := Bool) (fun k (_ : Unit) => impl_IsRow_b1 x0 k) (x0.Values.length - 0) 0 ())
set_option maxRecDepth 100000 in
theorem cb83 : Cb Try.prog 83 := ⟨Try.f83, _, Try.func83, rfl, by decide⟩
set_option maxRecDepth 10000 in
set_option maxHeartbeats 4000000 in
theorem impl_IsRow_c (w : World) (z0 : List Value) (x0 : DRow) (r_0 : tyRow.rd w w.heap.size z0 x0) :
    Calls Try.prog 83 #[.agg z0.toArray] w fun e w' => e = .returned (.bool (impl_IsRow_m x0)) ∧ Below w.heap.size w w' := by
  obtain ⟨v1, rfl, r2⟩ := tyRow_rd r_0
  have r7 := r2
  obtain ⟨m3, A4, c5, rfl, q6⟩ := r2
  refine call_enterM (L := [(0, .agg #[.int .i64 x0.Id, .slice A4 x0.Values.length c5])]) (N := 25) Try.func83 rfl rfl (Nat.le_of_ble_eq_true rfl) (argsL_cons rfl argsL_nil) ?_
  refine sr ?_
  refine WM_box rfl (Wd_none rfl) (by decide) (fun p8 => ?_)
  refine wa ?_
  refine nt' ?_
  refine CM_seq ?_
  refine sr ?_
  refine wv (fun W hm => rv_field Try.underlying29 rfl Try.type27 (by decide) rfl rfl) ?_
  refine wv (fun W hm => rv_load Try.underlying27 rfl rfl (hm.boxCell (n := 0) (o := 1) rfl rfl)) ?_
  refine wv (fun W hm => rv_len Try.underlying27 rfl) ?_
  refine wm ?_
  refine nt' ?_
  refine CM_block ?_
  refine CM_loop (σ := Nat × (Unit) × (Unit)) (fun s => [(1, .pointer (some (⟨p8, 0, none⟩ : Addr))), (6, .slice A4 x0.Values.length c5), (7, .int .i64 ((x0.Values.length : Nat) : Int)), (8, .int .i64 ((s.1 : Nat) : Int))]) (fun s => [iBox p8 29 [.int .i64 x0.Id, .slice A4 x0.Values.length c5]]) (fun s => s.1 ≤ x0.Values.length ∧ rng (R := Bool) (fun k (_ : Unit) => impl_IsRow_b1 x0 k) (x0.Values.length - s.1) s.1 s.2.1 = rng (R := Bool) (fun k (_ : Unit) => impl_IsRow_b1 x0 k) (x0.Values.length - 0) 0 ()) (fun s => x0.Values.length - s.1) (0, (), ()) (subL_cons rfl (subL_cons rfl (subL_cons rfl (subL_cons rfl subL_nil)))) (fun W hm => hm) ⟨(by omega), rfl⟩ ?_
  rintro ⟨k9, ⟨⟩, ⟨⟩⟩ H12
  obtain ⟨hk10, hF11⟩ : k9 ≤ x0.Values.length ∧ rng (R := Bool) (fun k (_ : Unit) => impl_IsRow_b1 x0 k) (x0.Values.length - k9) k9 () = rng (R := Bool) (fun k (_ : Unit) => impl_IsRow_b1 x0 k) (x0.Values.length - 0) 0 () := H12
  show CM Try.prog 25 _ _ _ _ [(1, .pointer (some (⟨p8, 0, none⟩ : Addr))), (6, .slice A4 x0.Values.length c5), (7, .int .i64 ((x0.Values.length : Nat) : Int)), (8, .int .i64 ((k9 : Nat) : Int))] [iBox p8 29 [.int .i64 x0.Id, .slice A4 x0.Values.length c5]]
  refine sr ?_
  refine wv (fun W hm => rv_lss rfl rfl) ?_
  refine nt' ?_
  refine CM_seq ?_
  by_cases hl13 : k9 < x0.Values.length
  · have g14 : (decide (((k9 : Nat) : Int) < ((x0.Values.length : Nat) : Int))) = true := decide_eq_true (by omega)
    refine CM_condT rfl g14 ?_
    refine CM_skip ?_
    refine QM_then ?_
    refine CM_seq ?_
    refine CM_block ?_
    refine sr ?_
    obtain ⟨a15, rfl, hb16, he17⟩ := q6 (by omega)
    refine wv (fun W hm => rv_index (sz := 1) (k := k9) Try.underlying27 Try.type3 rfl rfl rfl (by omega)) ?_
    refine wv (fun W hm => rv_load Try.underlying3 rfl rfl ((hm.cell0 (show (a15.add (k9 * 1)).block < w.heap.size from by rw [add_block]; exact hb16.1)).trans (rdS_int he17 k9 (by omega)))) ?_
    refine wa ?_
    refine nt' ?_
    refine sr ?_
    refine wm ?_
    refine WM_callV (cl_fn cb82 rfl) (fun W hm => impl_within_c W (gt x0.Values k9) 0 99) (Wd_none rfl) (by decide) ?_
    refine wv (fun W hm => rv_not rfl) ?_
    refine nt' ?_
    rcases Bool.eq_false_or_eq_true (impl_within_m (gt x0.Values k9) 0 99) with g19 | g19
    ·
      have hw := impl_within_fact g19
      refine CM_condF rfl (nt g19) ?_
      refine CM_skip ?_
      refine QM_block_normal ?_
      refine QM_then ?_
      refine CM_region ?_
      refine wv (fun W hm => rv_addN (p := k9) (q := 1) rfl rfl (by omega)) ?_
      refine wm ?_
      refine WM_nil ?_
      have hn20 := rng_next (R := Bool) (body := (fun k (_ : Unit) => impl_IsRow_b1 x0 k)) (k := k9) (s := ()) (s' := ()) (show k9 < x0.Values.length from by omega) (show impl_IsRow_b1 x0 k9 = Sum.inr () from by unfold impl_IsRow_b1; exact cond_t g19 (rfl)) hF11
      exact QM_round (k9 + 1, (), ()) (subL_cons rfl (subL_cons rfl (subL_cons rfl (subL_cons rfl subL_nil)))) (fun W hm => hm) ⟨(by omega), hn20⟩ (show x0.Values.length - (k9 + 1) < x0.Values.length - k9 from by omega)
    ·
      refine CM_condT rfl (nf g19) ?_
      refine sr ?_
      refine wa ?_
      refine nt' ?_
      refine CM_ret ?_
      refine QM_block_ret ?_
      refine QM_then_ret ?_
      refine QM_then_ret ?_
      refine QM_block_ret ?_
      refine QM_then_ret ?_
      exact QM_ret1 rfl rfl (fun W hm => ⟨ret_b (show impl_IsRow_m x0 = false from by unfold impl_IsRow_m; exact fin_inl (rng_ret (body := (fun k (_ : Unit) => impl_IsRow_b1 x0 k)) (k := k9) (s := ()) (show k9 < x0.Values.length from by omega) (show impl_IsRow_b1 x0 k9 = Sum.inl false from by unfold impl_IsRow_b1; exact cond_f g19 (rfl)) hF11) rfl), hm.below⟩)
  · have g14 : (decide (((k9 : Nat) : Int) < ((x0.Values.length : Nat) : Int))) = false := decide_eq_false (by omega)
    refine CM_condF rfl g14 ?_
    refine CM_exit ?_
    refine QM_then_exit ?_
    refine QM_then_exit ?_
    have hE21 : rng (R := Bool) (fun k (_ : Unit) => impl_IsRow_b1 x0 k) (x0.Values.length - 0) 0 () = Sum.inr () := rng_end hl13 hF11
    refine QM_block_hit ?_
    refine QM_then ?_
    refine sr ?_
    refine wv (fun W hm => rv_field Try.underlying29 rfl Try.type3 (by decide) rfl rfl) ?_
    refine wv (fun W hm => rv_load Try.underlying3 rfl rfl (hm.boxCell (n := 0) (o := 0) rfl rfl)) ?_
    refine WM_callV (cl_fn cb82 rfl) (fun W hm => impl_within_c W x0.Id 0 999) (Wd_none rfl) (by decide) ?_
    refine wm ?_
    rcases Bool.eq_false_or_eq_true (impl_within_m x0.Id 0 999) with g23 | g23
    ·
      have hw := impl_within_fact g23
      refine wg (fun W hm => rv_field Try.underlying29 rfl Try.type27 (by decide) rfl rfl) g23 ?_
      refine wg (fun W hm => rv_load Try.underlying27 rfl rfl (hm.boxCell (n := 0) (o := 1) rfl rfl)) g23 ?_
      refine wg (fun W hm => rv_len Try.underlying27 rfl) g23 ?_
      refine wg (fun W hm => rv_eql rfl rfl) g23 ?_
      refine wv (fun W hm => rv_pickT rfl g23 rfl) ?_
      refine wa ?_
      refine nt' ?_
      refine CM_ret ?_
      exact QM_ret1 rfl rfl (fun W hm => ⟨ret_b (show impl_IsRow_m x0 = (((x0.Values.length : Nat) : Int) == 3) from by unfold impl_IsRow_m; exact fin_inr hE21 (cond_t g23 (rfl))), hm.below⟩)
    ·
      refine ws g23 ?_
      refine ws g23 ?_
      refine ws g23 ?_
      refine ws g23 ?_
      refine wv (fun W hm => rv_pickF rfl g23 rfl) ?_
      refine wa ?_
      refine nt' ?_
      refine CM_ret ?_
      exact QM_ret1 rfl rfl (fun W hm => ⟨ret_b (show impl_IsRow_m x0 = false from by unfold impl_IsRow_m; exact fin_inr hE21 (cond_f g23 (rfl))), hm.below⟩)

def impl_IsVisible_m (x0 : DVersion) (x1 : Int) : Bool :=
  cond (decide (x0.Born ≤ x1)) (cond (x0.Died == (-1)) true (decide (x1 < x0.Died))) false
set_option maxRecDepth 100000 in
theorem cb34 : Cb Try.prog 34 := ⟨Try.f34, _, Try.func34, rfl, by decide⟩
set_option maxRecDepth 10000 in
set_option maxHeartbeats 4000000 in
theorem impl_IsVisible_c (w : World) (z0 : List Value) (x0 : DVersion) (x1 : Int) (r_0 : tyVersion.rd w w.heap.size z0 x0) :
    Calls Try.prog 34 #[.agg z0.toArray, .int .i64 x1] w fun e w' => e = .returned (.bool (impl_IsVisible_m x0 x1)) ∧ Below w.heap.size w w' := by
  obtain ⟨v1, rfl, r2⟩ := tyVersion_rd r_0
  have r7 := r2
  obtain ⟨m3, A4, c5, rfl, q6⟩ := r2
  refine call_enterM (L := [(0, .agg #[.int .i64 x0.Id, .slice A4 x0.Values.length c5, .int .i64 x0.Born, .int .i64 x0.Died]), (1, .int .i64 x1)]) (N := 20) Try.func34 rfl rfl (Nat.le_of_ble_eq_true rfl) (argsL_cons rfl (argsL_cons rfl argsL_nil)) ?_
  refine sr ?_
  refine WM_box rfl (Wd_none rfl) (by decide) (fun p8 => ?_)
  refine wa ?_
  refine nt' ?_
  refine sr ?_
  refine wv (fun W hm => rv_field Try.underlying51 rfl Try.type3 (by decide) rfl rfl) ?_
  refine wv (fun W hm => rv_load Try.underlying3 rfl rfl (hm.boxCell (n := 0) (o := 2) rfl rfl)) ?_
  refine wm ?_
  refine wv (fun W hm => rv_leq rfl rfl) ?_
  refine wm ?_
  by_cases h9 : x0.Born ≤ x1
  · have g10 : (decide (x0.Born ≤ x1)) = true := decide_eq_true h9
    refine wg (fun W hm => rv_field Try.underlying51 rfl Try.type3 (by decide) rfl rfl) g10 ?_
    refine wg (fun W hm => rv_load Try.underlying3 rfl rfl (hm.boxCell (n := 0) (o := 3) rfl rfl)) g10 ?_
    refine wg (fun W hm => rv_eql rfl rfl) g10 ?_
    refine wg (fun W hm => rv_move rfl) g10 ?_
    by_cases h11 : x0.Died = (-1)
    · have g12 : (x0.Died == (-1)) = true := beq_iff_eq.2 h11
      refine ws g12 ?_
      refine ws g12 ?_
      refine ws g12 ?_
      refine ws g12 ?_
      refine wg (fun W hm => rv_pickT rfl g12 rfl) g10 ?_
      refine wv (fun W hm => rv_pickT rfl g10 rfl) ?_
      refine wa ?_
      refine nt' ?_
      refine CM_ret ?_
      exact QM_ret1 rfl rfl (fun W hm => ⟨ret_b (show impl_IsVisible_m x0 x1 = true from by unfold impl_IsVisible_m; exact cond_t g10 (cond_t g12 (rfl))), hm.below⟩)
    · have g12 : (x0.Died == (-1)) = false := beq_eq_false_iff_ne.2 h11
      refine wg (fun W hm => rv_field Try.underlying51 rfl Try.type3 (by decide) rfl rfl) g12 ?_
      refine wg (fun W hm => rv_load Try.underlying3 rfl rfl (hm.boxCell (n := 0) (o := 3) rfl rfl)) g12 ?_
      refine wg (fun W hm => rv_move rfl) g12 ?_
      refine wg (fun W hm => rv_gtr rfl rfl) g12 ?_
      refine wg (fun W hm => rv_pickF rfl g12 rfl) g10 ?_
      refine wv (fun W hm => rv_pickT rfl g10 rfl) ?_
      refine wa ?_
      refine nt' ?_
      refine CM_ret ?_
      exact QM_ret1 rfl rfl (fun W hm => ⟨ret_b (show impl_IsVisible_m x0 x1 = (decide (x1 < x0.Died)) from by unfold impl_IsVisible_m; exact cond_t g10 (cond_f g12 (rfl))), hm.below⟩)
  · have g10 : (decide (x0.Born ≤ x1)) = false := decide_eq_false h9
    refine ws g10 ?_
    refine ws g10 ?_
    refine ws g10 ?_
    refine ws g10 ?_
    refine wu ?_
    refine wu ?_
    refine wu ?_
    refine wu ?_
    refine ws g10 ?_
    refine wv (fun W hm => rv_pickF rfl g10 rfl) ?_
    refine wa ?_
    refine nt' ?_
    refine CM_ret ?_
    exact QM_ret1 rfl rfl (fun W hm => ⟨ret_b (show impl_IsVisible_m x0 x1 = false from by unfold impl_IsVisible_m; exact cond_f g10 (rfl)), hm.below⟩)

def impl_meetInTime_m (x0 : DVersion) (x1 : DVersion) : Bool :=
  cond (impl_IsVisible_m x0 x1.Born) true (impl_IsVisible_m x1 x0.Born)
set_option maxRecDepth 100000 in
theorem cb85 : Cb Try.prog 85 := ⟨Try.f85, _, Try.func85, rfl, by decide⟩
set_option maxRecDepth 10000 in
set_option maxHeartbeats 4000000 in
theorem impl_meetInTime_c (w : World) (z0 : List Value) (x0 : DVersion) (z1 : List Value) (x1 : DVersion) (r_0 : tyVersion.rd w w.heap.size z0 x0) (r_1 : tyVersion.rd w w.heap.size z1 x1) :
    Calls Try.prog 85 #[.agg z0.toArray, .agg z1.toArray] w fun e w' => e = .returned (.bool (impl_meetInTime_m x0 x1)) ∧ Below w.heap.size w w' := by
  obtain ⟨v1, rfl, r2⟩ := tyVersion_rd r_0
  have r7 := r2
  obtain ⟨m3, A4, c5, rfl, q6⟩ := r2
  obtain ⟨v8, rfl, r9⟩ := tyVersion_rd r_1
  have r14 := r9
  obtain ⟨m10, A11, c12, rfl, q13⟩ := r9
  refine call_enterM (L := [(0, .agg #[.int .i64 x0.Id, .slice A4 x0.Values.length c5, .int .i64 x0.Born, .int .i64 x0.Died]), (1, .agg #[.int .i64 x1.Id, .slice A11 x1.Values.length c12, .int .i64 x1.Born, .int .i64 x1.Died])]) (N := 15) Try.func85 rfl rfl (Nat.le_of_ble_eq_true rfl) (argsL_cons rfl (argsL_cons rfl argsL_nil)) ?_
  refine sr ?_
  refine WM_box rfl (Wd_none rfl) (by decide) (fun p15 => ?_)
  refine WM_box rfl (Wd_none rfl) (by decide) (fun p16 => ?_)
  refine wa ?_
  refine nt' ?_
  refine sr ?_
  refine wv (fun W hm => rv_loadN (cs := [.int .i64 x0.Id, .slice A4 x0.Values.length c5, .int .i64 x0.Born, .int .i64 x0.Died]) Try.underlying51 Try.type51 rfl rfl (hm.boxCells (n := 1) rfl)) ?_
  refine wv (fun W hm => rv_field Try.underlying51 rfl Try.type3 (by decide) rfl rfl) ?_
  refine wv (fun W hm => rv_load Try.underlying3 rfl rfl (hm.boxCell (n := 0) (o := 2) rfl rfl)) ?_
  refine WM_callV (cl_fn cb34 rfl) (fun W hm => impl_IsVisible_c W _ x0 x1.Born (tyVersion_mk (x := x0) (hm.rdS0 r7))) (Wd_none rfl) (by decide) ?_
  refine wm ?_
  rcases Bool.eq_false_or_eq_true (impl_IsVisible_m x0 x1.Born) with g18 | g18
  ·
    refine ws g18 ?_
    refine ws g18 ?_
    refine ws g18 ?_
    refine ws g18 ?_
    refine wv (fun W hm => rv_pickT rfl g18 rfl) ?_
    refine wa ?_
    refine nt' ?_
    refine CM_ret ?_
    exact QM_ret1 rfl rfl (fun W hm => ⟨ret_b (show impl_meetInTime_m x0 x1 = true from by unfold impl_meetInTime_m; exact cond_t g18 (rfl)), hm.below⟩)
  ·
    refine wg (fun W hm => rv_loadN (cs := [.int .i64 x1.Id, .slice A11 x1.Values.length c12, .int .i64 x1.Born, .int .i64 x1.Died]) Try.underlying51 Try.type51 rfl rfl (hm.boxCells (n := 0) rfl)) g18 ?_
    refine wg (fun W hm => rv_field Try.underlying51 rfl Try.type3 (by decide) rfl rfl) g18 ?_
    refine wg (fun W hm => rv_load Try.underlying3 rfl rfl (hm.boxCell (n := 1) (o := 2) rfl rfl)) g18 ?_
    refine WM_callV (cl_fn cb34 rfl) (fun W hm => impl_IsVisible_c W _ x1 x0.Born (tyVersion_mk (x := x1) (hm.rdS0 r14))) (Wd_some rfl rfl rfl (bw g18 rfl)) (by decide) ?_
    refine wv (fun W hm => rv_pickF rfl g18 rfl) ?_
    refine wa ?_
    refine nt' ?_
    refine CM_ret ?_
    exact QM_ret1 rfl rfl (fun W hm => ⟨ret_b (show impl_meetInTime_m x0 x1 = (impl_IsVisible_m x1 x0.Born) from by unfold impl_meetInTime_m; exact cond_f g18 (rfl)), hm.below⟩)

def impl_IsStore_b3 (x0 : DStore) (k16 : Nat) (k41 : Nat) (d42 : (List DVersion)) (k77 : Nat) : Bool ⊕ (Unit) :=
  cond (((gt (gt x0.Segments k16) k41).Id) == ((gt d42 k77).Id)) (cond (impl_meetInTime_m (gt (gt x0.Segments k16) k41) (gt d42 k77)) (Sum.inl false) (Sum.inr ())) (Sum.inr ())
def impl_IsStore_b4 (x0 : DStore) (k16 : Nat) (k41 : Nat) (d42 : (List DVersion)) (k112 : Nat) : Bool ⊕ (Unit) :=
  cond (((gt (gt x0.Segments k16) k41).Id) == ((gt d42 k112).Id)) (cond (impl_meetInTime_m (gt (gt x0.Segments k16) k41) (gt d42 k112)) (Sum.inl false) (Sum.inr ())) (Sum.inr ())
def impl_IsStore_b2 (x0 : DStore) (k16 : Nat) (k41 : Nat) (d42 : (List DVersion)) : Bool ⊕ ((List DVersion)) :=
  cond (impl_IsRow_m (impl_rowOf_m (gt (gt x0.Segments k16) k41))) (cond (impl_within_m ((gt (gt x0.Segments k16) k41).Born) 0 x0.Now) (cond (((gt (gt x0.Segments k16) k41).Died) != (-1)) (cond (impl_within_m ((gt (gt x0.Segments k16) k41).Died) (IntKind.i64.wrap (((gt (gt x0.Segments k16) k41).Born) + 1)) x0.Now) (Sum.elim Sum.inl (fun (s : Unit) => Sum.inr (d42 ++ [(gt (gt x0.Segments k16) k41)])) (rng (R := Bool) (fun k (_ : Unit) => impl_IsStore_b4 x0 k16 k41 d42 k) (d42.length - 0) 0 ())) (Sum.inl false)) (Sum.elim Sum.inl (fun (s : Unit) => Sum.inr (d42 ++ [(gt (gt x0.Segments k16) k41)])) (rng (R := Bool) (fun k (_ : Unit) => impl_IsStore_b3 x0 k16 k41 d42 k) (d42.length - 0) 0 ()))) (Sum.inl false)) (Sum.inl false)
def impl_IsStore_b1 (x0 : DStore) (k16 : Nat) (d17 : (List DVersion)) : Bool ⊕ ((List DVersion)) :=
  cond (decide (4 < ((((gt x0.Segments k16)).length : Nat) : Int))) (Sum.inl false) (Sum.elim Sum.inl (fun (s : (List DVersion)) => Sum.inr s) (rng (R := Bool) (fun k (s : (List DVersion)) => impl_IsStore_b2 x0 k16 k s) (((gt x0.Segments k16)).length - 0) 0 d17))
def impl_IsStore_m (x0 : DStore) : Bool :=
  cond (impl_within_m ((x0.Segments.length : Nat) : Int) 1 8) (cond (impl_within_m x0.Now 0 100000) (Sum.elim id (fun (s : (List DVersion)) => true) (rng (R := Bool) (fun k (s : (List DVersion)) => impl_IsStore_b1 x0 k s) (x0.Segments.length - 0) 0 [])) false) false
set_option maxRecDepth 100000 in
theorem cb19 : Cb Try.prog 19 := ⟨Try.f19, _, Try.func19, rfl, by decide⟩
set_option maxRecDepth 10000 in
set_option maxHeartbeats 4000000 in
theorem impl_IsStore_c (w : World) (z0 : List Value) (x0 : DStore) (r_0 : tyStore.rd w w.heap.size z0 x0) (s_0 : smStore 68719476736 x0) :
    Calls Try.prog 19 #[.agg z0.toArray] w fun e w' => e = .returned (.bool (impl_IsStore_m x0)) ∧ Below w.heap.size w w' := by
  obtain ⟨v1, rfl, r2⟩ := tyStore_rd r_0
  have r7 := r2
  obtain ⟨m3, A4, c5, rfl, q6⟩ := r2
  have l8 : x0.Segments.length ≤ 68719476736 := s_0.1
  refine call_enterM (L := [(0, .agg #[.slice A4 x0.Segments.length c5, .int .i64 x0.Now])]) (N := 89) Try.func19 rfl rfl (Nat.le_of_ble_eq_true rfl) (argsL_cons rfl argsL_nil) ?_
  refine sr ?_
  refine WM_box rfl (Wd_none rfl) (by decide) (fun p9 => ?_)
  refine wa ?_
  refine nt' ?_
  refine CM_seq ?_
  refine sr ?_
  refine wv (fun W hm => rv_field Try.underlying26 rfl Try.type24 (by decide) rfl rfl) ?_
  refine wv (fun W hm => rv_load Try.underlying24 rfl rfl (hm.boxCell (n := 0) (o := 0) rfl rfl)) ?_
  refine wv (fun W hm => rv_len Try.underlying24 rfl) ?_
  refine WM_callV (cl_fn cb82 rfl) (fun W hm => impl_within_c W ((x0.Segments.length : Nat) : Int) 1 8) (Wd_none rfl) (by decide) ?_
  refine wv (fun W hm => rv_not rfl) ?_
  refine wm ?_
  rcases Bool.eq_false_or_eq_true (impl_within_m ((x0.Segments.length : Nat) : Int) 1 8) with g11 | g11
  ·
    have hw := impl_within_fact g11
    refine wg (fun W hm => rv_field Try.underlying26 rfl Try.type3 (by decide) rfl rfl) (nt g11) ?_
    refine wg (fun W hm => rv_load Try.underlying3 rfl rfl (hm.boxCell (n := 0) (o := 1) rfl rfl)) (nt g11) ?_
    refine WM_callV (cl_fn cb82 rfl) (fun W hm => impl_within_c W x0.Now 0 100000) (Wd_some rfl rfl rfl (bw (nt g11) rfl)) (by decide) ?_
    refine wg (fun W hm => rv_not rfl) (nt g11) ?_
    refine wv (fun W hm => rv_pickF rfl (nt g11) rfl) ?_
    refine nt' ?_
    rcases Bool.eq_false_or_eq_true (impl_within_m x0.Now 0 100000) with g13 | g13
    ·
      have hw := impl_within_fact g13
      refine CM_condF rfl (nt g13) ?_
      refine CM_skip ?_
      refine QM_then ?_
      refine sr ?_
      refine WM_build0 (E := (tBor tyVersion w w.heap.size)) Try.underlying102 Try.type51 (Wd_none rfl) (by decide) (fun p14 => ?_)
      refine wa ?_
      refine nt' ?_
      refine CM_seq ?_
      refine sr ?_
      refine wv (fun W hm => rv_field Try.underlying26 rfl Try.type24 (by decide) rfl rfl) ?_
      refine wv (fun W hm => rv_load Try.underlying24 rfl rfl (hm.boxCell (n := 1) (o := 0) rfl rfl)) ?_
      refine wv (fun W hm => rv_len Try.underlying24 rfl) ?_
      refine wm ?_
      refine nt' ?_
      refine CM_block ?_
      refine CM_loop (σ := Nat × ((List DVersion)) × (Option Addr × Nat)) (fun s => [(1, .pointer (some (⟨p9, 0, none⟩ : Addr))), (3, .slice s.2.2.1 s.2.1.length s.2.2.2), (23, .slice A4 x0.Segments.length c5), (24, .int .i64 ((x0.Segments.length : Nat) : Int)), (25, .int .i64 ((s.1 : Nat) : Int))]) (fun s => [iOwn (tSl (tBor tyVersion w w.heap.size) 51) [.slice s.2.2.1 s.2.1.length s.2.2.2] s.2.1, iBox p9 26 [.slice A4 x0.Segments.length c5, .int .i64 x0.Now]]) (fun s => s.1 ≤ x0.Segments.length ∧ rng (R := Bool) (fun k (s : (List DVersion)) => impl_IsStore_b1 x0 k s) (x0.Segments.length - s.1) s.1 s.2.1 = rng (R := Bool) (fun k (s : (List DVersion)) => impl_IsStore_b1 x0 k s) (x0.Segments.length - 0) 0 [] ∧ s.2.1.length ≤ 0 + 4 * s.1) (fun s => x0.Segments.length - s.1) (0, [], ((some ⟨p14, 0, none⟩), 0)) (subL_cons rfl (subL_cons rfl (subL_cons rfl (subL_cons rfl (subL_cons rfl subL_nil))))) (fun W hm => hm) ⟨(by omega), rfl, Nat.le_refl _⟩ ?_
      rintro ⟨k16, d17, ⟨A18, c19⟩⟩ H22
      obtain ⟨hk20, hF21, hi23⟩ : k16 ≤ x0.Segments.length ∧ rng (R := Bool) (fun k (s : (List DVersion)) => impl_IsStore_b1 x0 k s) (x0.Segments.length - k16) k16 d17 = rng (R := Bool) (fun k (s : (List DVersion)) => impl_IsStore_b1 x0 k s) (x0.Segments.length - 0) 0 [] ∧ d17.length ≤ 0 + 4 * k16 := H22
      show CM Try.prog 89 _ _ _ _ [(1, .pointer (some (⟨p9, 0, none⟩ : Addr))), (3, .slice A18 d17.length c19), (23, .slice A4 x0.Segments.length c5), (24, .int .i64 ((x0.Segments.length : Nat) : Int)), (25, .int .i64 ((k16 : Nat) : Int))] [iOwn (tSl (tBor tyVersion w w.heap.size) 51) [.slice A18 d17.length c19] d17, iBox p9 26 [.slice A4 x0.Segments.length c5, .int .i64 x0.Now]]
      refine sr ?_
      refine wv (fun W hm => rv_lss rfl rfl) ?_
      refine nt' ?_
      refine CM_seq ?_
      by_cases hl24 : k16 < x0.Segments.length
      · have g25 : (decide (((k16 : Nat) : Int) < ((x0.Segments.length : Nat) : Int))) = true := decide_eq_true (by omega)
        refine CM_condT rfl g25 ?_
        refine CM_skip ?_
        refine QM_then ?_
        refine CM_seq ?_
        refine CM_block ?_
        refine sr ?_
        obtain ⟨a26, rfl, hb27, he28⟩ := q6 (by omega)
        refine wv (fun W hm => rv_index (sz := 1) (k := k16) Try.underlying24 Try.type102 rfl rfl rfl (by omega)) ?_
        obtain ⟨_, e30, hc29⟩ := he28 k16 _ (gt_some (show k16 < x0.Segments.length from by omega))
        have l31 : (gt x0.Segments k16).length ≤ 68719476736 := (s_0.2 _ (gt_mem (show k16 < x0.Segments.length from by omega))).1
        obtain ⟨v32, rfl, r33⟩ := e30
        have r38 := r33
        obtain ⟨m34, A35, c36, rfl, q37⟩ := r33
        refine wv (fun W hm => rv_load Try.underlying102 rfl rfl ((hm.cell0 (show (a26.add (k16 * 1)).block < w.heap.size from by rw [add_block]; exact hb27.1)).trans (hc29 0 _ rfl))) ?_
        refine wa ?_
        refine nt' ?_
        refine CM_seq ?_
        refine sr ?_
        refine wm ?_
        refine wv (fun W hm => rv_len Try.underlying102 rfl) ?_
        refine wv (fun W hm => rv_gtr rfl rfl) ?_
        refine nt' ?_
        by_cases h39 : 4 < ((((gt x0.Segments k16)).length : Nat) : Int)
        · have g40 : (decide (4 < ((((gt x0.Segments k16)).length : Nat) : Int))) = true := decide_eq_true h39
          refine CM_condT rfl g40 ?_
          refine sr ?_
          refine wa ?_
          refine nt' ?_
          refine CM_ret ?_
          refine QM_then_ret ?_
          refine QM_block_ret ?_
          refine QM_then_ret ?_
          refine QM_then_ret ?_
          refine QM_block_ret ?_
          refine QM_then_ret ?_
          exact QM_ret1 rfl rfl (fun W hm => ⟨ret_b (show impl_IsStore_m x0 = false from by unfold impl_IsStore_m; exact cond_t g11 (cond_t g13 (fin_inl (rng_ret (body := (fun k (s : (List DVersion)) => impl_IsStore_b1 x0 k s)) (k := k16) (s := d17) (show k16 < x0.Segments.length from by omega) (show impl_IsStore_b1 x0 k16 d17 = Sum.inl false from by unfold impl_IsStore_b1; exact cond_t g40 (rfl)) hF21) rfl))), hm.below⟩)
        · have g40 : (decide (4 < ((((gt x0.Segments k16)).length : Nat) : Int))) = false := decide_eq_false h39
          refine CM_condF rfl g40 ?_
          refine CM_skip ?_
          refine QM_then ?_
          refine sr ?_
          refine wm ?_
          refine wv (fun W hm => rv_len Try.underlying102 rfl) ?_
          refine wm ?_
          refine nt' ?_
          refine CM_block ?_
          refine CM_loop (σ := Nat × ((List DVersion)) × (Option Addr × Nat)) (fun s => [(1, .pointer (some (⟨p9, 0, none⟩ : Addr))), (3, .slice s.2.2.1 s.2.1.length s.2.2.2), (23, .slice (some a26) x0.Segments.length c5), (24, .int .i64 ((x0.Segments.length : Nat) : Int)), (25, .int .i64 ((k16 : Nat) : Int)), (32, .slice A35 ((gt x0.Segments k16)).length c36), (33, .int .i64 ((((gt x0.Segments k16)).length : Nat) : Int)), (34, .int .i64 ((s.1 : Nat) : Int))]) (fun s => [iOwn (tSl (tBor tyVersion w w.heap.size) 51) [.slice s.2.2.1 s.2.1.length s.2.2.2] s.2.1, iBox p9 26 [.slice (some a26) x0.Segments.length c5, .int .i64 x0.Now]]) (fun s => s.1 ≤ ((gt x0.Segments k16)).length ∧ rng (R := Bool) (fun k (s : (List DVersion)) => impl_IsStore_b2 x0 k16 k s) (((gt x0.Segments k16)).length - s.1) s.1 s.2.1 = rng (R := Bool) (fun k (s : (List DVersion)) => impl_IsStore_b2 x0 k16 k s) (((gt x0.Segments k16)).length - 0) 0 d17 ∧ s.2.1.length ≤ d17.length + s.1) (fun s => ((gt x0.Segments k16)).length - s.1) (0, d17, (A18, c19)) (subL_cons rfl (subL_cons rfl (subL_cons rfl (subL_cons rfl (subL_cons rfl (subL_cons rfl (subL_cons rfl (subL_cons rfl subL_nil)))))))) (fun W hm => hm) ⟨(by omega), rfl, Nat.le_refl _⟩ ?_
          rintro ⟨k41, d42, ⟨A43, c44⟩⟩ H47
          obtain ⟨hk45, hF46, hi48⟩ : k41 ≤ ((gt x0.Segments k16)).length ∧ rng (R := Bool) (fun k (s : (List DVersion)) => impl_IsStore_b2 x0 k16 k s) (((gt x0.Segments k16)).length - k41) k41 d42 = rng (R := Bool) (fun k (s : (List DVersion)) => impl_IsStore_b2 x0 k16 k s) (((gt x0.Segments k16)).length - 0) 0 d17 ∧ d42.length ≤ d17.length + k41 := H47
          show CM Try.prog 89 _ _ _ _ [(1, .pointer (some (⟨p9, 0, none⟩ : Addr))), (3, .slice A43 d42.length c44), (23, .slice (some a26) x0.Segments.length c5), (24, .int .i64 ((x0.Segments.length : Nat) : Int)), (25, .int .i64 ((k16 : Nat) : Int)), (32, .slice A35 ((gt x0.Segments k16)).length c36), (33, .int .i64 ((((gt x0.Segments k16)).length : Nat) : Int)), (34, .int .i64 ((k41 : Nat) : Int))] [iOwn (tSl (tBor tyVersion w w.heap.size) 51) [.slice A43 d42.length c44] d42, iBox p9 26 [.slice (some a26) x0.Segments.length c5, .int .i64 x0.Now]]
          refine sr ?_
          refine wv (fun W hm => rv_lss rfl rfl) ?_
          refine nt' ?_
          refine CM_seq ?_
          by_cases hl49 : k41 < ((gt x0.Segments k16)).length
          · have g50 : (decide (((k41 : Nat) : Int) < ((((gt x0.Segments k16)).length : Nat) : Int))) = true := decide_eq_true (by omega)
            refine CM_condT rfl g50 ?_
            refine CM_skip ?_
            refine QM_then ?_
            refine CM_seq ?_
            refine CM_block ?_
            refine sr ?_
            obtain ⟨a51, rfl, hb52, he53⟩ := q37 (by omega)
            refine wv (fun W hm => rv_index (sz := 4) (k := k41) Try.underlying102 Try.type51 rfl rfl rfl (by omega)) ?_
            obtain ⟨_, e57, hc54⟩ := he53 k41 _ (gt_some (show k41 < ((gt x0.Segments k16)).length from by omega))
            obtain ⟨v55, rfl, r56⟩ := tyVersion_rd e57
            have l58 : ((gt (gt x0.Segments k16) k41).Values).length ≤ 68719476736 := ((s_0.2 _ (gt_mem (show k16 < x0.Segments.length from by omega))).2 _ (gt_mem (show k41 < ((gt x0.Segments k16)).length from by omega)))
            have r63 := r56
            obtain ⟨m59, A60, c61, rfl, q62⟩ := r56
            refine wv (fun W hm => rv_loadN (cs := [.int .i64 ((gt (gt x0.Segments k16) k41).Id), .slice A60 ((gt (gt x0.Segments k16) k41).Values).length c61, .int .i64 ((gt (gt x0.Segments k16) k41).Born), .int .i64 ((gt (gt x0.Segments k16) k41).Died)]) Try.underlying51 Try.type51 rfl rfl (hm.elCells (show (a51.add (k41 * 4)).block < w.heap.size from by rw [add_block]; exact hb52.1) hc54)) ?_
            refine WM_alloc Try.type51 rfl (Wd_none rfl) (by decide) (fun p64 => ?_)
            refine WM_storeBox (p := p64) (o := 0) (cs := [.int .i64 0, .slice none 0 0, .int .i64 0, .int .i64 0]) (cs' := [.int .i64 ((gt (gt x0.Segments k16) k41).Id), .slice A60 ((gt (gt x0.Segments k16) k41).Values).length c61, .int .i64 ((gt (gt x0.Segments k16) k41).Born), .int .i64 ((gt (gt x0.Segments k16) k41).Died)]) (js := [iOwn (tSl (tBor tyVersion w w.heap.size) 51) [.slice A43 d42.length c44] d42, iBox p9 26 [.slice (some a26) x0.Segments.length c5, .int .i64 x0.Now]]) (fun W hm => hm) Try.type51 rfl (Nat.le_of_ble_eq_true rfl) rfl rfl rfl rfl (Wd_none rfl) ?_
            refine nt' ?_
            refine CM_seq ?_
            refine sr ?_
            refine wv (fun W hm => rv_loadN (cs := [.int .i64 ((gt (gt x0.Segments k16) k41).Id), .slice A60 ((gt (gt x0.Segments k16) k41).Values).length c61, .int .i64 ((gt (gt x0.Segments k16) k41).Born), .int .i64 ((gt (gt x0.Segments k16) k41).Died)]) Try.underlying51 Try.type51 rfl rfl (hm.boxCells (n := 0) rfl)) ?_
            refine WM_call (χ := List Value) (val := fun x => .agg x.toArray) (js := fun x => [iOwn tyRow x (impl_rowOf_m (gt (gt x0.Segments k16) k41))]) (cl_fn cb84 rfl) (fun W hm => impl_rowOf_c W _ (gt (gt x0.Segments k16) k41) (tyVersion_mk (x := (gt (gt x0.Segments k16) k41)) (hm.rdS0 r63)) ((s_0.2 _ (gt_mem (show k16 < x0.Segments.length from by omega))).2 _ (gt_mem (show k41 < ((gt x0.Segments k16)).length from by omega)))) (Wd_none rfl) (by decide) (fun z65 => ?_)
            refine WM_split (γ := Value) (js := fun g => [iOwn (tSl tInt 3) [g] ((impl_rowOf_m (gt (gt x0.Segments k16) k41)).Values)]) (C := fun g => z65 = [.int .i64 ((impl_rowOf_m (gt (gt x0.Segments k16) k41)).Id), g]) (fun _ _ h => tyRow_split h) ?_
            rintro v66 rfl
            refine WM_form (n := 0) rfl ?_
            rintro A67 c68 rfl m69
            refine WM_callV (cl_fn cb83 rfl) (fun W hm => impl_IsRow_c W _ (impl_rowOf_m (gt (gt x0.Segments k16) k41)) (tyRow_mk (x := (impl_rowOf_m (gt (gt x0.Segments k16) k41))) (hm.rdSI (n := 0) rfl))) (Wd_none rfl) (by decide) ?_
            refine wv (fun W hm => rv_not rfl) ?_
            refine wm ?_
            rcases Bool.eq_false_or_eq_true (impl_IsRow_m (impl_rowOf_m (gt (gt x0.Segments k16) k41))) with g72 | g72
            ·
              refine wg (fun W hm => rv_field Try.underlying51 rfl Try.type3 (by decide) rfl rfl) (nt g72) ?_
              refine wg (fun W hm => rv_load Try.underlying3 rfl rfl (hm.boxCell (n := 1) (o := 2) rfl rfl)) (nt g72) ?_
              refine wg (fun W hm => rv_field Try.underlying26 rfl Try.type3 (by decide) rfl rfl) (nt g72) ?_
              refine wg (fun W hm => rv_load Try.underlying3 rfl rfl (hm.boxCell (n := 3) (o := 1) rfl rfl)) (nt g72) ?_
              refine WM_callV (cl_fn cb82 rfl) (fun W hm => impl_within_c W ((gt (gt x0.Segments k16) k41).Born) 0 x0.Now) (Wd_some rfl rfl rfl (bw (nt g72) rfl)) (by decide) ?_
              refine wg (fun W hm => rv_not rfl) (nt g72) ?_
              refine wv (fun W hm => rv_pickF rfl (nt g72) rfl) ?_
              refine wm ?_
              rcases Bool.eq_false_or_eq_true (impl_within_m ((gt (gt x0.Segments k16) k41).Born) 0 x0.Now) with g74 | g74
              ·
                have hw := impl_within_fact g74
                refine wg (fun W hm => rv_field Try.underlying51 rfl Try.type3 (by decide) rfl rfl) (nt g74) ?_
                refine wg (fun W hm => rv_load Try.underlying3 rfl rfl (hm.boxCell (n := 1) (o := 3) rfl rfl)) (nt g74) ?_
                refine wg (fun W hm => rv_neq rfl rfl) (nt g74) ?_
                refine wg (fun W hm => rv_move rfl) (nt g74) ?_
                by_cases h75 : ((gt (gt x0.Segments k16) k41).Died) = (-1)
                · have g76 : (((gt (gt x0.Segments k16) k41).Died) != (-1)) = false := by rw [h75]; exact bne_self_eq_false _
                  refine ws g76 ?_
                  refine ws g76 ?_
                  refine ws g76 ?_
                  refine ws g76 ?_
                  refine ws g76 ?_
                  refine ws g76 ?_
                  refine ws g76 ?_
                  refine ws g76 ?_
                  refine ws g76 ?_
                  refine wg (fun W hm => rv_pickF rfl g76 rfl) (nt g74) ?_
                  refine wv (fun W hm => rv_pickF rfl (nt g74) rfl) ?_
                  refine nt' ?_
                  refine CM_condF rfl rfl ?_
                  refine CM_skip ?_
                  refine QM_then ?_
                  refine CM_seq ?_
                  refine sr ?_
                  refine wm ?_
                  refine wv (fun W hm => rv_len Try.underlying102 rfl) ?_
                  refine wm ?_
                  refine nt' ?_
                  refine CM_block ?_
                  refine CM_loop (σ := Nat × (Unit) × (Unit)) (fun s => [(1, .pointer (some (⟨p9, 0, none⟩ : Addr))), (3, .slice A43 d42.length c44), (7, .pointer (some (⟨p64, 0, none⟩ : Addr))), (23, .slice (some a26) x0.Segments.length c5), (24, .int .i64 ((x0.Segments.length : Nat) : Int)), (25, .int .i64 ((k16 : Nat) : Int)), (32, .slice (some a51) ((gt x0.Segments k16)).length c36), (33, .int .i64 ((((gt x0.Segments k16)).length : Nat) : Int)), (34, .int .i64 ((k41 : Nat) : Int)), (66, .slice A43 d42.length c44), (67, .int .i64 ((d42.length : Nat) : Int)), (68, .int .i64 ((s.1 : Nat) : Int))]) (fun s => [iOwn (tSl tInt 3) [.slice A67 ((impl_rowOf_m (gt (gt x0.Segments k16) k41)).Values).length c68] ((impl_rowOf_m (gt (gt x0.Segments k16) k41)).Values), iBox p64 51 [.int .i64 ((gt (gt x0.Segments k16) k41).Id), .slice A60 ((gt (gt x0.Segments k16) k41).Values).length c61, .int .i64 ((gt (gt x0.Segments k16) k41).Born), .int .i64 ((gt (gt x0.Segments k16) k41).Died)], iOwn (tSl (tBor tyVersion w w.heap.size) 51) [.slice A43 d42.length c44] d42, iBox p9 26 [.slice (some a26) x0.Segments.length c5, .int .i64 x0.Now]]) (fun s => s.1 ≤ d42.length ∧ rng (R := Bool) (fun k (_ : Unit) => impl_IsStore_b3 x0 k16 k41 d42 k) (d42.length - s.1) s.1 s.2.1 = rng (R := Bool) (fun k (_ : Unit) => impl_IsStore_b3 x0 k16 k41 d42 k) (d42.length - 0) 0 ()) (fun s => d42.length - s.1) (0, (), ()) (subL_cons rfl (subL_cons rfl (subL_cons rfl (subL_cons rfl (subL_cons rfl (subL_cons rfl (subL_cons rfl (subL_cons rfl (subL_cons rfl (subL_cons rfl (subL_cons rfl (subL_cons rfl subL_nil)))))))))))) (fun W hm => hm) ⟨(by omega), rfl⟩ ?_
                  rintro ⟨k77, ⟨⟩, ⟨⟩⟩ H80
                  obtain ⟨hk78, hF79⟩ : k77 ≤ d42.length ∧ rng (R := Bool) (fun k (_ : Unit) => impl_IsStore_b3 x0 k16 k41 d42 k) (d42.length - k77) k77 () = rng (R := Bool) (fun k (_ : Unit) => impl_IsStore_b3 x0 k16 k41 d42 k) (d42.length - 0) 0 () := H80
                  show CM Try.prog 89 _ _ _ _ [(1, .pointer (some (⟨p9, 0, none⟩ : Addr))), (3, .slice A43 d42.length c44), (7, .pointer (some (⟨p64, 0, none⟩ : Addr))), (23, .slice (some a26) x0.Segments.length c5), (24, .int .i64 ((x0.Segments.length : Nat) : Int)), (25, .int .i64 ((k16 : Nat) : Int)), (32, .slice (some a51) ((gt x0.Segments k16)).length c36), (33, .int .i64 ((((gt x0.Segments k16)).length : Nat) : Int)), (34, .int .i64 ((k41 : Nat) : Int)), (66, .slice A43 d42.length c44), (67, .int .i64 ((d42.length : Nat) : Int)), (68, .int .i64 ((k77 : Nat) : Int))] [iOwn (tSl tInt 3) [.slice A67 ((impl_rowOf_m (gt (gt x0.Segments k16) k41)).Values).length c68] ((impl_rowOf_m (gt (gt x0.Segments k16) k41)).Values), iBox p64 51 [.int .i64 ((gt (gt x0.Segments k16) k41).Id), .slice A60 ((gt (gt x0.Segments k16) k41).Values).length c61, .int .i64 ((gt (gt x0.Segments k16) k41).Born), .int .i64 ((gt (gt x0.Segments k16) k41).Died)], iOwn (tSl (tBor tyVersion w w.heap.size) 51) [.slice A43 d42.length c44] d42, iBox p9 26 [.slice (some a26) x0.Segments.length c5, .int .i64 x0.Now]]
                  refine sr ?_
                  refine wv (fun W hm => rv_lss rfl rfl) ?_
                  refine nt' ?_
                  refine CM_seq ?_
                  by_cases hl81 : k77 < d42.length
                  · have g82 : (decide (((k77 : Nat) : Int) < ((d42.length : Nat) : Int))) = true := decide_eq_true (by omega)
                    refine CM_condT rfl g82 ?_
                    refine CM_skip ?_
                    refine QM_then ?_
                    refine CM_seq ?_
                    refine CM_block ?_
                    refine sr ?_
                    refine WM_formO (n := 2) rfl (by omega) ?_
                    rintro g83 rfl
                    refine wv (fun W hm => rv_index (sz := 4) (k := k77) Try.underlying102 Try.type51 rfl rfl rfl (by omega)) ?_
                    refine WM_expose (T := tyVersion) (wb := w) (Bb := w.heap.size) (e := 51) (g := g83) (n := d42.length) (c := c44) (xs := d42) (js := [iOwn (tSl tInt 3) [.slice A67 ((impl_rowOf_m (gt (gt x0.Segments k16) k41)).Values).length c68] ((impl_rowOf_m (gt (gt x0.Segments k16) k41)).Values), iBox p64 51 [.int .i64 ((gt (gt x0.Segments k16) k41).Id), .slice A60 ((gt (gt x0.Segments k16) k41).Values).length c61, .int .i64 ((gt (gt x0.Segments k16) k41).Born), .int .i64 ((gt (gt x0.Segments k16) k41).Died)], iBox p9 26 [.slice (some a26) x0.Segments.length c5, .int .i64 x0.Now]]) (fun W hm => (hm.pick [2, 0, 1, 3] (by decide))) ?_
                    rintro ck84 rk85
                    obtain ⟨_, e86, hc87⟩ := rk85.get (j := k77) (by omega)
                    obtain ⟨v88, rfl, r89⟩ := tyVersion_rd e86
                    have r94 := r89
                    obtain ⟨m90, A91, c92, rfl, q93⟩ := r89
                    refine wv (fun W hm => rv_loadN (cs := [.int .i64 ((gt d42 k77).Id), .slice A91 ((gt d42 k77).Values).length c92, .int .i64 ((gt d42 k77).Born), .int .i64 ((gt d42 k77).Died)]) Try.underlying51 Try.type51 rfl rfl (hm.rowCells (i := 0) rfl hc87)) ?_
                    refine WM_alloc Try.type51 rfl (Wd_none rfl) (by decide) (fun p95 => ?_)
                    refine WM_storeBox (p := p95) (o := 0) (cs := [.int .i64 0, .slice none 0 0, .int .i64 0, .int .i64 0]) (cs' := [.int .i64 ((gt d42 k77).Id), .slice A91 ((gt d42 k77).Values).length c92, .int .i64 ((gt d42 k77).Born), .int .i64 ((gt d42 k77).Died)]) (js := [iBox g83 51 ck84, iOwn (tSl tInt 3) [.slice A67 ((impl_rowOf_m (gt (gt x0.Segments k16) k41)).Values).length c68] ((impl_rowOf_m (gt (gt x0.Segments k16) k41)).Values), iBox p64 51 [.int .i64 ((gt (gt x0.Segments k16) k41).Id), .slice A60 ((gt (gt x0.Segments k16) k41).Values).length c61, .int .i64 ((gt (gt x0.Segments k16) k41).Born), .int .i64 ((gt (gt x0.Segments k16) k41).Died)], iBox p9 26 [.slice (some a26) x0.Segments.length c5, .int .i64 x0.Now]]) (fun W hm => hm) Try.type51 rfl (Nat.le_of_ble_eq_true rfl) rfl rfl rfl rfl (Wd_none rfl) ?_
                    refine nt' ?_
                    refine sr ?_
                    refine wv (fun W hm => rv_field Try.underlying51 rfl Try.type3 (by decide) rfl rfl) ?_
                    refine wv (fun W hm => rv_load Try.underlying3 rfl rfl (hm.boxCell (n := 3) (o := 0) rfl rfl)) ?_
                    refine wv (fun W hm => rv_field Try.underlying51 rfl Try.type3 (by decide) rfl rfl) ?_
                    refine wv (fun W hm => rv_load Try.underlying3 rfl rfl (hm.boxCell (n := 0) (o := 0) rfl rfl)) ?_
                    refine wv (fun W hm => rv_eql rfl rfl) ?_
                    refine wm ?_
                    by_cases h96 : ((gt (gt x0.Segments k16) k41).Id) = ((gt d42 k77).Id)
                    · have g97 : (((gt (gt x0.Segments k16) k41).Id) == ((gt d42 k77).Id)) = true := beq_iff_eq.2 h96
                      refine wg (fun W hm => rv_loadN (cs := [.int .i64 ((gt (gt x0.Segments k16) k41).Id), .slice A60 ((gt (gt x0.Segments k16) k41).Values).length c61, .int .i64 ((gt (gt x0.Segments k16) k41).Born), .int .i64 ((gt (gt x0.Segments k16) k41).Died)]) Try.underlying51 Try.type51 rfl rfl (hm.boxCells (n := 3) rfl)) g97 ?_
                      refine wg (fun W hm => rv_loadN (cs := [.int .i64 ((gt d42 k77).Id), .slice A91 ((gt d42 k77).Values).length c92, .int .i64 ((gt d42 k77).Born), .int .i64 ((gt d42 k77).Died)]) Try.underlying51 Try.type51 rfl rfl (hm.boxCells (n := 0) rfl)) g97 ?_
                      refine WM_callV (cl_fn cb85 rfl) (fun W hm => impl_meetInTime_c W _ (gt (gt x0.Segments k16) k41) _ (gt d42 k77) (tyVersion_mk (x := (gt (gt x0.Segments k16) k41)) (hm.rdS0 r63)) (tyVersion_mk (x := (gt d42 k77)) (hm.rdS0 r94))) (Wd_some rfl rfl rfl (bw g97 rfl)) (by decide) ?_
                      refine wv (fun W hm => rv_pickT rfl g97 rfl) ?_
                      refine nt' ?_
                      rcases Bool.eq_false_or_eq_true (impl_meetInTime_m (gt (gt x0.Segments k16) k41) (gt d42 k77)) with g99 | g99
                      ·
                        refine CM_condT rfl g99 ?_
                        refine sr ?_
                        refine wa ?_
                        refine nt' ?_
                        refine CM_ret ?_
                        refine QM_block_ret ?_
                        refine QM_then_ret ?_
                        refine QM_then_ret ?_
                        refine QM_block_ret ?_
                        refine QM_then_ret ?_
                        refine QM_block_ret ?_
                        refine QM_then_ret ?_
                        refine QM_then_ret ?_
                        refine QM_block_ret ?_
                        refine QM_block_ret ?_
                        refine QM_then_ret ?_
                        refine QM_then_ret ?_
                        refine QM_block_ret ?_
                        refine QM_then_ret ?_
                        refine QM_items (fun W hm => Mem.hide rk85 (hm.pick [1, 0, 2, 3, 4] (by decide))) ?_
                        exact QM_ret1 rfl rfl (fun W hm => ⟨ret_b (show impl_IsStore_m x0 = false from by unfold impl_IsStore_m; exact cond_t g11 (cond_t g13 (fin_inl (rng_ret (body := (fun k (s : (List DVersion)) => impl_IsStore_b1 x0 k s)) (k := k16) (s := d17) (show k16 < x0.Segments.length from by omega) (show impl_IsStore_b1 x0 k16 d17 = Sum.inl false from by unfold impl_IsStore_b1; exact cond_f g40 (fin_inl (rng_ret (body := (fun k (s : (List DVersion)) => impl_IsStore_b2 x0 k16 k s)) (k := k41) (s := d42) (show k41 < ((gt x0.Segments k16)).length from by omega) (show impl_IsStore_b2 x0 k16 k41 d42 = Sum.inl false from by unfold impl_IsStore_b2; exact cond_t g72 (cond_t g74 (cond_f g76 (fin_inl (rng_ret (body := (fun k (_ : Unit) => impl_IsStore_b3 x0 k16 k41 d42 k)) (k := k77) (s := ()) (show k77 < d42.length from by omega) (show impl_IsStore_b3 x0 k16 k41 d42 k77 = Sum.inl false from by unfold impl_IsStore_b3; exact cond_t g97 (cond_t g99 (rfl))) hF79) rfl)))) hF46) rfl)) hF21) rfl))), hm.below⟩)
                      ·
                        refine CM_condF rfl g99 ?_
                        refine CM_skip ?_
                        refine QM_block_normal ?_
                        refine QM_then ?_
                        refine CM_region ?_
                        refine wv (fun W hm => rv_addN (p := k77) (q := 1) rfl rfl (by omega)) ?_
                        refine wm ?_
                        refine WM_nil ?_
                        refine QM_items (fun W hm => Mem.hide rk85 (hm.pick [1, 0, 2, 3, 4] (by decide))) ?_
                        have hn100 := rng_next (R := Bool) (body := (fun k (_ : Unit) => impl_IsStore_b3 x0 k16 k41 d42 k)) (k := k77) (s := ()) (s' := ()) (show k77 < d42.length from by omega) (show impl_IsStore_b3 x0 k16 k41 d42 k77 = Sum.inr () from by unfold impl_IsStore_b3; exact cond_t g97 (cond_f g99 (rfl))) hF79
                        exact QM_round (k77 + 1, (), ()) (subL_cons rfl (subL_cons rfl (subL_cons rfl (subL_cons rfl (subL_cons rfl (subL_cons rfl (subL_cons rfl (subL_cons rfl (subL_cons rfl (subL_cons rfl (subL_cons rfl (subL_cons rfl subL_nil)))))))))))) (fun W hm => (hm.pick [2, 3, 0, 4] (by decide))) ⟨(by omega), hn100⟩ (show d42.length - (k77 + 1) < d42.length - k77 from by omega)
                    · have g97 : (((gt (gt x0.Segments k16) k41).Id) == ((gt d42 k77).Id)) = false := beq_eq_false_iff_ne.2 h96
                      refine ws g97 ?_
                      refine ws g97 ?_
                      refine ws g97 ?_
                      refine wv (fun W hm => rv_pickF rfl g97 rfl) ?_
                      refine nt' ?_
                      refine CM_condF rfl rfl ?_
                      refine CM_skip ?_
                      refine QM_block_normal ?_
                      refine QM_then ?_
                      refine CM_region ?_
                      refine wv (fun W hm => rv_addN (p := k77) (q := 1) rfl rfl (by omega)) ?_
                      refine wm ?_
                      refine WM_nil ?_
                      refine QM_items (fun W hm => Mem.hide rk85 (hm.pick [1, 0, 2, 3, 4] (by decide))) ?_
                      have hn101 := rng_next (R := Bool) (body := (fun k (_ : Unit) => impl_IsStore_b3 x0 k16 k41 d42 k)) (k := k77) (s := ()) (s' := ()) (show k77 < d42.length from by omega) (show impl_IsStore_b3 x0 k16 k41 d42 k77 = Sum.inr () from by unfold impl_IsStore_b3; exact cond_f g97 (rfl)) hF79
                      exact QM_round (k77 + 1, (), ()) (subL_cons rfl (subL_cons rfl (subL_cons rfl (subL_cons rfl (subL_cons rfl (subL_cons rfl (subL_cons rfl (subL_cons rfl (subL_cons rfl (subL_cons rfl (subL_cons rfl (subL_cons rfl subL_nil)))))))))))) (fun W hm => (hm.pick [2, 3, 0, 4] (by decide))) ⟨(by omega), hn101⟩ (show d42.length - (k77 + 1) < d42.length - k77 from by omega)
                  · have g82 : (decide (((k77 : Nat) : Int) < ((d42.length : Nat) : Int))) = false := decide_eq_false (by omega)
                    refine CM_condF rfl g82 ?_
                    refine CM_exit ?_
                    refine QM_then_exit ?_
                    refine QM_then_exit ?_
                    have hE102 : rng (R := Bool) (fun k (_ : Unit) => impl_IsStore_b3 x0 k16 k41 d42 k) (d42.length - 0) 0 () = Sum.inr () := rng_end hl81 hF79
                    refine QM_block_hit ?_
                    refine QM_then ?_
                    refine CM_region ?_
                    refine wm ?_
                    refine wv (fun W hm => rv_loadN (cs := [.int .i64 ((gt (gt x0.Segments k16) k41).Id), .slice A60 ((gt (gt x0.Segments k16) k41).Values).length c61, .int .i64 ((gt (gt x0.Segments k16) k41).Born), .int .i64 ((gt (gt x0.Segments k16) k41).Died)]) Try.underlying51 Try.type51 rfl rfl (hm.boxCells (n := 1) rfl)) ?_
                    refine WM_build (cs := [.int .i64 ((gt (gt x0.Segments k16) k41).Id), .slice A60 ((gt (gt x0.Segments k16) k41).Values).length c61, .int .i64 ((gt (gt x0.Segments k16) k41).Born), .int .i64 ((gt (gt x0.Segments k16) k41).Died)]) Try.underlying102 Try.type51 rfl (by decide) (by decide) rfl (by kernel_rfl) (Wd_none rfl) (by decide) (fun p103 => ?_)
                    refine WM_append (E := (tBor tyVersion w w.heap.size)) (e := 51) (v := .slice A43 d42.length c44) (p := p103) (q := 1) (xs := d42) (ys := [(gt (gt x0.Segments k16) k41)]) (eis := []) (js := [iOwn (tSl tInt 3) [.slice A67 ((impl_rowOf_m (gt (gt x0.Segments k16) k41)).Values).length c68] ((impl_rowOf_m (gt (gt x0.Segments k16) k41)).Values), iBox p64 51 [.int .i64 ((gt (gt x0.Segments k16) k41).Id), .slice A60 ((gt (gt x0.Segments k16) k41).Values).length c61, .int .i64 ((gt (gt x0.Segments k16) k41).Born), .int .i64 ((gt (gt x0.Segments k16) k41).Died)], iBox p9 26 [.slice (some a26) x0.Segments.length c5, .int .i64 x0.Now]]) (news := [.int .i64 ((gt (gt x0.Segments k16) k41).Id), .slice A60 ((gt (gt x0.Segments k16) k41).Values).length c61, .int .i64 ((gt (gt x0.Segments k16) k41).Born), .int .i64 ((gt (gt x0.Segments k16) k41).Died)]) (fun W hm => (hm.pick [0, 3, 1, 2, 4] (by decide))) (fun _ _ hs => by cases (Sep.nil hs); exact (els_cons (E := (tBor tyVersion w w.heap.size)) (L1 := []) ⟨rfl, (tyVersion_mk r63)⟩ els_nil)) Try.underlying102 Try.type51 rfl rfl rfl (Nat.le_of_ble_eq_true rfl) rfl rfl rfl (show (d42.length + 1) * 48 ≤ 140737488355328 from by omega) (show d42.length + 1 ≤ 9223372036854775807 from by omega) (Wd_none rfl) (by decide) (fun v104 => ?_)
                    refine WM_form (n := 0) rfl ?_
                    rintro A105 c106 rfl m107
                    refine wa ?_
                    refine WM_nil ?_
                    refine QM_block_normal ?_
                    refine QM_then ?_
                    refine CM_region ?_
                    refine wv (fun W hm => rv_addN (p := k41) (q := 1) rfl rfl (by omega)) ?_
                    refine wm ?_
                    refine WM_nil ?_
                    have hn109 := rng_next (R := Bool) (body := (fun k (s : (List DVersion)) => impl_IsStore_b2 x0 k16 k s)) (k := k41) (s := d42) (s' := (d42 ++ [(gt (gt x0.Segments k16) k41)])) (show k41 < ((gt x0.Segments k16)).length from by omega) (show impl_IsStore_b2 x0 k16 k41 d42 = Sum.inr (d42 ++ [(gt (gt x0.Segments k16) k41)]) from by unfold impl_IsStore_b2; exact cond_t g72 (cond_t g74 (cond_f g76 (fin_inr hE102 (rfl))))) hF46
                    exact QM_round (k41 + 1, (d42 ++ [(gt (gt x0.Segments k16) k41)]), (A105, c106)) (subL_cons rfl (subL_cons rfl (subL_cons rfl (subL_cons rfl (subL_cons rfl (subL_cons rfl (subL_cons rfl (subL_cons rfl subL_nil)))))))) (fun W hm => (hm.pick [0, 3] (by decide))) ⟨(by omega), hn109, (show (d42 ++ [(gt (gt x0.Segments k16) k41)]).length ≤ d17.length + (k41 + 1) from by first | omega | (simp only [List.length_append, List.length_cons, List.length_nil] at *; omega))⟩ (show ((gt x0.Segments k16)).length - (k41 + 1) < ((gt x0.Segments k16)).length - k41 from by omega)
                · have g76 : (((gt (gt x0.Segments k16) k41).Died) != (-1)) = true := bne_iff_ne.2 h75
                  refine wg (fun W hm => rv_field Try.underlying51 rfl Try.type3 (by decide) rfl rfl) g76 ?_
                  refine wg (fun W hm => rv_load Try.underlying3 rfl rfl (hm.boxCell (n := 1) (o := 3) rfl rfl)) g76 ?_
                  refine wg (fun W hm => rv_field Try.underlying51 rfl Try.type3 (by decide) rfl rfl) g76 ?_
                  refine wg (fun W hm => rv_load Try.underlying3 rfl rfl (hm.boxCell (n := 1) (o := 2) rfl rfl)) g76 ?_
                  refine wg (fun W hm => rv_add rfl rfl) g76 ?_
                  refine wg (fun W hm => rv_field Try.underlying26 rfl Try.type3 (by decide) rfl rfl) g76 ?_
                  refine wg (fun W hm => rv_load Try.underlying3 rfl rfl (hm.boxCell (n := 3) (o := 1) rfl rfl)) g76 ?_
                  refine WM_callV (cl_fn cb82 rfl) (fun W hm => impl_within_c W ((gt (gt x0.Segments k16) k41).Died) (IntKind.i64.wrap (((gt (gt x0.Segments k16) k41).Born) + 1)) x0.Now) (Wd_some rfl rfl rfl (bw g76 rfl)) (by decide) ?_
                  refine wg (fun W hm => rv_not rfl) g76 ?_
                  refine wg (fun W hm => rv_pickT rfl g76 rfl) (nt g74) ?_
                  refine wv (fun W hm => rv_pickF rfl (nt g74) rfl) ?_
                  refine nt' ?_
                  rcases Bool.eq_false_or_eq_true (impl_within_m ((gt (gt x0.Segments k16) k41).Died) (IntKind.i64.wrap (((gt (gt x0.Segments k16) k41).Born) + 1)) x0.Now) with g111 | g111
                  ·
                    have hw := impl_within_fact g111
                    refine CM_condF rfl (nt g111) ?_
                    refine CM_skip ?_
                    refine QM_then ?_
                    refine CM_seq ?_
                    refine sr ?_
                    refine wm ?_
                    refine wv (fun W hm => rv_len Try.underlying102 rfl) ?_
                    refine wm ?_
                    refine nt' ?_
                    refine CM_block ?_
                    refine CM_loop (σ := Nat × (Unit) × (Unit)) (fun s => [(1, .pointer (some (⟨p9, 0, none⟩ : Addr))), (3, .slice A43 d42.length c44), (7, .pointer (some (⟨p64, 0, none⟩ : Addr))), (23, .slice (some a26) x0.Segments.length c5), (24, .int .i64 ((x0.Segments.length : Nat) : Int)), (25, .int .i64 ((k16 : Nat) : Int)), (32, .slice (some a51) ((gt x0.Segments k16)).length c36), (33, .int .i64 ((((gt x0.Segments k16)).length : Nat) : Int)), (34, .int .i64 ((k41 : Nat) : Int)), (66, .slice A43 d42.length c44), (67, .int .i64 ((d42.length : Nat) : Int)), (68, .int .i64 ((s.1 : Nat) : Int))]) (fun s => [iOwn (tSl tInt 3) [.slice A67 ((impl_rowOf_m (gt (gt x0.Segments k16) k41)).Values).length c68] ((impl_rowOf_m (gt (gt x0.Segments k16) k41)).Values), iBox p64 51 [.int .i64 ((gt (gt x0.Segments k16) k41).Id), .slice A60 ((gt (gt x0.Segments k16) k41).Values).length c61, .int .i64 ((gt (gt x0.Segments k16) k41).Born), .int .i64 ((gt (gt x0.Segments k16) k41).Died)], iOwn (tSl (tBor tyVersion w w.heap.size) 51) [.slice A43 d42.length c44] d42, iBox p9 26 [.slice (some a26) x0.Segments.length c5, .int .i64 x0.Now]]) (fun s => s.1 ≤ d42.length ∧ rng (R := Bool) (fun k (_ : Unit) => impl_IsStore_b4 x0 k16 k41 d42 k) (d42.length - s.1) s.1 s.2.1 = rng (R := Bool) (fun k (_ : Unit) => impl_IsStore_b4 x0 k16 k41 d42 k) (d42.length - 0) 0 ()) (fun s => d42.length - s.1) (0, (), ()) (subL_cons rfl (subL_cons rfl (subL_cons rfl (subL_cons rfl (subL_cons rfl (subL_cons rfl (subL_cons rfl (subL_cons rfl (subL_cons rfl (subL_cons rfl (subL_cons rfl (subL_cons rfl subL_nil)))))))))))) (fun W hm => hm) ⟨(by omega), rfl⟩ ?_
                    rintro ⟨k112, ⟨⟩, ⟨⟩⟩ H115
                    obtain ⟨hk113, hF114⟩ : k112 ≤ d42.length ∧ rng (R := Bool) (fun k (_ : Unit) => impl_IsStore_b4 x0 k16 k41 d42 k) (d42.length - k112) k112 () = rng (R := Bool) (fun k (_ : Unit) => impl_IsStore_b4 x0 k16 k41 d42 k) (d42.length - 0) 0 () := H115
                    show CM Try.prog 89 _ _ _ _ [(1, .pointer (some (⟨p9, 0, none⟩ : Addr))), (3, .slice A43 d42.length c44), (7, .pointer (some (⟨p64, 0, none⟩ : Addr))), (23, .slice (some a26) x0.Segments.length c5), (24, .int .i64 ((x0.Segments.length : Nat) : Int)), (25, .int .i64 ((k16 : Nat) : Int)), (32, .slice (some a51) ((gt x0.Segments k16)).length c36), (33, .int .i64 ((((gt x0.Segments k16)).length : Nat) : Int)), (34, .int .i64 ((k41 : Nat) : Int)), (66, .slice A43 d42.length c44), (67, .int .i64 ((d42.length : Nat) : Int)), (68, .int .i64 ((k112 : Nat) : Int))] [iOwn (tSl tInt 3) [.slice A67 ((impl_rowOf_m (gt (gt x0.Segments k16) k41)).Values).length c68] ((impl_rowOf_m (gt (gt x0.Segments k16) k41)).Values), iBox p64 51 [.int .i64 ((gt (gt x0.Segments k16) k41).Id), .slice A60 ((gt (gt x0.Segments k16) k41).Values).length c61, .int .i64 ((gt (gt x0.Segments k16) k41).Born), .int .i64 ((gt (gt x0.Segments k16) k41).Died)], iOwn (tSl (tBor tyVersion w w.heap.size) 51) [.slice A43 d42.length c44] d42, iBox p9 26 [.slice (some a26) x0.Segments.length c5, .int .i64 x0.Now]]
                    refine sr ?_
                    refine wv (fun W hm => rv_lss rfl rfl) ?_
                    refine nt' ?_
                    refine CM_seq ?_
                    by_cases hl116 : k112 < d42.length
                    · have g117 : (decide (((k112 : Nat) : Int) < ((d42.length : Nat) : Int))) = true := decide_eq_true (by omega)
                      refine CM_condT rfl g117 ?_
                      refine CM_skip ?_
                      refine QM_then ?_
                      refine CM_seq ?_
                      refine CM_block ?_
                      refine sr ?_
                      refine WM_formO (n := 2) rfl (by omega) ?_
                      rintro g118 rfl
                      refine wv (fun W hm => rv_index (sz := 4) (k := k112) Try.underlying102 Try.type51 rfl rfl rfl (by omega)) ?_
                      refine WM_expose (T := tyVersion) (wb := w) (Bb := w.heap.size) (e := 51) (g := g118) (n := d42.length) (c := c44) (xs := d42) (js := [iOwn (tSl tInt 3) [.slice A67 ((impl_rowOf_m (gt (gt x0.Segments k16) k41)).Values).length c68] ((impl_rowOf_m (gt (gt x0.Segments k16) k41)).Values), iBox p64 51 [.int .i64 ((gt (gt x0.Segments k16) k41).Id), .slice A60 ((gt (gt x0.Segments k16) k41).Values).length c61, .int .i64 ((gt (gt x0.Segments k16) k41).Born), .int .i64 ((gt (gt x0.Segments k16) k41).Died)], iBox p9 26 [.slice (some a26) x0.Segments.length c5, .int .i64 x0.Now]]) (fun W hm => (hm.pick [2, 0, 1, 3] (by decide))) ?_
                      rintro ck119 rk120
                      obtain ⟨_, e121, hc122⟩ := rk120.get (j := k112) (by omega)
                      obtain ⟨v123, rfl, r124⟩ := tyVersion_rd e121
                      have r129 := r124
                      obtain ⟨m125, A126, c127, rfl, q128⟩ := r124
                      refine wv (fun W hm => rv_loadN (cs := [.int .i64 ((gt d42 k112).Id), .slice A126 ((gt d42 k112).Values).length c127, .int .i64 ((gt d42 k112).Born), .int .i64 ((gt d42 k112).Died)]) Try.underlying51 Try.type51 rfl rfl (hm.rowCells (i := 0) rfl hc122)) ?_
                      refine WM_alloc Try.type51 rfl (Wd_none rfl) (by decide) (fun p130 => ?_)
                      refine WM_storeBox (p := p130) (o := 0) (cs := [.int .i64 0, .slice none 0 0, .int .i64 0, .int .i64 0]) (cs' := [.int .i64 ((gt d42 k112).Id), .slice A126 ((gt d42 k112).Values).length c127, .int .i64 ((gt d42 k112).Born), .int .i64 ((gt d42 k112).Died)]) (js := [iBox g118 51 ck119, iOwn (tSl tInt 3) [.slice A67 ((impl_rowOf_m (gt (gt x0.Segments k16) k41)).Values).length c68] ((impl_rowOf_m (gt (gt x0.Segments k16) k41)).Values), iBox p64 51 [.int .i64 ((gt (gt x0.Segments k16) k41).Id), .slice A60 ((gt (gt x0.Segments k16) k41).Values).length c61, .int .i64 ((gt (gt x0.Segments k16) k41).Born), .int .i64 ((gt (gt x0.Segments k16) k41).Died)], iBox p9 26 [.slice (some a26) x0.Segments.length c5, .int .i64 x0.Now]]) (fun W hm => hm) Try.type51 rfl (Nat.le_of_ble_eq_true rfl) rfl rfl rfl rfl (Wd_none rfl) ?_
                      refine nt' ?_
                      refine sr ?_
                      refine wv (fun W hm => rv_field Try.underlying51 rfl Try.type3 (by decide) rfl rfl) ?_
                      refine wv (fun W hm => rv_load Try.underlying3 rfl rfl (hm.boxCell (n := 3) (o := 0) rfl rfl)) ?_
                      refine wv (fun W hm => rv_field Try.underlying51 rfl Try.type3 (by decide) rfl rfl) ?_
                      refine wv (fun W hm => rv_load Try.underlying3 rfl rfl (hm.boxCell (n := 0) (o := 0) rfl rfl)) ?_
                      refine wv (fun W hm => rv_eql rfl rfl) ?_
                      refine wm ?_
                      by_cases h131 : ((gt (gt x0.Segments k16) k41).Id) = ((gt d42 k112).Id)
                      · have g132 : (((gt (gt x0.Segments k16) k41).Id) == ((gt d42 k112).Id)) = true := beq_iff_eq.2 h131
                        refine wg (fun W hm => rv_loadN (cs := [.int .i64 ((gt (gt x0.Segments k16) k41).Id), .slice A60 ((gt (gt x0.Segments k16) k41).Values).length c61, .int .i64 ((gt (gt x0.Segments k16) k41).Born), .int .i64 ((gt (gt x0.Segments k16) k41).Died)]) Try.underlying51 Try.type51 rfl rfl (hm.boxCells (n := 3) rfl)) g132 ?_
                        refine wg (fun W hm => rv_loadN (cs := [.int .i64 ((gt d42 k112).Id), .slice A126 ((gt d42 k112).Values).length c127, .int .i64 ((gt d42 k112).Born), .int .i64 ((gt d42 k112).Died)]) Try.underlying51 Try.type51 rfl rfl (hm.boxCells (n := 0) rfl)) g132 ?_
                        refine WM_callV (cl_fn cb85 rfl) (fun W hm => impl_meetInTime_c W _ (gt (gt x0.Segments k16) k41) _ (gt d42 k112) (tyVersion_mk (x := (gt (gt x0.Segments k16) k41)) (hm.rdS0 r63)) (tyVersion_mk (x := (gt d42 k112)) (hm.rdS0 r129))) (Wd_some rfl rfl rfl (bw g132 rfl)) (by decide) ?_
                        refine wv (fun W hm => rv_pickT rfl g132 rfl) ?_
                        refine nt' ?_
                        rcases Bool.eq_false_or_eq_true (impl_meetInTime_m (gt (gt x0.Segments k16) k41) (gt d42 k112)) with g134 | g134
                        ·
                          refine CM_condT rfl g134 ?_
                          refine sr ?_
                          refine wa ?_
                          refine nt' ?_
                          refine CM_ret ?_
                          refine QM_block_ret ?_
                          refine QM_then_ret ?_
                          refine QM_then_ret ?_
                          refine QM_block_ret ?_
                          refine QM_then_ret ?_
                          refine QM_block_ret ?_
                          refine QM_then_ret ?_
                          refine QM_then_ret ?_
                          refine QM_block_ret ?_
                          refine QM_block_ret ?_
                          refine QM_then_ret ?_
                          refine QM_then_ret ?_
                          refine QM_block_ret ?_
                          refine QM_then_ret ?_
                          refine QM_items (fun W hm => Mem.hide rk120 (hm.pick [1, 0, 2, 3, 4] (by decide))) ?_
                          exact QM_ret1 rfl rfl (fun W hm => ⟨ret_b (show impl_IsStore_m x0 = false from by unfold impl_IsStore_m; exact cond_t g11 (cond_t g13 (fin_inl (rng_ret (body := (fun k (s : (List DVersion)) => impl_IsStore_b1 x0 k s)) (k := k16) (s := d17) (show k16 < x0.Segments.length from by omega) (show impl_IsStore_b1 x0 k16 d17 = Sum.inl false from by unfold impl_IsStore_b1; exact cond_f g40 (fin_inl (rng_ret (body := (fun k (s : (List DVersion)) => impl_IsStore_b2 x0 k16 k s)) (k := k41) (s := d42) (show k41 < ((gt x0.Segments k16)).length from by omega) (show impl_IsStore_b2 x0 k16 k41 d42 = Sum.inl false from by unfold impl_IsStore_b2; exact cond_t g72 (cond_t g74 (cond_t g76 (cond_t g111 (fin_inl (rng_ret (body := (fun k (_ : Unit) => impl_IsStore_b4 x0 k16 k41 d42 k)) (k := k112) (s := ()) (show k112 < d42.length from by omega) (show impl_IsStore_b4 x0 k16 k41 d42 k112 = Sum.inl false from by unfold impl_IsStore_b4; exact cond_t g132 (cond_t g134 (rfl))) hF114) rfl))))) hF46) rfl)) hF21) rfl))), hm.below⟩)
                        ·
                          refine CM_condF rfl g134 ?_
                          refine CM_skip ?_
                          refine QM_block_normal ?_
                          refine QM_then ?_
                          refine CM_region ?_
                          refine wv (fun W hm => rv_addN (p := k112) (q := 1) rfl rfl (by omega)) ?_
                          refine wm ?_
                          refine WM_nil ?_
                          refine QM_items (fun W hm => Mem.hide rk120 (hm.pick [1, 0, 2, 3, 4] (by decide))) ?_
                          have hn135 := rng_next (R := Bool) (body := (fun k (_ : Unit) => impl_IsStore_b4 x0 k16 k41 d42 k)) (k := k112) (s := ()) (s' := ()) (show k112 < d42.length from by omega) (show impl_IsStore_b4 x0 k16 k41 d42 k112 = Sum.inr () from by unfold impl_IsStore_b4; exact cond_t g132 (cond_f g134 (rfl))) hF114
                          exact QM_round (k112 + 1, (), ()) (subL_cons rfl (subL_cons rfl (subL_cons rfl (subL_cons rfl (subL_cons rfl (subL_cons rfl (subL_cons rfl (subL_cons rfl (subL_cons rfl (subL_cons rfl (subL_cons rfl (subL_cons rfl subL_nil)))))))))))) (fun W hm => (hm.pick [2, 3, 0, 4] (by decide))) ⟨(by omega), hn135⟩ (show d42.length - (k112 + 1) < d42.length - k112 from by omega)
                      · have g132 : (((gt (gt x0.Segments k16) k41).Id) == ((gt d42 k112).Id)) = false := beq_eq_false_iff_ne.2 h131
                        refine ws g132 ?_
                        refine ws g132 ?_
                        refine ws g132 ?_
                        refine wv (fun W hm => rv_pickF rfl g132 rfl) ?_
                        refine nt' ?_
                        refine CM_condF rfl rfl ?_
                        refine CM_skip ?_
                        refine QM_block_normal ?_
                        refine QM_then ?_
                        refine CM_region ?_
                        refine wv (fun W hm => rv_addN (p := k112) (q := 1) rfl rfl (by omega)) ?_
                        refine wm ?_
                        refine WM_nil ?_
                        refine QM_items (fun W hm => Mem.hide rk120 (hm.pick [1, 0, 2, 3, 4] (by decide))) ?_
                        have hn136 := rng_next (R := Bool) (body := (fun k (_ : Unit) => impl_IsStore_b4 x0 k16 k41 d42 k)) (k := k112) (s := ()) (s' := ()) (show k112 < d42.length from by omega) (show impl_IsStore_b4 x0 k16 k41 d42 k112 = Sum.inr () from by unfold impl_IsStore_b4; exact cond_f g132 (rfl)) hF114
                        exact QM_round (k112 + 1, (), ()) (subL_cons rfl (subL_cons rfl (subL_cons rfl (subL_cons rfl (subL_cons rfl (subL_cons rfl (subL_cons rfl (subL_cons rfl (subL_cons rfl (subL_cons rfl (subL_cons rfl (subL_cons rfl subL_nil)))))))))))) (fun W hm => (hm.pick [2, 3, 0, 4] (by decide))) ⟨(by omega), hn136⟩ (show d42.length - (k112 + 1) < d42.length - k112 from by omega)
                    · have g117 : (decide (((k112 : Nat) : Int) < ((d42.length : Nat) : Int))) = false := decide_eq_false (by omega)
                      refine CM_condF rfl g117 ?_
                      refine CM_exit ?_
                      refine QM_then_exit ?_
                      refine QM_then_exit ?_
                      have hE137 : rng (R := Bool) (fun k (_ : Unit) => impl_IsStore_b4 x0 k16 k41 d42 k) (d42.length - 0) 0 () = Sum.inr () := rng_end hl116 hF114
                      refine QM_block_hit ?_
                      refine QM_then ?_
                      refine CM_region ?_
                      refine wm ?_
                      refine wv (fun W hm => rv_loadN (cs := [.int .i64 ((gt (gt x0.Segments k16) k41).Id), .slice A60 ((gt (gt x0.Segments k16) k41).Values).length c61, .int .i64 ((gt (gt x0.Segments k16) k41).Born), .int .i64 ((gt (gt x0.Segments k16) k41).Died)]) Try.underlying51 Try.type51 rfl rfl (hm.boxCells (n := 1) rfl)) ?_
                      refine WM_build (cs := [.int .i64 ((gt (gt x0.Segments k16) k41).Id), .slice A60 ((gt (gt x0.Segments k16) k41).Values).length c61, .int .i64 ((gt (gt x0.Segments k16) k41).Born), .int .i64 ((gt (gt x0.Segments k16) k41).Died)]) Try.underlying102 Try.type51 rfl (by decide) (by decide) rfl (by kernel_rfl) (Wd_none rfl) (by decide) (fun p138 => ?_)
                      refine WM_append (E := (tBor tyVersion w w.heap.size)) (e := 51) (v := .slice A43 d42.length c44) (p := p138) (q := 1) (xs := d42) (ys := [(gt (gt x0.Segments k16) k41)]) (eis := []) (js := [iOwn (tSl tInt 3) [.slice A67 ((impl_rowOf_m (gt (gt x0.Segments k16) k41)).Values).length c68] ((impl_rowOf_m (gt (gt x0.Segments k16) k41)).Values), iBox p64 51 [.int .i64 ((gt (gt x0.Segments k16) k41).Id), .slice A60 ((gt (gt x0.Segments k16) k41).Values).length c61, .int .i64 ((gt (gt x0.Segments k16) k41).Born), .int .i64 ((gt (gt x0.Segments k16) k41).Died)], iBox p9 26 [.slice (some a26) x0.Segments.length c5, .int .i64 x0.Now]]) (news := [.int .i64 ((gt (gt x0.Segments k16) k41).Id), .slice A60 ((gt (gt x0.Segments k16) k41).Values).length c61, .int .i64 ((gt (gt x0.Segments k16) k41).Born), .int .i64 ((gt (gt x0.Segments k16) k41).Died)]) (fun W hm => (hm.pick [0, 3, 1, 2, 4] (by decide))) (fun _ _ hs => by cases (Sep.nil hs); exact (els_cons (E := (tBor tyVersion w w.heap.size)) (L1 := []) ⟨rfl, (tyVersion_mk r63)⟩ els_nil)) Try.underlying102 Try.type51 rfl rfl rfl (Nat.le_of_ble_eq_true rfl) rfl rfl rfl (show (d42.length + 1) * 48 ≤ 140737488355328 from by omega) (show d42.length + 1 ≤ 9223372036854775807 from by omega) (Wd_none rfl) (by decide) (fun v139 => ?_)
                      refine WM_form (n := 0) rfl ?_
                      rintro A140 c141 rfl m142
                      refine wa ?_
                      refine WM_nil ?_
                      refine QM_block_normal ?_
                      refine QM_then ?_
                      refine CM_region ?_
                      refine wv (fun W hm => rv_addN (p := k41) (q := 1) rfl rfl (by omega)) ?_
                      refine wm ?_
                      refine WM_nil ?_
                      have hn144 := rng_next (R := Bool) (body := (fun k (s : (List DVersion)) => impl_IsStore_b2 x0 k16 k s)) (k := k41) (s := d42) (s' := (d42 ++ [(gt (gt x0.Segments k16) k41)])) (show k41 < ((gt x0.Segments k16)).length from by omega) (show impl_IsStore_b2 x0 k16 k41 d42 = Sum.inr (d42 ++ [(gt (gt x0.Segments k16) k41)]) from by unfold impl_IsStore_b2; exact cond_t g72 (cond_t g74 (cond_t g76 (cond_t g111 (fin_inr hE137 (rfl)))))) hF46
                      exact QM_round (k41 + 1, (d42 ++ [(gt (gt x0.Segments k16) k41)]), (A140, c141)) (subL_cons rfl (subL_cons rfl (subL_cons rfl (subL_cons rfl (subL_cons rfl (subL_cons rfl (subL_cons rfl (subL_cons rfl subL_nil)))))))) (fun W hm => (hm.pick [0, 3] (by decide))) ⟨(by omega), hn144, (show (d42 ++ [(gt (gt x0.Segments k16) k41)]).length ≤ d17.length + (k41 + 1) from by first | omega | (simp only [List.length_append, List.length_cons, List.length_nil] at *; omega))⟩ (show ((gt x0.Segments k16)).length - (k41 + 1) < ((gt x0.Segments k16)).length - k41 from by omega)
                  ·
                    refine CM_condT rfl (nf g111) ?_
                    refine sr ?_
                    refine wa ?_
                    refine nt' ?_
                    refine CM_ret ?_
                    refine QM_then_ret ?_
                    refine QM_block_ret ?_
                    refine QM_then_ret ?_
                    refine QM_then_ret ?_
                    refine QM_block_ret ?_
                    refine QM_block_ret ?_
                    refine QM_then_ret ?_
                    refine QM_then_ret ?_
                    refine QM_block_ret ?_
                    refine QM_then_ret ?_
                    exact QM_ret1 rfl rfl (fun W hm => ⟨ret_b (show impl_IsStore_m x0 = false from by unfold impl_IsStore_m; exact cond_t g11 (cond_t g13 (fin_inl (rng_ret (body := (fun k (s : (List DVersion)) => impl_IsStore_b1 x0 k s)) (k := k16) (s := d17) (show k16 < x0.Segments.length from by omega) (show impl_IsStore_b1 x0 k16 d17 = Sum.inl false from by unfold impl_IsStore_b1; exact cond_f g40 (fin_inl (rng_ret (body := (fun k (s : (List DVersion)) => impl_IsStore_b2 x0 k16 k s)) (k := k41) (s := d42) (show k41 < ((gt x0.Segments k16)).length from by omega) (show impl_IsStore_b2 x0 k16 k41 d42 = Sum.inl false from by unfold impl_IsStore_b2; exact cond_t g72 (cond_t g74 (cond_t g76 (cond_f g111 (rfl))))) hF46) rfl)) hF21) rfl))), hm.below⟩)
              ·
                refine ws (nf g74) ?_
                refine ws (nf g74) ?_
                refine ws (nf g74) ?_
                refine ws (nf g74) ?_
                refine wu ?_
                refine wu ?_
                refine wu ?_
                refine wu ?_
                refine wu ?_
                refine wu ?_
                refine wu ?_
                refine wu ?_
                refine wu ?_
                refine ws (nf g74) ?_
                refine wv (fun W hm => rv_pickT rfl (nf g74) rfl) ?_
                refine nt' ?_
                refine CM_condT rfl rfl ?_
                refine sr ?_
                refine wa ?_
                refine nt' ?_
                refine CM_ret ?_
                refine QM_then_ret ?_
                refine QM_block_ret ?_
                refine QM_then_ret ?_
                refine QM_then_ret ?_
                refine QM_block_ret ?_
                refine QM_block_ret ?_
                refine QM_then_ret ?_
                refine QM_then_ret ?_
                refine QM_block_ret ?_
                refine QM_then_ret ?_
                exact QM_ret1 rfl rfl (fun W hm => ⟨ret_b (show impl_IsStore_m x0 = false from by unfold impl_IsStore_m; exact cond_t g11 (cond_t g13 (fin_inl (rng_ret (body := (fun k (s : (List DVersion)) => impl_IsStore_b1 x0 k s)) (k := k16) (s := d17) (show k16 < x0.Segments.length from by omega) (show impl_IsStore_b1 x0 k16 d17 = Sum.inl false from by unfold impl_IsStore_b1; exact cond_f g40 (fin_inl (rng_ret (body := (fun k (s : (List DVersion)) => impl_IsStore_b2 x0 k16 k s)) (k := k41) (s := d42) (show k41 < ((gt x0.Segments k16)).length from by omega) (show impl_IsStore_b2 x0 k16 k41 d42 = Sum.inl false from by unfold impl_IsStore_b2; exact cond_t g72 (cond_f g74 (rfl))) hF46) rfl)) hF21) rfl))), hm.below⟩)
            ·
              refine ws (nf g72) ?_
              refine ws (nf g72) ?_
              refine ws (nf g72) ?_
              refine ws (nf g72) ?_
              refine ws (nf g72) ?_
              refine ws (nf g72) ?_
              refine wv (fun W hm => rv_pickT rfl (nf g72) rfl) ?_
              refine wm ?_
              refine WM_skip (Wd_some rfl rfl rfl rfl) rfl (by decide) ?_
              refine WM_skip (Wd_some rfl rfl rfl rfl) rfl (by decide) ?_
              refine WM_skip (Wd_some rfl rfl rfl rfl) rfl (by decide) ?_
              refine WM_skip (Wd_some rfl rfl rfl rfl) rfl (by decide) ?_
              refine wu ?_
              refine wu ?_
              refine wu ?_
              refine wu ?_
              refine wu ?_
              refine wu ?_
              refine wu ?_
              refine wu ?_
              refine wu ?_
              refine WM_skip (Wd_some rfl rfl rfl rfl) rfl (by decide) ?_
              refine wv (fun W hm => rv_pickT rfl rfl rfl) ?_
              refine nt' ?_
              refine CM_condT rfl rfl ?_
              refine sr ?_
              refine wa ?_
              refine nt' ?_
              refine CM_ret ?_
              refine QM_then_ret ?_
              refine QM_block_ret ?_
              refine QM_then_ret ?_
              refine QM_then_ret ?_
              refine QM_block_ret ?_
              refine QM_block_ret ?_
              refine QM_then_ret ?_
              refine QM_then_ret ?_
              refine QM_block_ret ?_
              refine QM_then_ret ?_
              exact QM_ret1 rfl rfl (fun W hm => ⟨ret_b (show impl_IsStore_m x0 = false from by unfold impl_IsStore_m; exact cond_t g11 (cond_t g13 (fin_inl (rng_ret (body := (fun k (s : (List DVersion)) => impl_IsStore_b1 x0 k s)) (k := k16) (s := d17) (show k16 < x0.Segments.length from by omega) (show impl_IsStore_b1 x0 k16 d17 = Sum.inl false from by unfold impl_IsStore_b1; exact cond_f g40 (fin_inl (rng_ret (body := (fun k (s : (List DVersion)) => impl_IsStore_b2 x0 k16 k s)) (k := k41) (s := d42) (show k41 < ((gt x0.Segments k16)).length from by omega) (show impl_IsStore_b2 x0 k16 k41 d42 = Sum.inl false from by unfold impl_IsStore_b2; exact cond_f g72 (rfl)) hF46) rfl)) hF21) rfl))), hm.below⟩)
          · have g50 : (decide (((k41 : Nat) : Int) < ((((gt x0.Segments k16)).length : Nat) : Int))) = false := decide_eq_false (by omega)
            refine CM_condF rfl g50 ?_
            refine CM_exit ?_
            refine QM_then_exit ?_
            refine QM_then_exit ?_
            have hE145 : rng (R := Bool) (fun k (s : (List DVersion)) => impl_IsStore_b2 x0 k16 k s) (((gt x0.Segments k16)).length - 0) 0 d17 = Sum.inr d42 := rng_end hl49 hF46
            refine QM_block_hit ?_
            refine QM_block_normal ?_
            refine QM_then ?_
            refine CM_region ?_
            refine wv (fun W hm => rv_addN (p := k16) (q := 1) rfl rfl (by omega)) ?_
            refine wm ?_
            refine WM_nil ?_
            have hn146 := rng_next (R := Bool) (body := (fun k (s : (List DVersion)) => impl_IsStore_b1 x0 k s)) (k := k16) (s := d17) (s' := d42) (show k16 < x0.Segments.length from by omega) (show impl_IsStore_b1 x0 k16 d17 = Sum.inr d42 from by unfold impl_IsStore_b1; exact cond_f g40 (fin_inr hE145 (rfl))) hF21
            exact QM_round (k16 + 1, d42, (A43, c44)) (subL_cons rfl (subL_cons rfl (subL_cons rfl (subL_cons rfl (subL_cons rfl subL_nil))))) (fun W hm => hm) ⟨(by omega), hn146, (show d42.length ≤ 0 + 4 * (k16 + 1) from by first | omega | (simp only [List.length_append, List.length_cons, List.length_nil] at *; omega))⟩ (show x0.Segments.length - (k16 + 1) < x0.Segments.length - k16 from by omega)
      · have g25 : (decide (((k16 : Nat) : Int) < ((x0.Segments.length : Nat) : Int))) = false := decide_eq_false (by omega)
        refine CM_condF rfl g25 ?_
        refine CM_exit ?_
        refine QM_then_exit ?_
        refine QM_then_exit ?_
        have hE147 : rng (R := Bool) (fun k (s : (List DVersion)) => impl_IsStore_b1 x0 k s) (x0.Segments.length - 0) 0 [] = Sum.inr d17 := rng_end hl24 hF21
        refine QM_block_hit ?_
        refine QM_then ?_
        refine sr ?_
        refine wa ?_
        refine nt' ?_
        refine CM_ret ?_
        exact QM_ret1 rfl rfl (fun W hm => ⟨ret_b (show impl_IsStore_m x0 = true from by unfold impl_IsStore_m; exact cond_t g11 (cond_t g13 (fin_inr hE147 (rfl)))), hm.below⟩)
    ·
      refine CM_condT rfl (nf g13) ?_
      refine sr ?_
      refine wa ?_
      refine nt' ?_
      refine CM_ret ?_
      refine QM_then_ret ?_
      exact QM_ret1 rfl rfl (fun W hm => ⟨ret_b (show impl_IsStore_m x0 = false from by unfold impl_IsStore_m; exact cond_t g11 (cond_f g13 (rfl))), hm.below⟩)
  ·
    refine ws (nf g11) ?_
    refine ws (nf g11) ?_
    refine ws (nf g11) ?_
    refine ws (nf g11) ?_
    refine wv (fun W hm => rv_pickT rfl (nf g11) rfl) ?_
    refine nt' ?_
    refine CM_condT rfl rfl ?_
    refine sr ?_
    refine wa ?_
    refine nt' ?_
    refine CM_ret ?_
    refine QM_then_ret ?_
    exact QM_ret1 rfl rfl (fun W hm => ⟨ret_b (show impl_IsStore_m x0 = false from by unfold impl_IsStore_m; exact cond_f g11 (rfl)), hm.below⟩)

def impl_hasInt_b1 (x0 : (List Int)) (x1 : Int) (k6 : Nat) : Bool ⊕ (Unit) :=
  cond ((gt x0 k6) == x1) (Sum.inl true) (Sum.inr ())
def impl_hasInt_m (x0 : (List Int)) (x1 : Int) : Bool :=
  Sum.elim id (fun (s : Unit) => false) (rng (R := Bool) (fun k (_ : Unit) => impl_hasInt_b1 x0 x1 k) (x0.length - 0) 0 ())
set_option maxRecDepth 100000 in
theorem cb149 : Cb Try.prog 149 := ⟨Try.f149, _, Try.func149, rfl, by decide⟩
set_option maxRecDepth 10000 in
set_option maxHeartbeats 4000000 in
theorem impl_hasInt_c (w : World) (z0 : Value) (x0 : (List Int)) (x1 : Int) (r_0 : rdS tInt w w.heap.size z0 x0) :
    Calls Try.prog 149 #[z0, .int .i64 x1] w fun e w' => e = .returned (.bool (impl_hasInt_m x0 x1)) ∧ Below w.heap.size w w' := by
  have r5 := r_0
  obtain ⟨m1, A2, c3, rfl, q4⟩ := r_0
  refine call_enterM (L := [(0, .slice A2 x0.length c3), (1, .int .i64 x1)]) (N := 17) Try.func149 rfl rfl (Nat.le_of_ble_eq_true rfl) (argsL_cons rfl (argsL_cons rfl argsL_nil)) ?_
  refine sr ?_
  refine wa ?_
  refine nt' ?_
  refine CM_seq ?_
  refine sr ?_
  refine wm ?_
  refine wv (fun W hm => rv_len Try.underlying27 rfl) ?_
  refine wm ?_
  refine nt' ?_
  refine CM_block ?_
  refine CM_loop (σ := Nat × (Unit) × (Unit)) (fun s => [(1, .int .i64 x1), (7, .slice A2 x0.length c3), (8, .int .i64 ((x0.length : Nat) : Int)), (9, .int .i64 ((s.1 : Nat) : Int))]) (fun s => []) (fun s => s.1 ≤ x0.length ∧ rng (R := Bool) (fun k (_ : Unit) => impl_hasInt_b1 x0 x1 k) (x0.length - s.1) s.1 s.2.1 = rng (R := Bool) (fun k (_ : Unit) => impl_hasInt_b1 x0 x1 k) (x0.length - 0) 0 ()) (fun s => x0.length - s.1) (0, (), ()) (subL_cons rfl (subL_cons rfl (subL_cons rfl (subL_cons rfl subL_nil)))) (fun W hm => hm) ⟨(by omega), rfl⟩ ?_
  rintro ⟨k6, ⟨⟩, ⟨⟩⟩ H9
  obtain ⟨hk7, hF8⟩ : k6 ≤ x0.length ∧ rng (R := Bool) (fun k (_ : Unit) => impl_hasInt_b1 x0 x1 k) (x0.length - k6) k6 () = rng (R := Bool) (fun k (_ : Unit) => impl_hasInt_b1 x0 x1 k) (x0.length - 0) 0 () := H9
  show CM Try.prog 17 _ _ _ _ [(1, .int .i64 x1), (7, .slice A2 x0.length c3), (8, .int .i64 ((x0.length : Nat) : Int)), (9, .int .i64 ((k6 : Nat) : Int))] []
  refine sr ?_
  refine wv (fun W hm => rv_lss rfl rfl) ?_
  refine nt' ?_
  refine CM_seq ?_
  by_cases hl10 : k6 < x0.length
  · have g11 : (decide (((k6 : Nat) : Int) < ((x0.length : Nat) : Int))) = true := decide_eq_true (by omega)
    refine CM_condT rfl g11 ?_
    refine CM_skip ?_
    refine QM_then ?_
    refine CM_seq ?_
    refine CM_block ?_
    refine sr ?_
    obtain ⟨a12, rfl, hb13, he14⟩ := q4 (by omega)
    refine wv (fun W hm => rv_index (sz := 1) (k := k6) Try.underlying27 Try.type3 rfl rfl rfl (by omega)) ?_
    refine wv (fun W hm => rv_load Try.underlying3 rfl rfl ((hm.cell0 (show (a12.add (k6 * 1)).block < w.heap.size from by rw [add_block]; exact hb13.1)).trans (rdS_int he14 k6 (by omega)))) ?_
    refine wa ?_
    refine nt' ?_
    refine sr ?_
    refine wm ?_
    refine wm ?_
    refine wv (fun W hm => rv_eql rfl rfl) ?_
    refine nt' ?_
    by_cases h15 : (gt x0 k6) = x1
    · have g16 : ((gt x0 k6) == x1) = true := beq_iff_eq.2 h15
      refine CM_condT rfl g16 ?_
      refine sr ?_
      refine wa ?_
      refine nt' ?_
      refine CM_ret ?_
      refine QM_block_ret ?_
      refine QM_then_ret ?_
      refine QM_then_ret ?_
      refine QM_block_ret ?_
      refine QM_then_ret ?_
      exact QM_ret1 rfl rfl (fun W hm => ⟨ret_b (show impl_hasInt_m x0 x1 = true from by unfold impl_hasInt_m; exact fin_inl (rng_ret (body := (fun k (_ : Unit) => impl_hasInt_b1 x0 x1 k)) (k := k6) (s := ()) (show k6 < x0.length from by omega) (show impl_hasInt_b1 x0 x1 k6 = Sum.inl true from by unfold impl_hasInt_b1; exact cond_t g16 (rfl)) hF8) rfl), hm.below⟩)
    · have g16 : ((gt x0 k6) == x1) = false := beq_eq_false_iff_ne.2 h15
      refine CM_condF rfl g16 ?_
      refine CM_skip ?_
      refine QM_block_normal ?_
      refine QM_then ?_
      refine CM_region ?_
      refine wv (fun W hm => rv_addN (p := k6) (q := 1) rfl rfl (by omega)) ?_
      refine wm ?_
      refine WM_nil ?_
      have hn17 := rng_next (R := Bool) (body := (fun k (_ : Unit) => impl_hasInt_b1 x0 x1 k)) (k := k6) (s := ()) (s' := ()) (show k6 < x0.length from by omega) (show impl_hasInt_b1 x0 x1 k6 = Sum.inr () from by unfold impl_hasInt_b1; exact cond_f g16 (rfl)) hF8
      exact QM_round (k6 + 1, (), ()) (subL_cons rfl (subL_cons rfl (subL_cons rfl (subL_cons rfl subL_nil)))) (fun W hm => hm) ⟨(by omega), hn17⟩ (show x0.length - (k6 + 1) < x0.length - k6 from by omega)
  · have g11 : (decide (((k6 : Nat) : Int) < ((x0.length : Nat) : Int))) = false := decide_eq_false (by omega)
    refine CM_condF rfl g11 ?_
    refine CM_exit ?_
    refine QM_then_exit ?_
    refine QM_then_exit ?_
    have hE18 : rng (R := Bool) (fun k (_ : Unit) => impl_hasInt_b1 x0 x1 k) (x0.length - 0) 0 () = Sum.inr () := rng_end hl10 hF8
    refine QM_block_hit ?_
    refine QM_then ?_
    refine sr ?_
    refine wa ?_
    refine nt' ?_
    refine CM_ret ?_
    exact QM_ret1 rfl rfl (fun W hm => ⟨ret_b (show impl_hasInt_m x0 x1 = false from by unfold impl_hasInt_m; exact fin_inr hE18 (rfl)), hm.below⟩)

def impl_isOrder_b1 (x0 : (List Int)) (k6 : Nat) : Bool ⊕ (Unit) :=
  cond (impl_hasInt_m x0 ((k6 : Nat) : Int)) (Sum.inr ()) (Sum.inl false)
def impl_isOrder_m (x0 : (List Int)) : Bool :=
  Sum.elim id (fun (s : Unit) => (((x0.length : Nat) : Int) == 3)) (rng (R := Bool) (fun k (_ : Unit) => impl_isOrder_b1 x0 k) (3 - 0) 0 ())
set_option maxRecDepth 100000 in
theorem cb142 : Cb Try.prog 142 := ⟨Try.f142, _, Try.func142, rfl, by decide⟩
set_option maxRecDepth 10000 in
set_option maxHeartbeats 4000000 in
theorem impl_isOrder_c (w : World) (z0 : Value) (x0 : (List Int)) (r_0 : rdS tInt w w.heap.size z0 x0) :
    Calls Try.prog 142 #[z0] w fun e w' => e = .returned (.bool (impl_isOrder_m x0)) ∧ Below w.heap.size w w' := by
  have r5 := r_0
  obtain ⟨m1, A2, c3, rfl, q4⟩ := r_0
  refine call_enterM (L := [(0, .slice A2 x0.length c3)]) (N := 15) Try.func142 rfl rfl (Nat.le_of_ble_eq_true rfl) (argsL_cons rfl argsL_nil) ?_
  refine sr ?_
  refine wa ?_
  refine nt' ?_
  refine CM_seq ?_
  refine sr ?_
  refine wa ?_
  refine nt' ?_
  refine CM_block ?_
  refine CM_loop (σ := Nat × (Unit) × (Unit)) (fun s => [(0, .slice A2 x0.length c3), (3, .int .i64 ((s.1 : Nat) : Int))]) (fun s => []) (fun s => s.1 ≤ 3 ∧ rng (R := Bool) (fun k (_ : Unit) => impl_isOrder_b1 x0 k) (3 - s.1) s.1 s.2.1 = rng (R := Bool) (fun k (_ : Unit) => impl_isOrder_b1 x0 k) (3 - 0) 0 ()) (fun s => 3 - s.1) (0, (), ()) (subL_cons rfl (subL_cons rfl subL_nil)) (fun W hm => hm) ⟨(by omega), rfl⟩ ?_
  rintro ⟨k6, ⟨⟩, ⟨⟩⟩ H9
  obtain ⟨hk7, hF8⟩ : k6 ≤ 3 ∧ rng (R := Bool) (fun k (_ : Unit) => impl_isOrder_b1 x0 k) (3 - k6) k6 () = rng (R := Bool) (fun k (_ : Unit) => impl_isOrder_b1 x0 k) (3 - 0) 0 () := H9
  show CM Try.prog 15 _ _ _ _ [(0, .slice A2 x0.length c3), (3, .int .i64 ((k6 : Nat) : Int))] []
  refine CM_seq ?_
  refine sr ?_
  refine wm ?_
  refine wv (fun W hm => rv_lss rfl rfl) ?_
  refine nt' ?_
  by_cases hl10 : k6 < 3
  · have g11 : (decide (((k6 : Nat) : Int) < 3)) = true := decide_eq_true (by omega)
    refine CM_condT rfl g11 ?_
    refine CM_skip ?_
    refine QM_then ?_
    refine CM_seq ?_
    refine CM_block ?_
    refine sr ?_
    refine wm ?_
    refine wm ?_
    refine WM_callV (cl_fn cb149 rfl) (fun W hm => impl_hasInt_c W _ x0 ((k6 : Nat) : Int) (hm.rdS0 r5)) (Wd_none rfl) (by decide) ?_
    refine wv (fun W hm => rv_not rfl) ?_
    refine nt' ?_
    rcases Bool.eq_false_or_eq_true (impl_hasInt_m x0 ((k6 : Nat) : Int)) with g13 | g13
    ·
      refine CM_condF rfl (nt g13) ?_
      refine CM_skip ?_
      refine QM_block_normal ?_
      refine QM_then ?_
      refine CM_region ?_
      refine wm ?_
      refine wv (fun W hm => rv_addN (p := k6) (q := 1) rfl rfl (by omega)) ?_
      refine wa ?_
      refine WM_nil ?_
      have hn14 := rng_next (R := Bool) (body := (fun k (_ : Unit) => impl_isOrder_b1 x0 k)) (k := k6) (s := ()) (s' := ()) (show k6 < 3 from by omega) (show impl_isOrder_b1 x0 k6 = Sum.inr () from by unfold impl_isOrder_b1; exact cond_t g13 (rfl)) hF8
      exact QM_round (k6 + 1, (), ()) (subL_cons rfl (subL_cons rfl subL_nil)) (fun W hm => hm) ⟨(by omega), hn14⟩ (show 3 - (k6 + 1) < 3 - k6 from by omega)
    ·
      refine CM_condT rfl (nf g13) ?_
      refine sr ?_
      refine wa ?_
      refine nt' ?_
      refine CM_ret ?_
      refine QM_block_ret ?_
      refine QM_then_ret ?_
      refine QM_then_ret ?_
      refine QM_block_ret ?_
      refine QM_then_ret ?_
      exact QM_ret1 rfl rfl (fun W hm => ⟨ret_b (show impl_isOrder_m x0 = false from by unfold impl_isOrder_m; exact fin_inl (rng_ret (body := (fun k (_ : Unit) => impl_isOrder_b1 x0 k)) (k := k6) (s := ()) (show k6 < 3 from by omega) (show impl_isOrder_b1 x0 k6 = Sum.inl false from by unfold impl_isOrder_b1; exact cond_f g13 (rfl)) hF8) rfl), hm.below⟩)
  · have g11 : (decide (((k6 : Nat) : Int) < 3)) = false := decide_eq_false (by omega)
    refine CM_condF rfl g11 ?_
    refine CM_exit ?_
    refine QM_then_exit ?_
    refine QM_then_exit ?_
    have hE15 : rng (R := Bool) (fun k (_ : Unit) => impl_isOrder_b1 x0 k) (3 - 0) 0 () = Sum.inr () := rng_end hl10 hF8
    refine QM_block_hit ?_
    refine QM_then ?_
    refine sr ?_
    refine wm ?_
    refine wv (fun W hm => rv_len Try.underlying27 rfl) ?_
    refine wv (fun W hm => rv_eql rfl rfl) ?_
    refine wa ?_
    refine nt' ?_
    refine CM_ret ?_
    exact QM_ret1 rfl rfl (fun W hm => ⟨ret_b (show impl_isOrder_m x0 = (((x0.length : Nat) : Int) == 3) from by unfold impl_isOrder_m; exact fin_inr hE15 (rfl)), hm.below⟩)

def impl_isField_m (x0 : Int) : Bool :=
  (impl_within_m x0 0 2)
set_option maxRecDepth 100000 in
theorem cb152 : Cb Try.prog 152 := ⟨Try.f152, _, Try.func152, rfl, by decide⟩
set_option maxRecDepth 10000 in
set_option maxHeartbeats 4000000 in
theorem impl_isField_c (w : World) (x0 : Int) :
    Calls Try.prog 152 #[.int .i64 x0] w fun e w' => e = .returned (.bool (impl_isField_m x0)) ∧ Below w.heap.size w w' := by
  refine call_enterM (L := [(0, .int .i64 x0)]) (N := 5) Try.func152 rfl rfl (Nat.le_of_ble_eq_true rfl) (argsL_cons rfl argsL_nil) ?_
  refine sr ?_
  refine wa ?_
  refine nt' ?_
  refine sr ?_
  refine wm ?_
  refine WM_callV (cl_fn cb82 rfl) (fun W hm => impl_within_c W x0 0 2) (Wd_none rfl) (by decide) ?_
  refine wa ?_
  refine nt' ?_
  refine CM_ret ?_
  exact QM_ret1 rfl rfl (fun W hm => ⟨ret_b (show impl_isField_m x0 = (impl_within_m x0 0 2) from by unfold impl_isField_m; exact rfl), hm.below⟩)

def impl_IsCond_m (x0 : DCond) : Bool :=
  cond (impl_isField_m x0.Field) (cond (decide (0 ≤ x0.Low)) (cond (decide (x0.Low ≤ x0.High)) (decide (x0.High ≤ 99)) false) false) false
set_option maxRecDepth 100000 in
theorem cb191 : Cb Try.prog 191 := ⟨Try.f191, _, Try.func191, rfl, by decide⟩
set_option maxRecDepth 10000 in
set_option maxHeartbeats 4000000 in
theorem impl_IsCond_c (w : World) (z0 : List Value) (x0 : DCond) (r_0 : tyCond.rd w w.heap.size z0 x0) :
    Calls Try.prog 191 #[.agg z0.toArray] w fun e w' => e = .returned (.bool (impl_IsCond_m x0)) ∧ Below w.heap.size w w' := by
  obtain rfl := tyCond_rd r_0
  refine call_enterM (L := [(0, .agg #[.int .i64 x0.Field, .int .i64 x0.Low, .int .i64 x0.High])]) (N := 23) Try.func191 rfl rfl (Nat.le_of_ble_eq_true rfl) (argsL_cons rfl argsL_nil) ?_
  refine sr ?_
  refine WM_box rfl (Wd_none rfl) (by decide) (fun p1 => ?_)
  refine wa ?_
  refine nt' ?_
  refine sr ?_
  refine wv (fun W hm => rv_field Try.underlying183 rfl Try.type3 (by decide) rfl rfl) ?_
  refine wv (fun W hm => rv_load Try.underlying3 rfl rfl (hm.boxCell (n := 0) (o := 0) rfl rfl)) ?_
  refine WM_callV (cl_fn cb152 rfl) (fun W hm => impl_isField_c W x0.Field) (Wd_none rfl) (by decide) ?_
  refine wm ?_
  rcases Bool.eq_false_or_eq_true (impl_isField_m x0.Field) with g3 | g3
  ·
    refine wg (fun W hm => rv_field Try.underlying183 rfl Try.type3 (by decide) rfl rfl) g3 ?_
    refine wg (fun W hm => rv_load Try.underlying3 rfl rfl (hm.boxCell (n := 0) (o := 1) rfl rfl)) g3 ?_
    refine wg (fun W hm => rv_geq rfl rfl) g3 ?_
    refine wv (fun W hm => rv_pickT rfl g3 rfl) ?_
    refine wm ?_
    by_cases h4 : 0 ≤ x0.Low
    · have g5 : (decide (0 ≤ x0.Low)) = true := decide_eq_true h4
      refine wg (fun W hm => rv_field Try.underlying183 rfl Try.type3 (by decide) rfl rfl) g5 ?_
      refine wg (fun W hm => rv_load Try.underlying3 rfl rfl (hm.boxCell (n := 0) (o := 1) rfl rfl)) g5 ?_
      refine wg (fun W hm => rv_field Try.underlying183 rfl Try.type3 (by decide) rfl rfl) g5 ?_
      refine wg (fun W hm => rv_load Try.underlying3 rfl rfl (hm.boxCell (n := 0) (o := 2) rfl rfl)) g5 ?_
      refine wg (fun W hm => rv_leq rfl rfl) g5 ?_
      refine wv (fun W hm => rv_pickT rfl g5 rfl) ?_
      refine wm ?_
      by_cases h6 : x0.Low ≤ x0.High
      · have g7 : (decide (x0.Low ≤ x0.High)) = true := decide_eq_true h6
        refine wg (fun W hm => rv_field Try.underlying183 rfl Try.type3 (by decide) rfl rfl) g7 ?_
        refine wg (fun W hm => rv_load Try.underlying3 rfl rfl (hm.boxCell (n := 0) (o := 2) rfl rfl)) g7 ?_
        refine wg (fun W hm => rv_leq rfl rfl) g7 ?_
        refine wv (fun W hm => rv_pickT rfl g7 rfl) ?_
        refine wa ?_
        refine nt' ?_
        refine CM_ret ?_
        exact QM_ret1 rfl rfl (fun W hm => ⟨ret_b (show impl_IsCond_m x0 = (decide (x0.High ≤ 99)) from by unfold impl_IsCond_m; exact cond_t g3 (cond_t g5 (cond_t g7 (rfl)))), hm.below⟩)
      · have g7 : (decide (x0.Low ≤ x0.High)) = false := decide_eq_false h6
        refine ws g7 ?_
        refine ws g7 ?_
        refine ws g7 ?_
        refine wv (fun W hm => rv_pickF rfl g7 rfl) ?_
        refine wa ?_
        refine nt' ?_
        refine CM_ret ?_
        exact QM_ret1 rfl rfl (fun W hm => ⟨ret_b (show impl_IsCond_m x0 = false from by unfold impl_IsCond_m; exact cond_t g3 (cond_t g5 (cond_f g7 (rfl)))), hm.below⟩)
    · have g5 : (decide (0 ≤ x0.Low)) = false := decide_eq_false h4
      refine ws g5 ?_
      refine ws g5 ?_
      refine ws g5 ?_
      refine ws g5 ?_
      refine ws g5 ?_
      refine wv (fun W hm => rv_pickF rfl g5 rfl) ?_
      refine wm ?_
      refine WM_skip (Wd_some rfl rfl rfl rfl) rfl (by decide) ?_
      refine WM_skip (Wd_some rfl rfl rfl rfl) rfl (by decide) ?_
      refine WM_skip (Wd_some rfl rfl rfl rfl) rfl (by decide) ?_
      refine wv (fun W hm => rv_pickF rfl rfl rfl) ?_
      refine wa ?_
      refine nt' ?_
      refine CM_ret ?_
      exact QM_ret1 rfl rfl (fun W hm => ⟨ret_b (show impl_IsCond_m x0 = false from by unfold impl_IsCond_m; exact cond_t g3 (cond_f g5 (rfl))), hm.below⟩)
  ·
    refine ws g3 ?_
    refine ws g3 ?_
    refine ws g3 ?_
    refine wv (fun W hm => rv_pickF rfl g3 rfl) ?_
    refine wm ?_
    refine WM_skip (Wd_some rfl rfl rfl rfl) rfl (by decide) ?_
    refine WM_skip (Wd_some rfl rfl rfl rfl) rfl (by decide) ?_
    refine WM_skip (Wd_some rfl rfl rfl rfl) rfl (by decide) ?_
    refine WM_skip (Wd_some rfl rfl rfl rfl) rfl (by decide) ?_
    refine WM_skip (Wd_some rfl rfl rfl rfl) rfl (by decide) ?_
    refine wv (fun W hm => rv_pickF rfl rfl rfl) ?_
    refine wm ?_
    refine WM_skip (Wd_some rfl rfl rfl rfl) rfl (by decide) ?_
    refine WM_skip (Wd_some rfl rfl rfl rfl) rfl (by decide) ?_
    refine WM_skip (Wd_some rfl rfl rfl rfl) rfl (by decide) ?_
    refine wv (fun W hm => rv_pickF rfl rfl rfl) ?_
    refine wa ?_
    refine nt' ?_
    refine CM_ret ?_
    exact QM_ret1 rfl rfl (fun W hm => ⟨ret_b (show impl_IsCond_m x0 = false from by unfold impl_IsCond_m; exact cond_f g3 (rfl)), hm.below⟩)

def impl_IsQuery_b2 (x0 : DQuery) (k45 : Nat) : Bool ⊕ (Unit) :=
  cond (impl_isField_m (gt x0.Out k45)) (Sum.inr ()) (Sum.inl false)
def impl_IsQuery_b1 (x0 : DQuery) (k22 : Nat) : Bool ⊕ (Unit) :=
  cond (impl_IsCond_m (gt x0.Conds k22)) (cond (decide (0 < ((k22 : Nat) : Int))) (cond (decide (((gt x0.Conds k22).Field) ≤ ((gt x0.Conds (k22 - 1)).Field))) (Sum.inl false) (Sum.inr ())) (Sum.inr ())) (Sum.inl false)
def impl_IsQuery_m (x0 : DQuery) : Bool :=
  cond (impl_within_m x0.Id 0 23) (cond (impl_within_m x0.Tenant 0 3) (cond (decide (3 < ((x0.Conds.length : Nat) : Int))) false (Sum.elim id (fun (s : Unit) => Sum.elim id (fun (s : Unit) => (impl_within_m ((x0.Out.length : Nat) : Int) 1 3)) (rng (R := Bool) (fun k (_ : Unit) => impl_IsQuery_b2 x0 k) (x0.Out.length - 0) 0 ())) (rng (R := Bool) (fun k (_ : Unit) => impl_IsQuery_b1 x0 k) (x0.Conds.length - 0) 0 ()))) false) false
set_option maxRecDepth 100000 in
theorem cb144 : Cb Try.prog 144 := ⟨Try.f144, _, Try.func144, rfl, by decide⟩
set_option maxRecDepth 10000 in
set_option maxHeartbeats 4000000 in
theorem impl_IsQuery_c (w : World) (z0 : List Value) (x0 : DQuery) (r_0 : tyQuery.rd w w.heap.size z0 x0) :
    Calls Try.prog 144 #[.agg z0.toArray] w fun e w' => e = .returned (.bool (impl_IsQuery_m x0)) ∧ Below w.heap.size w w' := by
  obtain ⟨v1, v3, rfl, r2, r4⟩ := tyQuery_rd r_0
  have r9 := r2
  obtain ⟨m5, A6, c7, rfl, q8⟩ := r2
  have r14 := r4
  obtain ⟨m10, A11, c12, rfl, q13⟩ := r4
  refine call_enterM (L := [(0, .agg #[.int .i64 x0.Id, .int .i64 x0.Tenant, .slice A6 x0.Conds.length c7, .slice A11 x0.Out.length c12])]) (N := 66) Try.func144 rfl rfl (Nat.le_of_ble_eq_true rfl) (argsL_cons rfl argsL_nil) ?_
  refine sr ?_
  refine WM_box rfl (Wd_none rfl) (by decide) (fun p15 => ?_)
  refine wa ?_
  refine nt' ?_
  refine CM_seq ?_
  refine sr ?_
  refine wv (fun W hm => rv_field Try.underlying125 rfl Try.type3 (by decide) rfl rfl) ?_
  refine wv (fun W hm => rv_load Try.underlying3 rfl rfl (hm.boxCell (n := 0) (o := 0) rfl rfl)) ?_
  refine WM_callV (cl_fn cb82 rfl) (fun W hm => impl_within_c W x0.Id 0 23) (Wd_none rfl) (by decide) ?_
  refine wv (fun W hm => rv_not rfl) ?_
  refine wm ?_
  rcases Bool.eq_false_or_eq_true (impl_within_m x0.Id 0 23) with g17 | g17
  ·
    have hw := impl_within_fact g17
    refine wg (fun W hm => rv_field Try.underlying125 rfl Try.type3 (by decide) rfl rfl) (nt g17) ?_
    refine wg (fun W hm => rv_load Try.underlying3 rfl rfl (hm.boxCell (n := 0) (o := 1) rfl rfl)) (nt g17) ?_
    refine WM_callV (cl_fn cb82 rfl) (fun W hm => impl_within_c W x0.Tenant 0 3) (Wd_some rfl rfl rfl (bw (nt g17) rfl)) (by decide) ?_
    refine wg (fun W hm => rv_not rfl) (nt g17) ?_
    refine wv (fun W hm => rv_pickF rfl (nt g17) rfl) ?_
    refine wm ?_
    rcases Bool.eq_false_or_eq_true (impl_within_m x0.Tenant 0 3) with g19 | g19
    ·
      have hw := impl_within_fact g19
      refine wg (fun W hm => rv_field Try.underlying125 rfl Try.type123 (by decide) rfl rfl) (nt g19) ?_
      refine wg (fun W hm => rv_load Try.underlying123 rfl rfl (hm.boxCell (n := 0) (o := 2) rfl rfl)) (nt g19) ?_
      refine wg (fun W hm => rv_len Try.underlying123 rfl) (nt g19) ?_
      refine wg (fun W hm => rv_gtr rfl rfl) (nt g19) ?_
      refine wv (fun W hm => rv_pickF rfl (nt g19) rfl) ?_
      refine nt' ?_
      by_cases h20 : 3 < ((x0.Conds.length : Nat) : Int)
      · have g21 : (decide (3 < ((x0.Conds.length : Nat) : Int))) = true := decide_eq_true h20
        refine CM_condT rfl g21 ?_
        refine sr ?_
        refine wa ?_
        refine nt' ?_
        refine CM_ret ?_
        refine QM_then_ret ?_
        exact QM_ret1 rfl rfl (fun W hm => ⟨ret_b (show impl_IsQuery_m x0 = false from by unfold impl_IsQuery_m; exact cond_t g17 (cond_t g19 (cond_t g21 (rfl)))), hm.below⟩)
      · have g21 : (decide (3 < ((x0.Conds.length : Nat) : Int))) = false := decide_eq_false h20
        refine CM_condF rfl g21 ?_
        refine CM_skip ?_
        refine QM_then ?_
        refine CM_seq ?_
        refine sr ?_
        refine wv (fun W hm => rv_field Try.underlying125 rfl Try.type123 (by decide) rfl rfl) ?_
        refine wv (fun W hm => rv_load Try.underlying123 rfl rfl (hm.boxCell (n := 0) (o := 2) rfl rfl)) ?_
        refine wv (fun W hm => rv_len Try.underlying123 rfl) ?_
        refine wm ?_
        refine nt' ?_
        refine CM_block ?_
        refine CM_loop (σ := Nat × (Unit) × (Unit)) (fun s => [(1, .pointer (some (⟨p15, 0, none⟩ : Addr))), (24, .slice A6 x0.Conds.length c7), (25, .int .i64 ((x0.Conds.length : Nat) : Int)), (26, .int .i64 ((s.1 : Nat) : Int))]) (fun s => [iBox p15 125 [.int .i64 x0.Id, .int .i64 x0.Tenant, .slice A6 x0.Conds.length c7, .slice A11 x0.Out.length c12]]) (fun s => s.1 ≤ x0.Conds.length ∧ rng (R := Bool) (fun k (_ : Unit) => impl_IsQuery_b1 x0 k) (x0.Conds.length - s.1) s.1 s.2.1 = rng (R := Bool) (fun k (_ : Unit) => impl_IsQuery_b1 x0 k) (x0.Conds.length - 0) 0 ()) (fun s => x0.Conds.length - s.1) (0, (), ()) (subL_cons rfl (subL_cons rfl (subL_cons rfl (subL_cons rfl subL_nil)))) (fun W hm => hm) ⟨(by omega), rfl⟩ ?_
        rintro ⟨k22, ⟨⟩, ⟨⟩⟩ H25
        obtain ⟨hk23, hF24⟩ : k22 ≤ x0.Conds.length ∧ rng (R := Bool) (fun k (_ : Unit) => impl_IsQuery_b1 x0 k) (x0.Conds.length - k22) k22 () = rng (R := Bool) (fun k (_ : Unit) => impl_IsQuery_b1 x0 k) (x0.Conds.length - 0) 0 () := H25
        show CM Try.prog 66 _ _ _ _ [(1, .pointer (some (⟨p15, 0, none⟩ : Addr))), (24, .slice A6 x0.Conds.length c7), (25, .int .i64 ((x0.Conds.length : Nat) : Int)), (26, .int .i64 ((k22 : Nat) : Int))] [iBox p15 125 [.int .i64 x0.Id, .int .i64 x0.Tenant, .slice A6 x0.Conds.length c7, .slice A11 x0.Out.length c12]]
        refine sr ?_
        refine wv (fun W hm => rv_lss rfl rfl) ?_
        refine nt' ?_
        refine CM_seq ?_
        by_cases hl26 : k22 < x0.Conds.length
        · have g27 : (decide (((k22 : Nat) : Int) < ((x0.Conds.length : Nat) : Int))) = true := decide_eq_true (by omega)
          refine CM_condT rfl g27 ?_
          refine CM_skip ?_
          refine QM_then ?_
          refine CM_seq ?_
          refine CM_block ?_
          refine sr ?_
          refine wm ?_
          obtain ⟨a28, rfl, hb29, he30⟩ := q8 (by omega)
          refine wv (fun W hm => rv_index (sz := 3) (k := k22) Try.underlying123 Try.type183 rfl rfl rfl (by omega)) ?_
          obtain ⟨_, e32, hc31⟩ := he30 k22 _ (gt_some (show k22 < x0.Conds.length from by omega))
          obtain rfl := tyCond_rd e32
          refine wv (fun W hm => rv_loadN (cs := [.int .i64 ((gt x0.Conds k22).Field), .int .i64 ((gt x0.Conds k22).Low), .int .i64 ((gt x0.Conds k22).High)]) Try.underlying183 Try.type183 rfl rfl (hm.elCells (show (a28.add (k22 * 3)).block < w.heap.size from by rw [add_block]; exact hb29.1) hc31)) ?_
          refine WM_alloc Try.type183 rfl (Wd_none rfl) (by decide) (fun p33 => ?_)
          refine wa ?_
          refine WM_storeBox (p := p33) (o := 0) (cs := [.int .i64 0, .int .i64 0, .int .i64 0]) (cs' := [.int .i64 ((gt x0.Conds k22).Field), .int .i64 ((gt x0.Conds k22).Low), .int .i64 ((gt x0.Conds k22).High)]) (js := [iBox p15 125 [.int .i64 x0.Id, .int .i64 x0.Tenant, .slice (some a28) x0.Conds.length c7, .slice A11 x0.Out.length c12]]) (fun W hm => hm) Try.type183 rfl (Nat.le_of_ble_eq_true rfl) rfl rfl rfl rfl (Wd_none rfl) ?_
          refine nt' ?_
          refine CM_seq ?_
          refine CM_regionD (by kernel_rfl) (by kernel_rfl) ?_
          refine qv (fun W hm => rv_loadN (cs := [.int .i64 ((gt x0.Conds k22).Field), .int .i64 ((gt x0.Conds k22).Low), .int .i64 ((gt x0.Conds k22).High)]) Try.underlying183 Try.type183 rfl rfl (hm.boxCells (n := 0) rfl)) ?_
          refine QR_callV (cl_fn cb191 rfl) (fun W hm => impl_IsCond_c W _ (gt x0.Conds k22) (tyCond_mk (x := (gt x0.Conds k22)))) (Wd_none rfl) (by decide) ?_
          refine qv (fun W hm => rv_not rfl) ?_
          refine qm ?_
          rcases Bool.eq_false_or_eq_true (impl_IsCond_m (gt x0.Conds k22)) with g35 | g35
          ·
            refine qg (fun W hm => rv_move rfl) (nt g35) ?_
            refine qg (fun W hm => rv_gtr rfl rfl) (nt g35) ?_
            refine qg (fun W hm => rv_move rfl) (nt g35) ?_
            by_cases h36 : 0 < ((k22 : Nat) : Int)
            · have g37 : (decide (0 < ((k22 : Nat) : Int))) = true := decide_eq_true h36
              refine qg (fun W hm => rv_field Try.underlying125 rfl Try.type123 (by decide) rfl rfl) g37 ?_
              refine qg (fun W hm => rv_load Try.underlying123 rfl rfl (hm.boxCell (n := 1) (o := 2) rfl rfl)) g37 ?_
              refine qg (fun W hm => rv_move rfl) g37 ?_
              refine qg (fun W hm => rv_subN (p := k22) (q := 1) rfl rfl (by omega) (by omega)) g37 ?_
              refine qg (fun W hm => rv_index (sz := 3) (k := k22 - 1) Try.underlying123 Try.type183 rfl rfl rfl (by omega)) g37 ?_
              refine qg (fun W hm => rv_field Try.underlying183 rfl Try.type3 (by decide) rfl rfl) g37 ?_
              obtain ⟨_, e39, hc38⟩ := he30 (k22 - 1) _ (gt_some (show (k22 - 1) < x0.Conds.length from by omega))
              obtain rfl := tyCond_rd e39
              refine qg (fun W hm => rv_load Try.underlying3 rfl rfl ((hm.cell0 (show ((a28.add ((k22 - 1) * 3)).add 0).block < w.heap.size from by rw [add_block, add_block]; exact hb29.1)).trans (hc38 0 _ rfl))) g37 ?_
              refine qg (fun W hm => rv_field Try.underlying183 rfl Try.type3 (by decide) rfl rfl) g37 ?_
              refine qg (fun W hm => rv_load Try.underlying3 rfl rfl (hm.boxCell (n := 0) (o := 0) rfl rfl)) g37 ?_
              refine qg (fun W hm => rv_geq rfl rfl) g37 ?_
              refine qg (fun W hm => rv_pickT rfl g37 rfl) (nt g35) ?_
              refine qv (fun W hm => rv_pickF rfl (nt g35) rfl) ?_
              refine nq' ?_
              by_cases h40 : ((gt x0.Conds k22).Field) ≤ ((gt x0.Conds (k22 - 1)).Field)
              · have g41 : (decide (((gt x0.Conds k22).Field) ≤ ((gt x0.Conds (k22 - 1)).Field))) = true := decide_eq_true h40
                refine CM_condT rfl g41 ?_
                refine sr ?_
                refine wa ?_
                refine nt' ?_
                refine CM_ret ?_
                refine QM_block_ret ?_
                refine QM_then_ret ?_
                refine QM_then_ret ?_
                refine QM_block_ret ?_
                refine QM_then_ret ?_
                exact QM_ret1 rfl rfl (fun W hm => ⟨ret_b (show impl_IsQuery_m x0 = false from by unfold impl_IsQuery_m; exact cond_t g17 (cond_t g19 (cond_f g21 (fin_inl (rng_ret (body := (fun k (_ : Unit) => impl_IsQuery_b1 x0 k)) (k := k22) (s := ()) (show k22 < x0.Conds.length from by omega) (show impl_IsQuery_b1 x0 k22 = Sum.inl false from by unfold impl_IsQuery_b1; exact cond_t g35 (cond_t g37 (cond_t g41 (rfl)))) hF24) rfl)))), hm.below⟩)
              · have g41 : (decide (((gt x0.Conds k22).Field) ≤ ((gt x0.Conds (k22 - 1)).Field))) = false := decide_eq_false h40
                refine CM_condF rfl g41 ?_
                refine CM_skip ?_
                refine QM_block_normal ?_
                refine QM_then ?_
                refine CM_region ?_
                refine wv (fun W hm => rv_addN (p := k22) (q := 1) rfl rfl (by omega)) ?_
                refine wm ?_
                refine WM_nil ?_
                have hn42 := rng_next (R := Bool) (body := (fun k (_ : Unit) => impl_IsQuery_b1 x0 k)) (k := k22) (s := ()) (s' := ()) (show k22 < x0.Conds.length from by omega) (show impl_IsQuery_b1 x0 k22 = Sum.inr () from by unfold impl_IsQuery_b1; exact cond_t g35 (cond_t g37 (cond_f g41 (rfl)))) hF24
                exact QM_round (k22 + 1, (), ()) (subL_cons rfl (subL_cons rfl (subL_cons rfl (subL_cons rfl subL_nil)))) (fun W hm => (hm.pick [1] (by decide))) ⟨(by omega), hn42⟩ (show x0.Conds.length - (k22 + 1) < x0.Conds.length - k22 from by omega)
            · have g37 : (decide (0 < ((k22 : Nat) : Int))) = false := decide_eq_false h36
              refine qs g37 ?_
              refine qs g37 ?_
              refine qs g37 ?_
              refine qs g37 ?_
              refine qs g37 ?_
              refine qs g37 ?_
              refine qs g37 ?_
              refine qs g37 ?_
              refine qs g37 ?_
              refine qs g37 ?_
              refine qg (fun W hm => rv_pickF rfl g37 rfl) (nt g35) ?_
              refine qv (fun W hm => rv_pickF rfl (nt g35) rfl) ?_
              refine nq' ?_
              refine CM_condF rfl rfl ?_
              refine CM_skip ?_
              refine QM_block_normal ?_
              refine QM_then ?_
              refine CM_region ?_
              refine wv (fun W hm => rv_addN (p := k22) (q := 1) rfl rfl (by omega)) ?_
              refine wm ?_
              refine WM_nil ?_
              have hn43 := rng_next (R := Bool) (body := (fun k (_ : Unit) => impl_IsQuery_b1 x0 k)) (k := k22) (s := ()) (s' := ()) (show k22 < x0.Conds.length from by omega) (show impl_IsQuery_b1 x0 k22 = Sum.inr () from by unfold impl_IsQuery_b1; exact cond_t g35 (cond_f g37 (rfl))) hF24
              exact QM_round (k22 + 1, (), ()) (subL_cons rfl (subL_cons rfl (subL_cons rfl (subL_cons rfl subL_nil)))) (fun W hm => (hm.pick [1] (by decide))) ⟨(by omega), hn43⟩ (show x0.Conds.length - (k22 + 1) < x0.Conds.length - k22 from by omega)
          ·
            refine qs (nf g35) ?_
            refine qs (nf g35) ?_
            refine qs (nf g35) ?_
            refine qu ?_
            refine qu ?_
            refine qu ?_
            refine qu ?_
            refine qu ?_
            refine qu ?_
            refine qu ?_
            refine qu ?_
            refine qu ?_
            refine qu ?_
            refine qs (nf g35) ?_
            refine qv (fun W hm => rv_pickT rfl (nf g35) rfl) ?_
            refine nq' ?_
            refine CM_condT rfl rfl ?_
            refine sr ?_
            refine wa ?_
            refine nt' ?_
            refine CM_ret ?_
            refine QM_block_ret ?_
            refine QM_then_ret ?_
            refine QM_then_ret ?_
            refine QM_block_ret ?_
            refine QM_then_ret ?_
            exact QM_ret1 rfl rfl (fun W hm => ⟨ret_b (show impl_IsQuery_m x0 = false from by unfold impl_IsQuery_m; exact cond_t g17 (cond_t g19 (cond_f g21 (fin_inl (rng_ret (body := (fun k (_ : Unit) => impl_IsQuery_b1 x0 k)) (k := k22) (s := ()) (show k22 < x0.Conds.length from by omega) (show impl_IsQuery_b1 x0 k22 = Sum.inl false from by unfold impl_IsQuery_b1; exact cond_f g35 (rfl)) hF24) rfl)))), hm.below⟩)
        · have g27 : (decide (((k22 : Nat) : Int) < ((x0.Conds.length : Nat) : Int))) = false := decide_eq_false (by omega)
          refine CM_condF rfl g27 ?_
          refine CM_exit ?_
          refine QM_then_exit ?_
          refine QM_then_exit ?_
          have hE44 : rng (R := Bool) (fun k (_ : Unit) => impl_IsQuery_b1 x0 k) (x0.Conds.length - 0) 0 () = Sum.inr () := rng_end hl26 hF24
          refine QM_block_hit ?_
          refine QM_then ?_
          refine CM_seq ?_
          refine sr ?_
          refine wv (fun W hm => rv_field Try.underlying125 rfl Try.type27 (by decide) rfl rfl) ?_
          refine wv (fun W hm => rv_load Try.underlying27 rfl rfl (hm.boxCell (n := 0) (o := 3) rfl rfl)) ?_
          refine wv (fun W hm => rv_len Try.underlying27 rfl) ?_
          refine wm ?_
          refine nt' ?_
          refine CM_block ?_
          refine CM_loop (σ := Nat × (Unit) × (Unit)) (fun s => [(1, .pointer (some (⟨p15, 0, none⟩ : Addr))), (52, .slice A11 x0.Out.length c12), (53, .int .i64 ((x0.Out.length : Nat) : Int)), (54, .int .i64 ((s.1 : Nat) : Int))]) (fun s => [iBox p15 125 [.int .i64 x0.Id, .int .i64 x0.Tenant, .slice A6 x0.Conds.length c7, .slice A11 x0.Out.length c12]]) (fun s => s.1 ≤ x0.Out.length ∧ rng (R := Bool) (fun k (_ : Unit) => impl_IsQuery_b2 x0 k) (x0.Out.length - s.1) s.1 s.2.1 = rng (R := Bool) (fun k (_ : Unit) => impl_IsQuery_b2 x0 k) (x0.Out.length - 0) 0 ()) (fun s => x0.Out.length - s.1) (0, (), ()) (subL_cons rfl (subL_cons rfl (subL_cons rfl (subL_cons rfl subL_nil)))) (fun W hm => hm) ⟨(by omega), rfl⟩ ?_
          rintro ⟨k45, ⟨⟩, ⟨⟩⟩ H48
          obtain ⟨hk46, hF47⟩ : k45 ≤ x0.Out.length ∧ rng (R := Bool) (fun k (_ : Unit) => impl_IsQuery_b2 x0 k) (x0.Out.length - k45) k45 () = rng (R := Bool) (fun k (_ : Unit) => impl_IsQuery_b2 x0 k) (x0.Out.length - 0) 0 () := H48
          show CM Try.prog 66 _ _ _ _ [(1, .pointer (some (⟨p15, 0, none⟩ : Addr))), (52, .slice A11 x0.Out.length c12), (53, .int .i64 ((x0.Out.length : Nat) : Int)), (54, .int .i64 ((k45 : Nat) : Int))] [iBox p15 125 [.int .i64 x0.Id, .int .i64 x0.Tenant, .slice A6 x0.Conds.length c7, .slice A11 x0.Out.length c12]]
          refine sr ?_
          refine wv (fun W hm => rv_lss rfl rfl) ?_
          refine nt' ?_
          refine CM_seq ?_
          by_cases hl49 : k45 < x0.Out.length
          · have g50 : (decide (((k45 : Nat) : Int) < ((x0.Out.length : Nat) : Int))) = true := decide_eq_true (by omega)
            refine CM_condT rfl g50 ?_
            refine CM_skip ?_
            refine QM_then ?_
            refine CM_seq ?_
            refine CM_block ?_
            refine sr ?_
            obtain ⟨a51, rfl, hb52, he53⟩ := q13 (by omega)
            refine wv (fun W hm => rv_index (sz := 1) (k := k45) Try.underlying27 Try.type3 rfl rfl rfl (by omega)) ?_
            refine wv (fun W hm => rv_load Try.underlying3 rfl rfl ((hm.cell0 (show (a51.add (k45 * 1)).block < w.heap.size from by rw [add_block]; exact hb52.1)).trans (rdS_int he53 k45 (by omega)))) ?_
            refine wa ?_
            refine nt' ?_
            refine sr ?_
            refine wm ?_
            refine WM_callV (cl_fn cb152 rfl) (fun W hm => impl_isField_c W (gt x0.Out k45)) (Wd_none rfl) (by decide) ?_
            refine wv (fun W hm => rv_not rfl) ?_
            refine nt' ?_
            rcases Bool.eq_false_or_eq_true (impl_isField_m (gt x0.Out k45)) with g55 | g55
            ·
              refine CM_condF rfl (nt g55) ?_
              refine CM_skip ?_
              refine QM_block_normal ?_
              refine QM_then ?_
              refine CM_region ?_
              refine wv (fun W hm => rv_addN (p := k45) (q := 1) rfl rfl (by omega)) ?_
              refine wm ?_
              refine WM_nil ?_
              have hn56 := rng_next (R := Bool) (body := (fun k (_ : Unit) => impl_IsQuery_b2 x0 k)) (k := k45) (s := ()) (s' := ()) (show k45 < x0.Out.length from by omega) (show impl_IsQuery_b2 x0 k45 = Sum.inr () from by unfold impl_IsQuery_b2; exact cond_t g55 (rfl)) hF47
              exact QM_round (k45 + 1, (), ()) (subL_cons rfl (subL_cons rfl (subL_cons rfl (subL_cons rfl subL_nil)))) (fun W hm => hm) ⟨(by omega), hn56⟩ (show x0.Out.length - (k45 + 1) < x0.Out.length - k45 from by omega)
            ·
              refine CM_condT rfl (nf g55) ?_
              refine sr ?_
              refine wa ?_
              refine nt' ?_
              refine CM_ret ?_
              refine QM_block_ret ?_
              refine QM_then_ret ?_
              refine QM_then_ret ?_
              refine QM_block_ret ?_
              refine QM_then_ret ?_
              exact QM_ret1 rfl rfl (fun W hm => ⟨ret_b (show impl_IsQuery_m x0 = false from by unfold impl_IsQuery_m; exact cond_t g17 (cond_t g19 (cond_f g21 (fin_inr hE44 (fin_inl (rng_ret (body := (fun k (_ : Unit) => impl_IsQuery_b2 x0 k)) (k := k45) (s := ()) (show k45 < x0.Out.length from by omega) (show impl_IsQuery_b2 x0 k45 = Sum.inl false from by unfold impl_IsQuery_b2; exact cond_f g55 (rfl)) hF47) rfl))))), hm.below⟩)
          · have g50 : (decide (((k45 : Nat) : Int) < ((x0.Out.length : Nat) : Int))) = false := decide_eq_false (by omega)
            refine CM_condF rfl g50 ?_
            refine CM_exit ?_
            refine QM_then_exit ?_
            refine QM_then_exit ?_
            have hE57 : rng (R := Bool) (fun k (_ : Unit) => impl_IsQuery_b2 x0 k) (x0.Out.length - 0) 0 () = Sum.inr () := rng_end hl49 hF47
            refine QM_block_hit ?_
            refine QM_then ?_
            refine sr ?_
            refine wv (fun W hm => rv_field Try.underlying125 rfl Try.type27 (by decide) rfl rfl) ?_
            refine wv (fun W hm => rv_load Try.underlying27 rfl rfl (hm.boxCell (n := 0) (o := 3) rfl rfl)) ?_
            refine wv (fun W hm => rv_len Try.underlying27 rfl) ?_
            refine WM_callV (cl_fn cb82 rfl) (fun W hm => impl_within_c W ((x0.Out.length : Nat) : Int) 1 3) (Wd_none rfl) (by decide) ?_
            refine wa ?_
            refine nt' ?_
            refine CM_ret ?_
            exact QM_ret1 rfl rfl (fun W hm => ⟨ret_b (show impl_IsQuery_m x0 = (impl_within_m ((x0.Out.length : Nat) : Int) 1 3) from by unfold impl_IsQuery_m; exact cond_t g17 (cond_t g19 (cond_f g21 (fin_inr hE44 (fin_inr hE57 (rfl)))))), hm.below⟩)
    ·
      refine ws (nf g19) ?_
      refine ws (nf g19) ?_
      refine ws (nf g19) ?_
      refine ws (nf g19) ?_
      refine wv (fun W hm => rv_pickT rfl (nf g19) rfl) ?_
      refine nt' ?_
      refine CM_condT rfl rfl ?_
      refine sr ?_
      refine wa ?_
      refine nt' ?_
      refine CM_ret ?_
      refine QM_then_ret ?_
      exact QM_ret1 rfl rfl (fun W hm => ⟨ret_b (show impl_IsQuery_m x0 = false from by unfold impl_IsQuery_m; exact cond_t g17 (cond_f g19 (rfl))), hm.below⟩)
  ·
    refine ws (nf g17) ?_
    refine ws (nf g17) ?_
    refine ws (nf g17) ?_
    refine ws (nf g17) ?_
    refine wv (fun W hm => rv_pickT rfl (nf g17) rfl) ?_
    refine wm ?_
    refine WM_skip (Wd_some rfl rfl rfl rfl) rfl (by decide) ?_
    refine WM_skip (Wd_some rfl rfl rfl rfl) rfl (by decide) ?_
    refine WM_skip (Wd_some rfl rfl rfl rfl) rfl (by decide) ?_
    refine WM_skip (Wd_some rfl rfl rfl rfl) rfl (by decide) ?_
    refine wv (fun W hm => rv_pickT rfl rfl rfl) ?_
    refine nt' ?_
    refine CM_condT rfl rfl ?_
    refine sr ?_
    refine wa ?_
    refine nt' ?_
    refine CM_ret ?_
    refine QM_then_ret ?_
    exact QM_ret1 rfl rfl (fun W hm => ⟨ret_b (show impl_IsQuery_m x0 = false from by unfold impl_IsQuery_m; exact cond_f g17 (rfl)), hm.below⟩)

def impl_allRows_b1 (x0 : (List DRow)) (k6 : Nat) : Bool ⊕ (Unit) :=
  cond (impl_IsRow_m (gt x0 k6)) (Sum.inr ()) (Sum.inl false)
def impl_allRows_m (x0 : (List DRow)) : Bool :=
  Sum.elim id (fun (s : Unit) => true) (rng (R := Bool) (fun k (_ : Unit) => impl_allRows_b1 x0 k) (x0.length - 0) 0 ())
set_option maxRecDepth 100000 in
theorem cb164 : Cb Try.prog 164 := ⟨Try.f164, _, Try.func164, rfl, by decide⟩
set_option maxRecDepth 10000 in
set_option maxHeartbeats 4000000 in
theorem impl_allRows_c (w : World) (z0 : Value) (x0 : (List DRow)) (r_0 : rdS tyRow w w.heap.size z0 x0) :
    Calls Try.prog 164 #[z0] w fun e w' => e = .returned (.bool (impl_allRows_m x0)) ∧ Below w.heap.size w w' := by
  have r5 := r_0
  obtain ⟨m1, A2, c3, rfl, q4⟩ := r_0
  refine call_enterM (L := [(0, .slice A2 x0.length c3)]) (N := 15) Try.func164 rfl rfl (Nat.le_of_ble_eq_true rfl) (argsL_cons rfl argsL_nil) ?_
  refine sr ?_
  refine wa ?_
  refine nt' ?_
  refine CM_seq ?_
  refine sr ?_
  refine wm ?_
  refine wv (fun W hm => rv_len Try.underlying39 rfl) ?_
  refine wm ?_
  refine nt' ?_
  refine CM_block ?_
  refine CM_loop (σ := Nat × (Unit) × (Unit)) (fun s => [(5, .slice A2 x0.length c3), (6, .int .i64 ((x0.length : Nat) : Int)), (7, .int .i64 ((s.1 : Nat) : Int))]) (fun s => []) (fun s => s.1 ≤ x0.length ∧ rng (R := Bool) (fun k (_ : Unit) => impl_allRows_b1 x0 k) (x0.length - s.1) s.1 s.2.1 = rng (R := Bool) (fun k (_ : Unit) => impl_allRows_b1 x0 k) (x0.length - 0) 0 ()) (fun s => x0.length - s.1) (0, (), ()) (subL_cons rfl (subL_cons rfl (subL_cons rfl subL_nil))) (fun W hm => hm) ⟨(by omega), rfl⟩ ?_
  rintro ⟨k6, ⟨⟩, ⟨⟩⟩ H9
  obtain ⟨hk7, hF8⟩ : k6 ≤ x0.length ∧ rng (R := Bool) (fun k (_ : Unit) => impl_allRows_b1 x0 k) (x0.length - k6) k6 () = rng (R := Bool) (fun k (_ : Unit) => impl_allRows_b1 x0 k) (x0.length - 0) 0 () := H9
  show CM Try.prog 15 _ _ _ _ [(5, .slice A2 x0.length c3), (6, .int .i64 ((x0.length : Nat) : Int)), (7, .int .i64 ((k6 : Nat) : Int))] []
  refine sr ?_
  refine wv (fun W hm => rv_lss rfl rfl) ?_
  refine nt' ?_
  refine CM_seq ?_
  by_cases hl10 : k6 < x0.length
  · have g11 : (decide (((k6 : Nat) : Int) < ((x0.length : Nat) : Int))) = true := decide_eq_true (by omega)
    refine CM_condT rfl g11 ?_
    refine CM_skip ?_
    refine QM_then ?_
    refine CM_seq ?_
    refine CM_block ?_
    refine sr ?_
    obtain ⟨a12, rfl, hb13, he14⟩ := q4 (by omega)
    refine wv (fun W hm => rv_index (sz := 2) (k := k6) Try.underlying39 Try.type29 rfl rfl rfl (by omega)) ?_
    obtain ⟨_, e18, hc15⟩ := he14 k6 _ (gt_some (show k6 < x0.length from by omega))
    obtain ⟨v16, rfl, r17⟩ := tyRow_rd e18
    have r23 := r17
    obtain ⟨m19, A20, c21, rfl, q22⟩ := r17
    refine wv (fun W hm => rv_loadN (cs := [.int .i64 ((gt x0 k6).Id), .slice A20 ((gt x0 k6).Values).length c21]) Try.underlying29 Try.type29 rfl rfl (hm.elCells (show (a12.add (k6 * 2)).block < w.heap.size from by rw [add_block]; exact hb13.1) hc15)) ?_
    refine WM_alloc Try.type29 rfl (Wd_none rfl) (by decide) (fun p24 => ?_)
    refine WM_storeBox (p := p24) (o := 0) (cs := [.int .i64 0, .slice none 0 0]) (cs' := [.int .i64 ((gt x0 k6).Id), .slice A20 ((gt x0 k6).Values).length c21]) (js := []) (fun W hm => hm) Try.type29 rfl (Nat.le_of_ble_eq_true rfl) rfl rfl rfl rfl (Wd_none rfl) ?_
    refine nt' ?_
    refine sr ?_
    refine wv (fun W hm => rv_loadN (cs := [.int .i64 ((gt x0 k6).Id), .slice A20 ((gt x0 k6).Values).length c21]) Try.underlying29 Try.type29 rfl rfl (hm.boxCells (n := 0) rfl)) ?_
    refine WM_callV (cl_fn cb83 rfl) (fun W hm => impl_IsRow_c W _ (gt x0 k6) (tyRow_mk (x := (gt x0 k6)) (hm.rdS0 r23))) (Wd_none rfl) (by decide) ?_
    refine wv (fun W hm => rv_not rfl) ?_
    refine nt' ?_
    rcases Bool.eq_false_or_eq_true (impl_IsRow_m (gt x0 k6)) with g26 | g26
    ·
      refine CM_condF rfl (nt g26) ?_
      refine CM_skip ?_
      refine QM_block_normal ?_
      refine QM_then ?_
      refine CM_region ?_
      refine wv (fun W hm => rv_addN (p := k6) (q := 1) rfl rfl (by omega)) ?_
      refine wm ?_
      refine WM_nil ?_
      have hn27 := rng_next (R := Bool) (body := (fun k (_ : Unit) => impl_allRows_b1 x0 k)) (k := k6) (s := ()) (s' := ()) (show k6 < x0.length from by omega) (show impl_allRows_b1 x0 k6 = Sum.inr () from by unfold impl_allRows_b1; exact cond_t g26 (rfl)) hF8
      exact QM_round (k6 + 1, (), ()) (subL_cons rfl (subL_cons rfl (subL_cons rfl subL_nil))) (fun W hm => (hm.pick [] (by decide))) ⟨(by omega), hn27⟩ (show x0.length - (k6 + 1) < x0.length - k6 from by omega)
    ·
      refine CM_condT rfl (nf g26) ?_
      refine sr ?_
      refine wa ?_
      refine nt' ?_
      refine CM_ret ?_
      refine QM_block_ret ?_
      refine QM_then_ret ?_
      refine QM_then_ret ?_
      refine QM_block_ret ?_
      refine QM_then_ret ?_
      exact QM_ret1 rfl rfl (fun W hm => ⟨ret_b (show impl_allRows_m x0 = false from by unfold impl_allRows_m; exact fin_inl (rng_ret (body := (fun k (_ : Unit) => impl_allRows_b1 x0 k)) (k := k6) (s := ()) (show k6 < x0.length from by omega) (show impl_allRows_b1 x0 k6 = Sum.inl false from by unfold impl_allRows_b1; exact cond_f g26 (rfl)) hF8) rfl), hm.below⟩)
  · have g11 : (decide (((k6 : Nat) : Int) < ((x0.length : Nat) : Int))) = false := decide_eq_false (by omega)
    refine CM_condF rfl g11 ?_
    refine CM_exit ?_
    refine QM_then_exit ?_
    refine QM_then_exit ?_
    have hE28 : rng (R := Bool) (fun k (_ : Unit) => impl_allRows_b1 x0 k) (x0.length - 0) 0 () = Sum.inr () := rng_end hl10 hF8
    refine QM_block_hit ?_
    refine QM_then ?_
    refine sr ?_
    refine wa ?_
    refine nt' ?_
    refine CM_ret ?_
    exact QM_ret1 rfl rfl (fun W hm => ⟨ret_b (show impl_allRows_m x0 = true from by unfold impl_allRows_m; exact fin_inr hE28 (rfl)), hm.below⟩)

def impl_resultOk_m (x0 : (List DRow)) : Bool :=
  cond (decide (((x0.length : Nat) : Int) ≤ 1000)) (impl_allRows_m x0) false
set_option maxRecDepth 100000 in
theorem cb145 : Cb Try.prog 145 := ⟨Try.f145, _, Try.func145, rfl, by decide⟩
set_option maxRecDepth 10000 in
set_option maxHeartbeats 4000000 in
theorem impl_resultOk_c (w : World) (z0 : Value) (x0 : (List DRow)) (r_0 : rdS tyRow w w.heap.size z0 x0) :
    Calls Try.prog 145 #[z0] w fun e w' => e = .returned (.bool (impl_resultOk_m x0)) ∧ Below w.heap.size w w' := by
  have r5 := r_0
  obtain ⟨m1, A2, c3, rfl, q4⟩ := r_0
  refine call_enterM (L := [(0, .slice A2 x0.length c3)]) (N := 10) Try.func145 rfl rfl (Nat.le_of_ble_eq_true rfl) (argsL_cons rfl argsL_nil) ?_
  refine sr ?_
  refine wa ?_
  refine nt' ?_
  refine sr ?_
  refine wm ?_
  refine wv (fun W hm => rv_len Try.underlying39 rfl) ?_
  refine wv (fun W hm => rv_leq rfl rfl) ?_
  refine wm ?_
  by_cases h6 : ((x0.length : Nat) : Int) ≤ 1000
  · have g7 : (decide (((x0.length : Nat) : Int) ≤ 1000)) = true := decide_eq_true h6
    refine wg (fun W hm => rv_move rfl) g7 ?_
    refine WM_callV (cl_fn cb164 rfl) (fun W hm => impl_allRows_c W _ x0 (hm.rdS0 r5)) (Wd_some rfl rfl rfl (bw g7 rfl)) (by decide) ?_
    refine wv (fun W hm => rv_pickT rfl g7 rfl) ?_
    refine wa ?_
    refine nt' ?_
    refine CM_ret ?_
    exact QM_ret1 rfl rfl (fun W hm => ⟨ret_b (show impl_resultOk_m x0 = (impl_allRows_m x0) from by unfold impl_resultOk_m; exact cond_t g7 (rfl)), hm.below⟩)
  · have g7 : (decide (((x0.length : Nat) : Int) ≤ 1000)) = false := decide_eq_false h6
    refine ws g7 ?_
    refine ws g7 ?_
    refine wv (fun W hm => rv_pickF rfl g7 rfl) ?_
    refine wa ?_
    refine nt' ?_
    refine CM_ret ?_
    exact QM_ret1 rfl rfl (fun W hm => ⟨ret_b (show impl_resultOk_m x0 = false from by unfold impl_resultOk_m; exact cond_f g7 (rfl)), hm.below⟩)

def impl_activeOk_b1 (x0 : DStore) (x1 : DActive) (k38 : Nat) : Bool ⊕ (Unit) :=
  cond (impl_within_m (gt x1.Todo k38) 0 (IntKind.i64.wrap (((x0.Segments.length : Nat) : Int) - 1))) (cond (decide (0 < ((k38 : Nat) : Int))) (cond (decide ((gt x1.Todo k38) ≤ (gt x1.Todo (k38 - 1)))) (Sum.inl false) (Sum.inr ())) (Sum.inr ())) (Sum.inl false)
def impl_activeOk_m (x0 : DStore) (x1 : DActive) : Bool :=
  Sum.elim id (fun (s : Unit) => cond (decide (0 < ((x1.Todo.length : Nat) : Int))) (cond (impl_IsQuery_m x1.Query) (cond (impl_within_m x1.Time 0 x0.Now) (cond (impl_within_m x1.Age 0 100000) (cond (impl_within_m x1.Sent 0 1000) (cond (impl_within_m x1.Cap 0 32) (impl_resultOk_m x1.Rows) false) false) false) false) false) false) (rng (R := Bool) (fun k (_ : Unit) => impl_activeOk_b1 x0 x1 k) (x1.Todo.length - 0) 0 ())
set_option maxRecDepth 100000 in
theorem cb143 : Cb Try.prog 143 := ⟨Try.f143, _, Try.func143, rfl, by decide⟩
set_option maxRecDepth 10000 in
set_option maxHeartbeats 4000000 in
theorem impl_activeOk_c (w : World) (z0 : List Value) (x0 : DStore) (z1 : List Value) (x1 : DActive) (r_0 : tyStore.rd w w.heap.size z0 x0) (r_1 : tyActive.rd w w.heap.size z1 x1) :
    Calls Try.prog 143 #[.agg z0.toArray, .agg z1.toArray] w fun e w' => e = .returned (.bool (impl_activeOk_m x0 x1)) ∧ Below w.heap.size w w' := by
  obtain ⟨v1, rfl, r2⟩ := tyStore_rd r_0
  have r7 := r2
  obtain ⟨m3, A4, c5, rfl, q6⟩ := r2
  obtain ⟨v8, v10, v12, v14, rfl, r9, r11, r13, r15⟩ := tyActive_rd r_1
  have r20 := r9
  obtain ⟨m16, A17, c18, rfl, q19⟩ := r9
  have r25 := r11
  obtain ⟨m21, A22, c23, rfl, q24⟩ := r11
  have r30 := r13
  obtain ⟨m26, A27, c28, rfl, q29⟩ := r13
  have r35 := r15
  obtain ⟨m31, A32, c33, rfl, q34⟩ := r15
  refine call_enterM (L := [(0, .agg #[.slice A4 x0.Segments.length c5, .int .i64 x0.Now]), (1, .agg #[.int .i64 x1.Query.Id, .int .i64 x1.Query.Tenant, .slice A17 x1.Query.Conds.length c18, .slice A22 x1.Query.Out.length c23, .int .i64 x1.Time, .slice A27 x1.Todo.length c28, .int .i64 x1.Age, .int .i64 x1.Sent, .int .i64 x1.Cap, .slice A32 x1.Rows.length c33])]) (N := 73) Try.func143 rfl rfl (Nat.le_of_ble_eq_true rfl) (argsL_cons rfl (argsL_cons rfl argsL_nil)) ?_
  refine sr ?_
  refine WM_box rfl (Wd_none rfl) (by decide) (fun p36 => ?_)
  refine WM_box rfl (Wd_none rfl) (by decide) (fun p37 => ?_)
  refine wa ?_
  refine nt' ?_
  refine CM_seq ?_
  refine sr ?_
  refine wv (fun W hm => rv_field Try.underlying127 rfl Try.type27 (by decide) rfl rfl) ?_
  refine wv (fun W hm => rv_load Try.underlying27 rfl rfl (hm.boxCell (n := 0) (o := 5) rfl rfl)) ?_
  refine wv (fun W hm => rv_len Try.underlying27 rfl) ?_
  refine wm ?_
  refine nt' ?_
  refine CM_block ?_
  refine CM_loop (σ := Nat × (Unit) × (Unit)) (fun s => [(2, .pointer (some (⟨p36, 0, none⟩ : Addr))), (3, .pointer (some (⟨p37, 0, none⟩ : Addr))), (8, .slice A27 x1.Todo.length c28), (9, .int .i64 ((x1.Todo.length : Nat) : Int)), (10, .int .i64 ((s.1 : Nat) : Int))]) (fun s => [iBox p37 127 [.int .i64 x1.Query.Id, .int .i64 x1.Query.Tenant, .slice A17 x1.Query.Conds.length c18, .slice A22 x1.Query.Out.length c23, .int .i64 x1.Time, .slice A27 x1.Todo.length c28, .int .i64 x1.Age, .int .i64 x1.Sent, .int .i64 x1.Cap, .slice A32 x1.Rows.length c33], iBox p36 26 [.slice A4 x0.Segments.length c5, .int .i64 x0.Now]]) (fun s => s.1 ≤ x1.Todo.length ∧ rng (R := Bool) (fun k (_ : Unit) => impl_activeOk_b1 x0 x1 k) (x1.Todo.length - s.1) s.1 s.2.1 = rng (R := Bool) (fun k (_ : Unit) => impl_activeOk_b1 x0 x1 k) (x1.Todo.length - 0) 0 ()) (fun s => x1.Todo.length - s.1) (0, (), ()) (subL_cons rfl (subL_cons rfl (subL_cons rfl (subL_cons rfl (subL_cons rfl subL_nil))))) (fun W hm => hm) ⟨(by omega), rfl⟩ ?_
  rintro ⟨k38, ⟨⟩, ⟨⟩⟩ H41
  obtain ⟨hk39, hF40⟩ : k38 ≤ x1.Todo.length ∧ rng (R := Bool) (fun k (_ : Unit) => impl_activeOk_b1 x0 x1 k) (x1.Todo.length - k38) k38 () = rng (R := Bool) (fun k (_ : Unit) => impl_activeOk_b1 x0 x1 k) (x1.Todo.length - 0) 0 () := H41
  show CM Try.prog 73 _ _ _ _ [(2, .pointer (some (⟨p36, 0, none⟩ : Addr))), (3, .pointer (some (⟨p37, 0, none⟩ : Addr))), (8, .slice A27 x1.Todo.length c28), (9, .int .i64 ((x1.Todo.length : Nat) : Int)), (10, .int .i64 ((k38 : Nat) : Int))] [iBox p37 127 [.int .i64 x1.Query.Id, .int .i64 x1.Query.Tenant, .slice A17 x1.Query.Conds.length c18, .slice A22 x1.Query.Out.length c23, .int .i64 x1.Time, .slice A27 x1.Todo.length c28, .int .i64 x1.Age, .int .i64 x1.Sent, .int .i64 x1.Cap, .slice A32 x1.Rows.length c33], iBox p36 26 [.slice A4 x0.Segments.length c5, .int .i64 x0.Now]]
  refine sr ?_
  refine wv (fun W hm => rv_lss rfl rfl) ?_
  refine nt' ?_
  refine CM_seq ?_
  by_cases hl42 : k38 < x1.Todo.length
  · have g43 : (decide (((k38 : Nat) : Int) < ((x1.Todo.length : Nat) : Int))) = true := decide_eq_true (by omega)
    refine CM_condT rfl g43 ?_
    refine CM_skip ?_
    refine QM_then ?_
    refine CM_seq ?_
    refine CM_block ?_
    refine sr ?_
    refine wm ?_
    obtain ⟨a44, rfl, hb45, he46⟩ := q29 (by omega)
    refine wv (fun W hm => rv_index (sz := 1) (k := k38) Try.underlying27 Try.type3 rfl rfl rfl (by omega)) ?_
    refine wv (fun W hm => rv_load Try.underlying3 rfl rfl ((hm.cell0 (show (a44.add (k38 * 1)).block < w.heap.size from by rw [add_block]; exact hb45.1)).trans (rdS_int he46 k38 (by omega)))) ?_
    refine wa ?_
    refine wa ?_
    refine nt' ?_
    refine sr ?_
    refine wm ?_
    refine wv (fun W hm => rv_field Try.underlying26 rfl Try.type24 (by decide) rfl rfl) ?_
    refine wv (fun W hm => rv_load Try.underlying24 rfl rfl (hm.boxCell (n := 1) (o := 0) rfl rfl)) ?_
    refine wv (fun W hm => rv_len Try.underlying24 rfl) ?_
    refine wv (fun W hm => rv_sub rfl rfl) ?_
    refine WM_callV (cl_fn cb82 rfl) (fun W hm => impl_within_c W (gt x1.Todo k38) 0 (IntKind.i64.wrap (((x0.Segments.length : Nat) : Int) - 1))) (Wd_none rfl) (by decide) ?_
    refine wv (fun W hm => rv_not rfl) ?_
    refine wm ?_
    rcases Bool.eq_false_or_eq_true (impl_within_m (gt x1.Todo k38) 0 (IntKind.i64.wrap (((x0.Segments.length : Nat) : Int) - 1))) with g48 | g48
    ·
      have hw := impl_within_fact g48
      rw [wrap_pred (by omega)] at hw
      refine wg (fun W hm => rv_move rfl) (nt g48) ?_
      refine wg (fun W hm => rv_gtr rfl rfl) (nt g48) ?_
      refine wg (fun W hm => rv_move rfl) (nt g48) ?_
      by_cases h49 : 0 < ((k38 : Nat) : Int)
      · have g50 : (decide (0 < ((k38 : Nat) : Int))) = true := decide_eq_true h49
        refine wg (fun W hm => rv_field Try.underlying127 rfl Try.type27 (by decide) rfl rfl) g50 ?_
        refine wg (fun W hm => rv_load Try.underlying27 rfl rfl (hm.boxCell (n := 0) (o := 5) rfl rfl)) g50 ?_
        refine wg (fun W hm => rv_move rfl) g50 ?_
        refine wg (fun W hm => rv_subN (p := k38) (q := 1) rfl rfl (by omega) (by omega)) g50 ?_
        refine wg (fun W hm => rv_index (sz := 1) (k := k38 - 1) Try.underlying27 Try.type3 rfl rfl rfl (by omega)) g50 ?_
        refine wg (fun W hm => rv_load Try.underlying3 rfl rfl ((hm.cell0 (show (a44.add ((k38 - 1) * 1)).block < w.heap.size from by rw [add_block]; exact hb45.1)).trans (rdS_int he46 (k38 - 1) (by omega)))) g50 ?_
        refine wg (fun W hm => rv_move rfl) g50 ?_
        refine wg (fun W hm => rv_geq rfl rfl) g50 ?_
        refine wg (fun W hm => rv_pickT rfl g50 rfl) (nt g48) ?_
        refine wv (fun W hm => rv_pickF rfl (nt g48) rfl) ?_
        refine nt' ?_
        by_cases h51 : (gt x1.Todo k38) ≤ (gt x1.Todo (k38 - 1))
        · have g52 : (decide ((gt x1.Todo k38) ≤ (gt x1.Todo (k38 - 1)))) = true := decide_eq_true h51
          refine CM_condT rfl g52 ?_
          refine sr ?_
          refine wa ?_
          refine nt' ?_
          refine CM_ret ?_
          refine QM_block_ret ?_
          refine QM_then_ret ?_
          refine QM_then_ret ?_
          refine QM_block_ret ?_
          refine QM_then_ret ?_
          exact QM_ret1 rfl rfl (fun W hm => ⟨ret_b (show impl_activeOk_m x0 x1 = false from by unfold impl_activeOk_m; exact fin_inl (rng_ret (body := (fun k (_ : Unit) => impl_activeOk_b1 x0 x1 k)) (k := k38) (s := ()) (show k38 < x1.Todo.length from by omega) (show impl_activeOk_b1 x0 x1 k38 = Sum.inl false from by unfold impl_activeOk_b1; exact cond_t g48 (cond_t g50 (cond_t g52 (rfl)))) hF40) rfl), hm.below⟩)
        · have g52 : (decide ((gt x1.Todo k38) ≤ (gt x1.Todo (k38 - 1)))) = false := decide_eq_false h51
          refine CM_condF rfl g52 ?_
          refine CM_skip ?_
          refine QM_block_normal ?_
          refine QM_then ?_
          refine CM_region ?_
          refine wv (fun W hm => rv_addN (p := k38) (q := 1) rfl rfl (by omega)) ?_
          refine wm ?_
          refine WM_nil ?_
          have hn53 := rng_next (R := Bool) (body := (fun k (_ : Unit) => impl_activeOk_b1 x0 x1 k)) (k := k38) (s := ()) (s' := ()) (show k38 < x1.Todo.length from by omega) (show impl_activeOk_b1 x0 x1 k38 = Sum.inr () from by unfold impl_activeOk_b1; exact cond_t g48 (cond_t g50 (cond_f g52 (rfl)))) hF40
          exact QM_round (k38 + 1, (), ()) (subL_cons rfl (subL_cons rfl (subL_cons rfl (subL_cons rfl (subL_cons rfl subL_nil))))) (fun W hm => hm) ⟨(by omega), hn53⟩ (show x1.Todo.length - (k38 + 1) < x1.Todo.length - k38 from by omega)
      · have g50 : (decide (0 < ((k38 : Nat) : Int))) = false := decide_eq_false h49
        refine ws g50 ?_
        refine ws g50 ?_
        refine ws g50 ?_
        refine ws g50 ?_
        refine ws g50 ?_
        refine ws g50 ?_
        refine ws g50 ?_
        refine ws g50 ?_
        refine wg (fun W hm => rv_pickF rfl g50 rfl) (nt g48) ?_
        refine wv (fun W hm => rv_pickF rfl (nt g48) rfl) ?_
        refine nt' ?_
        refine CM_condF rfl rfl ?_
        refine CM_skip ?_
        refine QM_block_normal ?_
        refine QM_then ?_
        refine CM_region ?_
        refine wv (fun W hm => rv_addN (p := k38) (q := 1) rfl rfl (by omega)) ?_
        refine wm ?_
        refine WM_nil ?_
        have hn54 := rng_next (R := Bool) (body := (fun k (_ : Unit) => impl_activeOk_b1 x0 x1 k)) (k := k38) (s := ()) (s' := ()) (show k38 < x1.Todo.length from by omega) (show impl_activeOk_b1 x0 x1 k38 = Sum.inr () from by unfold impl_activeOk_b1; exact cond_t g48 (cond_f g50 (rfl))) hF40
        exact QM_round (k38 + 1, (), ()) (subL_cons rfl (subL_cons rfl (subL_cons rfl (subL_cons rfl (subL_cons rfl subL_nil))))) (fun W hm => hm) ⟨(by omega), hn54⟩ (show x1.Todo.length - (k38 + 1) < x1.Todo.length - k38 from by omega)
    ·
      refine ws (nf g48) ?_
      refine ws (nf g48) ?_
      refine ws (nf g48) ?_
      refine wu ?_
      refine wu ?_
      refine wu ?_
      refine wu ?_
      refine wu ?_
      refine wu ?_
      refine wu ?_
      refine wu ?_
      refine ws (nf g48) ?_
      refine wv (fun W hm => rv_pickT rfl (nf g48) rfl) ?_
      refine nt' ?_
      refine CM_condT rfl rfl ?_
      refine sr ?_
      refine wa ?_
      refine nt' ?_
      refine CM_ret ?_
      refine QM_block_ret ?_
      refine QM_then_ret ?_
      refine QM_then_ret ?_
      refine QM_block_ret ?_
      refine QM_then_ret ?_
      exact QM_ret1 rfl rfl (fun W hm => ⟨ret_b (show impl_activeOk_m x0 x1 = false from by unfold impl_activeOk_m; exact fin_inl (rng_ret (body := (fun k (_ : Unit) => impl_activeOk_b1 x0 x1 k)) (k := k38) (s := ()) (show k38 < x1.Todo.length from by omega) (show impl_activeOk_b1 x0 x1 k38 = Sum.inl false from by unfold impl_activeOk_b1; exact cond_f g48 (rfl)) hF40) rfl), hm.below⟩)
  · have g43 : (decide (((k38 : Nat) : Int) < ((x1.Todo.length : Nat) : Int))) = false := decide_eq_false (by omega)
    refine CM_condF rfl g43 ?_
    refine CM_exit ?_
    refine QM_then_exit ?_
    refine QM_then_exit ?_
    have hE55 : rng (R := Bool) (fun k (_ : Unit) => impl_activeOk_b1 x0 x1 k) (x1.Todo.length - 0) 0 () = Sum.inr () := rng_end hl42 hF40
    refine QM_block_hit ?_
    refine QM_then ?_
    refine sr ?_
    refine wv (fun W hm => rv_field Try.underlying127 rfl Try.type27 (by decide) rfl rfl) ?_
    refine wv (fun W hm => rv_load Try.underlying27 rfl rfl (hm.boxCell (n := 0) (o := 5) rfl rfl)) ?_
    refine wv (fun W hm => rv_len Try.underlying27 rfl) ?_
    refine wv (fun W hm => rv_gtr rfl rfl) ?_
    refine wm ?_
    by_cases h56 : 0 < ((x1.Todo.length : Nat) : Int)
    · have g57 : (decide (0 < ((x1.Todo.length : Nat) : Int))) = true := decide_eq_true h56
      refine wg (fun W hm => rv_field Try.underlying127 rfl Try.type125 (by decide) rfl rfl) g57 ?_
      refine wg (fun W hm => rv_loadN (cs := [.int .i64 x1.Query.Id, .int .i64 x1.Query.Tenant, .slice A17 x1.Query.Conds.length c18, .slice A22 x1.Query.Out.length c23]) Try.underlying125 Try.type125 rfl rfl (hm.boxPart (n := 0) rfl rfl)) g57 ?_
      refine WM_callV (cl_fn cb144 rfl) (fun W hm => impl_IsQuery_c W _ x1.Query (tyQuery_mk (x := x1.Query) (hm.rdS0 r20) (hm.rdS0 r25))) (Wd_some rfl rfl rfl (bw g57 rfl)) (by decide) ?_
      refine wv (fun W hm => rv_pickT rfl g57 rfl) ?_
      refine wm ?_
      rcases Bool.eq_false_or_eq_true (impl_IsQuery_m x1.Query) with g59 | g59
      ·
        refine wg (fun W hm => rv_field Try.underlying127 rfl Try.type3 (by decide) rfl rfl) g59 ?_
        refine wg (fun W hm => rv_load Try.underlying3 rfl rfl (hm.boxCell (n := 0) (o := 4) rfl rfl)) g59 ?_
        refine wg (fun W hm => rv_field Try.underlying26 rfl Try.type3 (by decide) rfl rfl) g59 ?_
        refine wg (fun W hm => rv_load Try.underlying3 rfl rfl (hm.boxCell (n := 1) (o := 1) rfl rfl)) g59 ?_
        refine WM_callV (cl_fn cb82 rfl) (fun W hm => impl_within_c W x1.Time 0 x0.Now) (Wd_some rfl rfl rfl (bw g59 rfl)) (by decide) ?_
        refine wv (fun W hm => rv_pickT rfl g59 rfl) ?_
        refine wm ?_
        rcases Bool.eq_false_or_eq_true (impl_within_m x1.Time 0 x0.Now) with g61 | g61
        ·
          have hw := impl_within_fact g61
          refine wg (fun W hm => rv_field Try.underlying127 rfl Try.type3 (by decide) rfl rfl) g61 ?_
          refine wg (fun W hm => rv_load Try.underlying3 rfl rfl (hm.boxCell (n := 0) (o := 6) rfl rfl)) g61 ?_
          refine WM_callV (cl_fn cb82 rfl) (fun W hm => impl_within_c W x1.Age 0 100000) (Wd_some rfl rfl rfl (bw g61 rfl)) (by decide) ?_
          refine wv (fun W hm => rv_pickT rfl g61 rfl) ?_
          refine wm ?_
          rcases Bool.eq_false_or_eq_true (impl_within_m x1.Age 0 100000) with g63 | g63
          ·
            have hw := impl_within_fact g63
            refine wg (fun W hm => rv_field Try.underlying127 rfl Try.type3 (by decide) rfl rfl) g63 ?_
            refine wg (fun W hm => rv_load Try.underlying3 rfl rfl (hm.boxCell (n := 0) (o := 7) rfl rfl)) g63 ?_
            refine WM_callV (cl_fn cb82 rfl) (fun W hm => impl_within_c W x1.Sent 0 1000) (Wd_some rfl rfl rfl (bw g63 rfl)) (by decide) ?_
            refine wv (fun W hm => rv_pickT rfl g63 rfl) ?_
            refine wm ?_
            rcases Bool.eq_false_or_eq_true (impl_within_m x1.Sent 0 1000) with g65 | g65
            ·
              have hw := impl_within_fact g65
              refine wg (fun W hm => rv_field Try.underlying127 rfl Try.type3 (by decide) rfl rfl) g65 ?_
              refine wg (fun W hm => rv_load Try.underlying3 rfl rfl (hm.boxCell (n := 0) (o := 8) rfl rfl)) g65 ?_
              refine WM_callV (cl_fn cb82 rfl) (fun W hm => impl_within_c W x1.Cap 0 32) (Wd_some rfl rfl rfl (bw g65 rfl)) (by decide) ?_
              refine wv (fun W hm => rv_pickT rfl g65 rfl) ?_
              refine wm ?_
              rcases Bool.eq_false_or_eq_true (impl_within_m x1.Cap 0 32) with g67 | g67
              ·
                have hw := impl_within_fact g67
                refine wg (fun W hm => rv_field Try.underlying127 rfl Try.type39 (by decide) rfl rfl) g67 ?_
                refine wg (fun W hm => rv_load Try.underlying39 rfl rfl (hm.boxCell (n := 0) (o := 9) rfl rfl)) g67 ?_
                refine WM_callV (cl_fn cb145 rfl) (fun W hm => impl_resultOk_c W _ x1.Rows (hm.rdS0 r35)) (Wd_some rfl rfl rfl (bw g67 rfl)) (by decide) ?_
                refine wv (fun W hm => rv_pickT rfl g67 rfl) ?_
                refine wa ?_
                refine nt' ?_
                refine CM_ret ?_
                exact QM_ret1 rfl rfl (fun W hm => ⟨ret_b (show impl_activeOk_m x0 x1 = (impl_resultOk_m x1.Rows) from by unfold impl_activeOk_m; exact fin_inr hE55 (cond_t g57 (cond_t g59 (cond_t g61 (cond_t g63 (cond_t g65 (cond_t g67 (rfl)))))))), hm.below⟩)
              ·
                refine ws g67 ?_
                refine ws g67 ?_
                refine ws g67 ?_
                refine wv (fun W hm => rv_pickF rfl g67 rfl) ?_
                refine wa ?_
                refine nt' ?_
                refine CM_ret ?_
                exact QM_ret1 rfl rfl (fun W hm => ⟨ret_b (show impl_activeOk_m x0 x1 = false from by unfold impl_activeOk_m; exact fin_inr hE55 (cond_t g57 (cond_t g59 (cond_t g61 (cond_t g63 (cond_t g65 (cond_f g67 (rfl)))))))), hm.below⟩)
            ·
              refine ws g65 ?_
              refine ws g65 ?_
              refine ws g65 ?_
              refine wv (fun W hm => rv_pickF rfl g65 rfl) ?_
              refine wm ?_
              refine WM_skip (Wd_some rfl rfl rfl rfl) rfl (by decide) ?_
              refine WM_skip (Wd_some rfl rfl rfl rfl) rfl (by decide) ?_
              refine WM_skip (Wd_some rfl rfl rfl rfl) rfl (by decide) ?_
              refine wv (fun W hm => rv_pickF rfl rfl rfl) ?_
              refine wa ?_
              refine nt' ?_
              refine CM_ret ?_
              exact QM_ret1 rfl rfl (fun W hm => ⟨ret_b (show impl_activeOk_m x0 x1 = false from by unfold impl_activeOk_m; exact fin_inr hE55 (cond_t g57 (cond_t g59 (cond_t g61 (cond_t g63 (cond_f g65 (rfl))))))), hm.below⟩)
          ·
            refine ws g63 ?_
            refine ws g63 ?_
            refine ws g63 ?_
            refine wv (fun W hm => rv_pickF rfl g63 rfl) ?_
            refine wm ?_
            refine WM_skip (Wd_some rfl rfl rfl rfl) rfl (by decide) ?_
            refine WM_skip (Wd_some rfl rfl rfl rfl) rfl (by decide) ?_
            refine WM_skip (Wd_some rfl rfl rfl rfl) rfl (by decide) ?_
            refine wv (fun W hm => rv_pickF rfl rfl rfl) ?_
            refine wm ?_
            refine WM_skip (Wd_some rfl rfl rfl rfl) rfl (by decide) ?_
            refine WM_skip (Wd_some rfl rfl rfl rfl) rfl (by decide) ?_
            refine WM_skip (Wd_some rfl rfl rfl rfl) rfl (by decide) ?_
            refine wv (fun W hm => rv_pickF rfl rfl rfl) ?_
            refine wa ?_
            refine nt' ?_
            refine CM_ret ?_
            exact QM_ret1 rfl rfl (fun W hm => ⟨ret_b (show impl_activeOk_m x0 x1 = false from by unfold impl_activeOk_m; exact fin_inr hE55 (cond_t g57 (cond_t g59 (cond_t g61 (cond_f g63 (rfl)))))), hm.below⟩)
        ·
          refine ws g61 ?_
          refine ws g61 ?_
          refine ws g61 ?_
          refine wv (fun W hm => rv_pickF rfl g61 rfl) ?_
          refine wm ?_
          refine WM_skip (Wd_some rfl rfl rfl rfl) rfl (by decide) ?_
          refine WM_skip (Wd_some rfl rfl rfl rfl) rfl (by decide) ?_
          refine WM_skip (Wd_some rfl rfl rfl rfl) rfl (by decide) ?_
          refine wv (fun W hm => rv_pickF rfl rfl rfl) ?_
          refine wm ?_
          refine WM_skip (Wd_some rfl rfl rfl rfl) rfl (by decide) ?_
          refine WM_skip (Wd_some rfl rfl rfl rfl) rfl (by decide) ?_
          refine WM_skip (Wd_some rfl rfl rfl rfl) rfl (by decide) ?_
          refine wv (fun W hm => rv_pickF rfl rfl rfl) ?_
          refine wm ?_
          refine WM_skip (Wd_some rfl rfl rfl rfl) rfl (by decide) ?_
          refine WM_skip (Wd_some rfl rfl rfl rfl) rfl (by decide) ?_
          refine WM_skip (Wd_some rfl rfl rfl rfl) rfl (by decide) ?_
          refine wv (fun W hm => rv_pickF rfl rfl rfl) ?_
          refine wa ?_
          refine nt' ?_
          refine CM_ret ?_
          exact QM_ret1 rfl rfl (fun W hm => ⟨ret_b (show impl_activeOk_m x0 x1 = false from by unfold impl_activeOk_m; exact fin_inr hE55 (cond_t g57 (cond_t g59 (cond_f g61 (rfl))))), hm.below⟩)
      ·
        refine ws g59 ?_
        refine ws g59 ?_
        refine ws g59 ?_
        refine ws g59 ?_
        refine ws g59 ?_
        refine wv (fun W hm => rv_pickF rfl g59 rfl) ?_
        refine wm ?_
        refine WM_skip (Wd_some rfl rfl rfl rfl) rfl (by decide) ?_
        refine WM_skip (Wd_some rfl rfl rfl rfl) rfl (by decide) ?_
        refine WM_skip (Wd_some rfl rfl rfl rfl) rfl (by decide) ?_
        refine wv (fun W hm => rv_pickF rfl rfl rfl) ?_
        refine wm ?_
        refine WM_skip (Wd_some rfl rfl rfl rfl) rfl (by decide) ?_
        refine WM_skip (Wd_some rfl rfl rfl rfl) rfl (by decide) ?_
        refine WM_skip (Wd_some rfl rfl rfl rfl) rfl (by decide) ?_
        refine wv (fun W hm => rv_pickF rfl rfl rfl) ?_
        refine wm ?_
        refine WM_skip (Wd_some rfl rfl rfl rfl) rfl (by decide) ?_
        refine WM_skip (Wd_some rfl rfl rfl rfl) rfl (by decide) ?_
        refine WM_skip (Wd_some rfl rfl rfl rfl) rfl (by decide) ?_
        refine wv (fun W hm => rv_pickF rfl rfl rfl) ?_
        refine wm ?_
        refine WM_skip (Wd_some rfl rfl rfl rfl) rfl (by decide) ?_
        refine WM_skip (Wd_some rfl rfl rfl rfl) rfl (by decide) ?_
        refine WM_skip (Wd_some rfl rfl rfl rfl) rfl (by decide) ?_
        refine wv (fun W hm => rv_pickF rfl rfl rfl) ?_
        refine wa ?_
        refine nt' ?_
        refine CM_ret ?_
        exact QM_ret1 rfl rfl (fun W hm => ⟨ret_b (show impl_activeOk_m x0 x1 = false from by unfold impl_activeOk_m; exact fin_inr hE55 (cond_t g57 (cond_f g59 (rfl)))), hm.below⟩)
    · have g57 : (decide (0 < ((x1.Todo.length : Nat) : Int))) = false := decide_eq_false h56
      refine ws g57 ?_
      refine ws g57 ?_
      refine ws g57 ?_
      refine wv (fun W hm => rv_pickF rfl g57 rfl) ?_
      refine wm ?_
      refine WM_skip (Wd_some rfl rfl rfl rfl) rfl (by decide) ?_
      refine WM_skip (Wd_some rfl rfl rfl rfl) rfl (by decide) ?_
      refine WM_skip (Wd_some rfl rfl rfl rfl) rfl (by decide) ?_
      refine WM_skip (Wd_some rfl rfl rfl rfl) rfl (by decide) ?_
      refine WM_skip (Wd_some rfl rfl rfl rfl) rfl (by decide) ?_
      refine wv (fun W hm => rv_pickF rfl rfl rfl) ?_
      refine wm ?_
      refine WM_skip (Wd_some rfl rfl rfl rfl) rfl (by decide) ?_
      refine WM_skip (Wd_some rfl rfl rfl rfl) rfl (by decide) ?_
      refine WM_skip (Wd_some rfl rfl rfl rfl) rfl (by decide) ?_
      refine wv (fun W hm => rv_pickF rfl rfl rfl) ?_
      refine wm ?_
      refine WM_skip (Wd_some rfl rfl rfl rfl) rfl (by decide) ?_
      refine WM_skip (Wd_some rfl rfl rfl rfl) rfl (by decide) ?_
      refine WM_skip (Wd_some rfl rfl rfl rfl) rfl (by decide) ?_
      refine wv (fun W hm => rv_pickF rfl rfl rfl) ?_
      refine wm ?_
      refine WM_skip (Wd_some rfl rfl rfl rfl) rfl (by decide) ?_
      refine WM_skip (Wd_some rfl rfl rfl rfl) rfl (by decide) ?_
      refine WM_skip (Wd_some rfl rfl rfl rfl) rfl (by decide) ?_
      refine wv (fun W hm => rv_pickF rfl rfl rfl) ?_
      refine wm ?_
      refine WM_skip (Wd_some rfl rfl rfl rfl) rfl (by decide) ?_
      refine WM_skip (Wd_some rfl rfl rfl rfl) rfl (by decide) ?_
      refine WM_skip (Wd_some rfl rfl rfl rfl) rfl (by decide) ?_
      refine wv (fun W hm => rv_pickF rfl rfl rfl) ?_
      refine wa ?_
      refine nt' ?_
      refine CM_ret ?_
      exact QM_ret1 rfl rfl (fun W hm => ⟨ret_b (show impl_activeOk_m x0 x1 = false from by unfold impl_activeOk_m; exact fin_inr hE55 (cond_f g57 (rfl))), hm.below⟩)

def impl_IsSet_b1 (x0 : (List Int)) (k6 : Nat) : Bool ⊕ (Unit) :=
  cond (decide ((gt x0 k6) < 0)) (Sum.inl false) (cond (decide (24 ≤ (gt x0 k6))) (Sum.inl false) (cond (decide (0 < ((k6 : Nat) : Int))) (cond (decide ((gt x0 k6) ≤ (gt x0 (k6 - 1)))) (Sum.inl false) (Sum.inr ())) (Sum.inr ())))
def impl_IsSet_m (x0 : (List Int)) : Bool :=
  Sum.elim id (fun (s : Unit) => true) (rng (R := Bool) (fun k (_ : Unit) => impl_IsSet_b1 x0 k) (x0.length - 0) 0 ())
set_option maxRecDepth 100000 in
theorem cb192 : Cb Try.prog 192 := ⟨Try.f192, _, Try.func192, rfl, by decide⟩
set_option maxRecDepth 10000 in
set_option maxHeartbeats 4000000 in
theorem impl_IsSet_c (w : World) (z0 : Value) (x0 : (List Int)) (r_0 : rdS tInt w w.heap.size z0 x0) :
    Calls Try.prog 192 #[z0] w fun e w' => e = .returned (.bool (impl_IsSet_m x0)) ∧ Below w.heap.size w w' := by
  have r5 := r_0
  obtain ⟨m1, A2, c3, rfl, q4⟩ := r_0
  refine call_enterM (L := [(0, .slice A2 x0.length c3)]) (N := 32) Try.func192 rfl rfl (Nat.le_of_ble_eq_true rfl) (argsL_cons rfl argsL_nil) ?_
  refine sr ?_
  refine wa ?_
  refine nt' ?_
  refine CM_seq ?_
  refine sr ?_
  refine wm ?_
  refine wv (fun W hm => rv_len Try.underlying27 rfl) ?_
  refine wm ?_
  refine nt' ?_
  refine CM_block ?_
  refine CM_loop (σ := Nat × (Unit) × (Unit)) (fun s => [(0, .slice A2 x0.length c3), (5, .slice A2 x0.length c3), (6, .int .i64 ((x0.length : Nat) : Int)), (7, .int .i64 ((s.1 : Nat) : Int))]) (fun s => []) (fun s => s.1 ≤ x0.length ∧ rng (R := Bool) (fun k (_ : Unit) => impl_IsSet_b1 x0 k) (x0.length - s.1) s.1 s.2.1 = rng (R := Bool) (fun k (_ : Unit) => impl_IsSet_b1 x0 k) (x0.length - 0) 0 ()) (fun s => x0.length - s.1) (0, (), ()) (subL_cons rfl (subL_cons rfl (subL_cons rfl (subL_cons rfl subL_nil)))) (fun W hm => hm) ⟨(by omega), rfl⟩ ?_
  rintro ⟨k6, ⟨⟩, ⟨⟩⟩ H9
  obtain ⟨hk7, hF8⟩ : k6 ≤ x0.length ∧ rng (R := Bool) (fun k (_ : Unit) => impl_IsSet_b1 x0 k) (x0.length - k6) k6 () = rng (R := Bool) (fun k (_ : Unit) => impl_IsSet_b1 x0 k) (x0.length - 0) 0 () := H9
  show CM Try.prog 32 _ _ _ _ [(0, .slice A2 x0.length c3), (5, .slice A2 x0.length c3), (6, .int .i64 ((x0.length : Nat) : Int)), (7, .int .i64 ((k6 : Nat) : Int))] []
  refine sr ?_
  refine wv (fun W hm => rv_lss rfl rfl) ?_
  refine nt' ?_
  refine CM_seq ?_
  by_cases hl10 : k6 < x0.length
  · have g11 : (decide (((k6 : Nat) : Int) < ((x0.length : Nat) : Int))) = true := decide_eq_true (by omega)
    refine CM_condT rfl g11 ?_
    refine CM_skip ?_
    refine QM_then ?_
    refine CM_seq ?_
    refine CM_block ?_
    refine sr ?_
    refine wm ?_
    obtain ⟨a12, rfl, hb13, he14⟩ := q4 (by omega)
    refine wv (fun W hm => rv_index (sz := 1) (k := k6) Try.underlying27 Try.type3 rfl rfl rfl (by omega)) ?_
    refine wv (fun W hm => rv_load Try.underlying3 rfl rfl ((hm.cell0 (show (a12.add (k6 * 1)).block < w.heap.size from by rw [add_block]; exact hb13.1)).trans (rdS_int he14 k6 (by omega)))) ?_
    refine wa ?_
    refine wa ?_
    refine nt' ?_
    refine sr ?_
    refine wm ?_
    refine wv (fun W hm => rv_lss rfl rfl) ?_
    refine wm ?_
    by_cases h15 : (gt x0 k6) < 0
    · have g16 : (decide ((gt x0 k6) < 0)) = true := decide_eq_true h15
      refine ws g16 ?_
      refine ws g16 ?_
      refine wv (fun W hm => rv_pickT rfl g16 rfl) ?_
      refine wm ?_
      refine WM_skip (Wd_some rfl rfl rfl rfl) rfl (by decide) ?_
      refine WM_skip (Wd_some rfl rfl rfl rfl) rfl (by decide) ?_
      refine WM_skip (Wd_some rfl rfl rfl rfl) rfl (by decide) ?_
      refine wu ?_
      refine wu ?_
      refine wu ?_
      refine wu ?_
      refine wu ?_
      refine wu ?_
      refine wu ?_
      refine WM_skip (Wd_some rfl rfl rfl rfl) rfl (by decide) ?_
      refine wv (fun W hm => rv_pickT rfl rfl rfl) ?_
      refine nt' ?_
      refine CM_condT rfl rfl ?_
      refine sr ?_
      refine wa ?_
      refine nt' ?_
      refine CM_ret ?_
      refine QM_block_ret ?_
      refine QM_then_ret ?_
      refine QM_then_ret ?_
      refine QM_block_ret ?_
      refine QM_then_ret ?_
      exact QM_ret1 rfl rfl (fun W hm => ⟨ret_b (show impl_IsSet_m x0 = false from by unfold impl_IsSet_m; exact fin_inl (rng_ret (body := (fun k (_ : Unit) => impl_IsSet_b1 x0 k)) (k := k6) (s := ()) (show k6 < x0.length from by omega) (show impl_IsSet_b1 x0 k6 = Sum.inl false from by unfold impl_IsSet_b1; exact cond_t g16 (rfl)) hF8) rfl), hm.below⟩)
    · have g16 : (decide ((gt x0 k6) < 0)) = false := decide_eq_false h15
      refine wg (fun W hm => rv_move rfl) g16 ?_
      refine wg (fun W hm => rv_geq rfl rfl) g16 ?_
      refine wv (fun W hm => rv_pickF rfl g16 rfl) ?_
      refine wm ?_
      by_cases h17 : 24 ≤ (gt x0 k6)
      · have g18 : (decide (24 ≤ (gt x0 k6))) = true := decide_eq_true h17
        refine ws g18 ?_
        refine ws g18 ?_
        refine ws g18 ?_
        refine wu ?_
        refine wu ?_
        refine wu ?_
        refine wu ?_
        refine wu ?_
        refine wu ?_
        refine wu ?_
        refine ws g18 ?_
        refine wv (fun W hm => rv_pickT rfl g18 rfl) ?_
        refine nt' ?_
        refine CM_condT rfl rfl ?_
        refine sr ?_
        refine wa ?_
        refine nt' ?_
        refine CM_ret ?_
        refine QM_block_ret ?_
        refine QM_then_ret ?_
        refine QM_then_ret ?_
        refine QM_block_ret ?_
        refine QM_then_ret ?_
        exact QM_ret1 rfl rfl (fun W hm => ⟨ret_b (show impl_IsSet_m x0 = false from by unfold impl_IsSet_m; exact fin_inl (rng_ret (body := (fun k (_ : Unit) => impl_IsSet_b1 x0 k)) (k := k6) (s := ()) (show k6 < x0.length from by omega) (show impl_IsSet_b1 x0 k6 = Sum.inl false from by unfold impl_IsSet_b1; exact cond_f g16 (cond_t g18 (rfl))) hF8) rfl), hm.below⟩)
      · have g18 : (decide (24 ≤ (gt x0 k6))) = false := decide_eq_false h17
        refine wg (fun W hm => rv_move rfl) g18 ?_
        refine wg (fun W hm => rv_gtr rfl rfl) g18 ?_
        refine wg (fun W hm => rv_move rfl) g18 ?_
        by_cases h19 : 0 < ((k6 : Nat) : Int)
        · have g20 : (decide (0 < ((k6 : Nat) : Int))) = true := decide_eq_true h19
          refine wg (fun W hm => rv_move rfl) g20 ?_
          refine wg (fun W hm => rv_move rfl) g20 ?_
          refine wg (fun W hm => rv_subN (p := k6) (q := 1) rfl rfl (by omega) (by omega)) g20 ?_
          refine wg (fun W hm => rv_index (sz := 1) (k := k6 - 1) Try.underlying27 Try.type3 rfl rfl rfl (by omega)) g20 ?_
          refine wg (fun W hm => rv_load Try.underlying3 rfl rfl ((hm.cell0 (show (a12.add ((k6 - 1) * 1)).block < w.heap.size from by rw [add_block]; exact hb13.1)).trans (rdS_int he14 (k6 - 1) (by omega)))) g20 ?_
          refine wg (fun W hm => rv_move rfl) g20 ?_
          refine wg (fun W hm => rv_geq rfl rfl) g20 ?_
          refine wg (fun W hm => rv_pickT rfl g20 rfl) g18 ?_
          refine wv (fun W hm => rv_pickF rfl g18 rfl) ?_
          refine nt' ?_
          by_cases h21 : (gt x0 k6) ≤ (gt x0 (k6 - 1))
          · have g22 : (decide ((gt x0 k6) ≤ (gt x0 (k6 - 1)))) = true := decide_eq_true h21
            refine CM_condT rfl g22 ?_
            refine sr ?_
            refine wa ?_
            refine nt' ?_
            refine CM_ret ?_
            refine QM_block_ret ?_
            refine QM_then_ret ?_
            refine QM_then_ret ?_
            refine QM_block_ret ?_
            refine QM_then_ret ?_
            exact QM_ret1 rfl rfl (fun W hm => ⟨ret_b (show impl_IsSet_m x0 = false from by unfold impl_IsSet_m; exact fin_inl (rng_ret (body := (fun k (_ : Unit) => impl_IsSet_b1 x0 k)) (k := k6) (s := ()) (show k6 < x0.length from by omega) (show impl_IsSet_b1 x0 k6 = Sum.inl false from by unfold impl_IsSet_b1; exact cond_f g16 (cond_f g18 (cond_t g20 (cond_t g22 (rfl))))) hF8) rfl), hm.below⟩)
          · have g22 : (decide ((gt x0 k6) ≤ (gt x0 (k6 - 1)))) = false := decide_eq_false h21
            refine CM_condF rfl g22 ?_
            refine CM_skip ?_
            refine QM_block_normal ?_
            refine QM_then ?_
            refine CM_region ?_
            refine wv (fun W hm => rv_addN (p := k6) (q := 1) rfl rfl (by omega)) ?_
            refine wm ?_
            refine WM_nil ?_
            have hn23 := rng_next (R := Bool) (body := (fun k (_ : Unit) => impl_IsSet_b1 x0 k)) (k := k6) (s := ()) (s' := ()) (show k6 < x0.length from by omega) (show impl_IsSet_b1 x0 k6 = Sum.inr () from by unfold impl_IsSet_b1; exact cond_f g16 (cond_f g18 (cond_t g20 (cond_f g22 (rfl))))) hF8
            exact QM_round (k6 + 1, (), ()) (subL_cons rfl (subL_cons rfl (subL_cons rfl (subL_cons rfl subL_nil)))) (fun W hm => hm) ⟨(by omega), hn23⟩ (show x0.length - (k6 + 1) < x0.length - k6 from by omega)
        · have g20 : (decide (0 < ((k6 : Nat) : Int))) = false := decide_eq_false h19
          refine ws g20 ?_
          refine ws g20 ?_
          refine ws g20 ?_
          refine ws g20 ?_
          refine ws g20 ?_
          refine ws g20 ?_
          refine ws g20 ?_
          refine wg (fun W hm => rv_pickF rfl g20 rfl) g18 ?_
          refine wv (fun W hm => rv_pickF rfl g18 rfl) ?_
          refine nt' ?_
          refine CM_condF rfl rfl ?_
          refine CM_skip ?_
          refine QM_block_normal ?_
          refine QM_then ?_
          refine CM_region ?_
          refine wv (fun W hm => rv_addN (p := k6) (q := 1) rfl rfl (by omega)) ?_
          refine wm ?_
          refine WM_nil ?_
          have hn24 := rng_next (R := Bool) (body := (fun k (_ : Unit) => impl_IsSet_b1 x0 k)) (k := k6) (s := ()) (s' := ()) (show k6 < x0.length from by omega) (show impl_IsSet_b1 x0 k6 = Sum.inr () from by unfold impl_IsSet_b1; exact cond_f g16 (cond_f g18 (cond_f g20 (rfl)))) hF8
          exact QM_round (k6 + 1, (), ()) (subL_cons rfl (subL_cons rfl (subL_cons rfl (subL_cons rfl subL_nil)))) (fun W hm => hm) ⟨(by omega), hn24⟩ (show x0.length - (k6 + 1) < x0.length - k6 from by omega)
  · have g11 : (decide (((k6 : Nat) : Int) < ((x0.length : Nat) : Int))) = false := decide_eq_false (by omega)
    refine CM_condF rfl g11 ?_
    refine CM_exit ?_
    refine QM_then_exit ?_
    refine QM_then_exit ?_
    have hE25 : rng (R := Bool) (fun k (_ : Unit) => impl_IsSet_b1 x0 k) (x0.length - 0) 0 () = Sum.inr () := rng_end hl10 hF8
    refine QM_block_hit ?_
    refine QM_then ?_
    refine sr ?_
    refine wa ?_
    refine nt' ?_
    refine CM_ret ?_
    exact QM_ret1 rfl rfl (fun W hm => ⟨ret_b (show impl_IsSet_m x0 = true from by unfold impl_IsSet_m; exact fin_inr hE25 (rfl)), hm.below⟩)

def impl_IsCharge_b1 (x0 : DCharge) (k31 : Nat) : Bool ⊕ (Unit) :=
  cond (impl_within_m (gt x0.Tenants k31) 0 3) (cond (impl_within_m (gt x0.Rows k31) 0 x0.Base) (Sum.inr ()) (Sum.inl false)) (Sum.inl false)
def impl_IsCharge_m (x0 : DCharge) : Bool :=
  cond (impl_IsSet_m x0.Ids) (cond (impl_within_m ((x0.Ids.length : Nat) : Int) 1 8) (cond (((x0.Tenants.length : Nat) : Int) != ((x0.Ids.length : Nat) : Int)) false (cond (((x0.Rows.length : Nat) : Int) != ((x0.Ids.length : Nat) : Int)) false (Sum.elim id (fun (s : Unit) => cond (impl_within_m x0.Segment 0 7) (impl_within_m x0.Base 0 4) false) (rng (R := Bool) (fun k (_ : Unit) => impl_IsCharge_b1 x0 k) (x0.Ids.length - 0) 0 ())))) false) false
set_option maxRecDepth 100000 in
theorem cb146 : Cb Try.prog 146 := ⟨Try.f146, _, Try.func146, rfl, by decide⟩
set_option maxRecDepth 10000 in
set_option maxHeartbeats 4000000 in
theorem impl_IsCharge_c (w : World) (z0 : List Value) (x0 : DCharge) (r_0 : tyCharge.rd w w.heap.size z0 x0) :
    Calls Try.prog 146 #[.agg z0.toArray] w fun e w' => e = .returned (.bool (impl_IsCharge_m x0)) ∧ Below w.heap.size w w' := by
  obtain ⟨v1, v3, v5, rfl, r2, r4, r6⟩ := tyCharge_rd r_0
  have r11 := r2
  obtain ⟨m7, A8, c9, rfl, q10⟩ := r2
  have r16 := r4
  obtain ⟨m12, A13, c14, rfl, q15⟩ := r4
  have r21 := r6
  obtain ⟨m17, A18, c19, rfl, q20⟩ := r6
  refine call_enterM (L := [(0, .agg #[.int .i64 x0.Segment, .int .i64 x0.Base, .slice A8 x0.Ids.length c9, .slice A13 x0.Tenants.length c14, .slice A18 x0.Rows.length c19])]) (N := 64) Try.func146 rfl rfl (Nat.le_of_ble_eq_true rfl) (argsL_cons rfl argsL_nil) ?_
  refine sr ?_
  refine WM_box rfl (Wd_none rfl) (by decide) (fun p22 => ?_)
  refine wa ?_
  refine nt' ?_
  refine sr ?_
  refine wv (fun W hm => rv_field Try.underlying140 rfl Try.type27 (by decide) rfl rfl) ?_
  refine wv (fun W hm => rv_load Try.underlying27 rfl rfl (hm.boxCell (n := 0) (o := 2) rfl rfl)) ?_
  refine wv (fun W hm => rv_len Try.underlying27 rfl) ?_
  refine wa ?_
  refine nt' ?_
  refine CM_seq ?_
  refine sr ?_
  refine wv (fun W hm => rv_field Try.underlying140 rfl Try.type27 (by decide) rfl rfl) ?_
  refine wv (fun W hm => rv_load Try.underlying27 rfl rfl (hm.boxCell (n := 0) (o := 2) rfl rfl)) ?_
  refine WM_callV (cl_fn cb192 rfl) (fun W hm => impl_IsSet_c W _ x0.Ids (hm.rdS0 r11)) (Wd_none rfl) (by decide) ?_
  refine wv (fun W hm => rv_not rfl) ?_
  refine wm ?_
  rcases Bool.eq_false_or_eq_true (impl_IsSet_m x0.Ids) with g24 | g24
  ·
    refine wg (fun W hm => rv_move rfl) (nt g24) ?_
    refine WM_callV (cl_fn cb82 rfl) (fun W hm => impl_within_c W ((x0.Ids.length : Nat) : Int) 1 8) (Wd_some rfl rfl rfl (bw (nt g24) rfl)) (by decide) ?_
    refine wg (fun W hm => rv_not rfl) (nt g24) ?_
    refine wv (fun W hm => rv_pickF rfl (nt g24) rfl) ?_
    refine wm ?_
    rcases Bool.eq_false_or_eq_true (impl_within_m ((x0.Ids.length : Nat) : Int) 1 8) with g26 | g26
    ·
      have hw := impl_within_fact g26
      refine wg (fun W hm => rv_field Try.underlying140 rfl Try.type27 (by decide) rfl rfl) (nt g26) ?_
      refine wg (fun W hm => rv_load Try.underlying27 rfl rfl (hm.boxCell (n := 0) (o := 3) rfl rfl)) (nt g26) ?_
      refine wg (fun W hm => rv_len Try.underlying27 rfl) (nt g26) ?_
      refine wg (fun W hm => rv_move rfl) (nt g26) ?_
      refine wg (fun W hm => rv_neq rfl rfl) (nt g26) ?_
      refine wv (fun W hm => rv_pickF rfl (nt g26) rfl) ?_
      refine wm ?_
      by_cases h27 : ((x0.Tenants.length : Nat) : Int) = ((x0.Ids.length : Nat) : Int)
      · have g28 : (((x0.Tenants.length : Nat) : Int) != ((x0.Ids.length : Nat) : Int)) = false := by rw [h27]; exact bne_self_eq_false _
        refine wg (fun W hm => rv_field Try.underlying140 rfl Try.type27 (by decide) rfl rfl) g28 ?_
        refine wg (fun W hm => rv_load Try.underlying27 rfl rfl (hm.boxCell (n := 0) (o := 4) rfl rfl)) g28 ?_
        refine wg (fun W hm => rv_len Try.underlying27 rfl) g28 ?_
        refine wg (fun W hm => rv_move rfl) g28 ?_
        refine wg (fun W hm => rv_neq rfl rfl) g28 ?_
        refine wv (fun W hm => rv_pickF rfl g28 rfl) ?_
        refine nt' ?_
        by_cases h29 : ((x0.Rows.length : Nat) : Int) = ((x0.Ids.length : Nat) : Int)
        · have g30 : (((x0.Rows.length : Nat) : Int) != ((x0.Ids.length : Nat) : Int)) = false := by rw [h29]; exact bne_self_eq_false _
          refine CM_condF rfl g30 ?_
          refine CM_skip ?_
          refine QM_then ?_
          refine CM_seq ?_
          refine sr ?_
          refine wv (fun W hm => rv_field Try.underlying140 rfl Try.type27 (by decide) rfl rfl) ?_
          refine wv (fun W hm => rv_load Try.underlying27 rfl rfl (hm.boxCell (n := 0) (o := 2) rfl rfl)) ?_
          refine wv (fun W hm => rv_len Try.underlying27 rfl) ?_
          refine wm ?_
          refine nt' ?_
          refine CM_block ?_
          refine CM_loop (σ := Nat × (Unit) × (Unit)) (fun s => [(1, .pointer (some (⟨p22, 0, none⟩ : Addr))), (33, .int .i64 ((x0.Ids.length : Nat) : Int)), (34, .int .i64 ((s.1 : Nat) : Int))]) (fun s => [iBox p22 140 [.int .i64 x0.Segment, .int .i64 x0.Base, .slice A8 x0.Ids.length c9, .slice A13 x0.Tenants.length c14, .slice A18 x0.Rows.length c19]]) (fun s => s.1 ≤ x0.Ids.length ∧ rng (R := Bool) (fun k (_ : Unit) => impl_IsCharge_b1 x0 k) (x0.Ids.length - s.1) s.1 s.2.1 = rng (R := Bool) (fun k (_ : Unit) => impl_IsCharge_b1 x0 k) (x0.Ids.length - 0) 0 ()) (fun s => x0.Ids.length - s.1) (0, (), ()) (subL_cons rfl (subL_cons rfl (subL_cons rfl subL_nil))) (fun W hm => hm) ⟨(by omega), rfl⟩ ?_
          rintro ⟨k31, ⟨⟩, ⟨⟩⟩ H34
          obtain ⟨hk32, hF33⟩ : k31 ≤ x0.Ids.length ∧ rng (R := Bool) (fun k (_ : Unit) => impl_IsCharge_b1 x0 k) (x0.Ids.length - k31) k31 () = rng (R := Bool) (fun k (_ : Unit) => impl_IsCharge_b1 x0 k) (x0.Ids.length - 0) 0 () := H34
          show CM Try.prog 64 _ _ _ _ [(1, .pointer (some (⟨p22, 0, none⟩ : Addr))), (33, .int .i64 ((x0.Ids.length : Nat) : Int)), (34, .int .i64 ((k31 : Nat) : Int))] [iBox p22 140 [.int .i64 x0.Segment, .int .i64 x0.Base, .slice A8 x0.Ids.length c9, .slice A13 x0.Tenants.length c14, .slice A18 x0.Rows.length c19]]
          refine sr ?_
          refine wv (fun W hm => rv_lss rfl rfl) ?_
          refine nt' ?_
          refine CM_seq ?_
          by_cases hl35 : k31 < x0.Ids.length
          · have g36 : (decide (((k31 : Nat) : Int) < ((x0.Ids.length : Nat) : Int))) = true := decide_eq_true (by omega)
            refine CM_condT rfl g36 ?_
            refine CM_skip ?_
            refine QM_then ?_
            refine CM_seq ?_
            refine CM_block ?_
            refine sr ?_
            refine wm ?_
            refine wa ?_
            refine nt' ?_
            refine CM_seq ?_
            refine CM_regionD (by kernel_rfl) (by kernel_rfl) ?_
            refine qv (fun W hm => rv_field Try.underlying140 rfl Try.type27 (by decide) rfl rfl) ?_
            refine qv (fun W hm => rv_load Try.underlying27 rfl rfl (hm.boxCell (n := 0) (o := 3) rfl rfl)) ?_
            refine qm ?_
            obtain ⟨a37, rfl, hb38, he39⟩ := q15 (by omega)
            refine qv (fun W hm => rv_index (sz := 1) (k := k31) Try.underlying27 Try.type3 rfl rfl rfl (by omega)) ?_
            refine qv (fun W hm => rv_load Try.underlying3 rfl rfl ((hm.cell0 (show (a37.add (k31 * 1)).block < w.heap.size from by rw [add_block]; exact hb38.1)).trans (rdS_int he39 k31 (by omega)))) ?_
            refine QR_callV (cl_fn cb82 rfl) (fun W hm => impl_within_c W (gt x0.Tenants k31) 0 3) (Wd_none rfl) (by decide) ?_
            refine qv (fun W hm => rv_not rfl) ?_
            refine qm ?_
            rcases Bool.eq_false_or_eq_true (impl_within_m (gt x0.Tenants k31) 0 3) with g41 | g41
            ·
              have hw := impl_within_fact g41
              refine qg (fun W hm => rv_field Try.underlying140 rfl Try.type27 (by decide) rfl rfl) (nt g41) ?_
              refine qg (fun W hm => rv_load Try.underlying27 rfl rfl (hm.boxCell (n := 0) (o := 4) rfl rfl)) (nt g41) ?_
              refine qg (fun W hm => rv_move rfl) (nt g41) ?_
              obtain ⟨a42, rfl, hb43, he44⟩ := q20 (by omega)
              refine qg (fun W hm => rv_index (sz := 1) (k := k31) Try.underlying27 Try.type3 rfl rfl rfl (by omega)) (nt g41) ?_
              refine qg (fun W hm => rv_load Try.underlying3 rfl rfl ((hm.cell0 (show (a42.add (k31 * 1)).block < w.heap.size from by rw [add_block]; exact hb43.1)).trans (rdS_int he44 k31 (by omega)))) (nt g41) ?_
              refine qg (fun W hm => rv_field Try.underlying140 rfl Try.type3 (by decide) rfl rfl) (nt g41) ?_
              refine qg (fun W hm => rv_load Try.underlying3 rfl rfl (hm.boxCell (n := 0) (o := 1) rfl rfl)) (nt g41) ?_
              refine QR_callV (cl_fn cb82 rfl) (fun W hm => impl_within_c W (gt x0.Rows k31) 0 x0.Base) (Wd_some rfl rfl rfl (bw (nt g41) rfl)) (by decide) ?_
              refine qg (fun W hm => rv_not rfl) (nt g41) ?_
              refine qv (fun W hm => rv_pickF rfl (nt g41) rfl) ?_
              refine nq' ?_
              rcases Bool.eq_false_or_eq_true (impl_within_m (gt x0.Rows k31) 0 x0.Base) with g46 | g46
              ·
                have hw := impl_within_fact g46
                refine CM_condF rfl (nt g46) ?_
                refine CM_skip ?_
                refine QM_block_normal ?_
                refine QM_then ?_
                refine CM_region ?_
                refine wv (fun W hm => rv_addN (p := k31) (q := 1) rfl rfl (by omega)) ?_
                refine wm ?_
                refine WM_nil ?_
                have hn47 := rng_next (R := Bool) (body := (fun k (_ : Unit) => impl_IsCharge_b1 x0 k)) (k := k31) (s := ()) (s' := ()) (show k31 < x0.Ids.length from by omega) (show impl_IsCharge_b1 x0 k31 = Sum.inr () from by unfold impl_IsCharge_b1; exact cond_t g41 (cond_t g46 (rfl))) hF33
                exact QM_round (k31 + 1, (), ()) (subL_cons rfl (subL_cons rfl (subL_cons rfl subL_nil))) (fun W hm => hm) ⟨(by omega), hn47⟩ (show x0.Ids.length - (k31 + 1) < x0.Ids.length - k31 from by omega)
              ·
                refine CM_condT rfl (nf g46) ?_
                refine sr ?_
                refine wa ?_
                refine nt' ?_
                refine CM_ret ?_
                refine QM_block_ret ?_
                refine QM_then_ret ?_
                refine QM_then_ret ?_
                refine QM_block_ret ?_
                refine QM_then_ret ?_
                exact QM_ret1 rfl rfl (fun W hm => ⟨ret_b (show impl_IsCharge_m x0 = false from by unfold impl_IsCharge_m; exact cond_t g24 (cond_t g26 (cond_f g28 (cond_f g30 (fin_inl (rng_ret (body := (fun k (_ : Unit) => impl_IsCharge_b1 x0 k)) (k := k31) (s := ()) (show k31 < x0.Ids.length from by omega) (show impl_IsCharge_b1 x0 k31 = Sum.inl false from by unfold impl_IsCharge_b1; exact cond_t g41 (cond_f g46 (rfl))) hF33) rfl))))), hm.below⟩)
            ·
              refine qs (nf g41) ?_
              refine qs (nf g41) ?_
              refine qs (nf g41) ?_
              refine qs (nf g41) ?_
              refine qs (nf g41) ?_
              refine qs (nf g41) ?_
              refine qs (nf g41) ?_
              refine qs (nf g41) ?_
              refine qs (nf g41) ?_
              refine qv (fun W hm => rv_pickT rfl (nf g41) rfl) ?_
              refine nq' ?_
              refine CM_condT rfl rfl ?_
              refine sr ?_
              refine wa ?_
              refine nt' ?_
              refine CM_ret ?_
              refine QM_block_ret ?_
              refine QM_then_ret ?_
              refine QM_then_ret ?_
              refine QM_block_ret ?_
              refine QM_then_ret ?_
              exact QM_ret1 rfl rfl (fun W hm => ⟨ret_b (show impl_IsCharge_m x0 = false from by unfold impl_IsCharge_m; exact cond_t g24 (cond_t g26 (cond_f g28 (cond_f g30 (fin_inl (rng_ret (body := (fun k (_ : Unit) => impl_IsCharge_b1 x0 k)) (k := k31) (s := ()) (show k31 < x0.Ids.length from by omega) (show impl_IsCharge_b1 x0 k31 = Sum.inl false from by unfold impl_IsCharge_b1; exact cond_f g41 (rfl)) hF33) rfl))))), hm.below⟩)
          · have g36 : (decide (((k31 : Nat) : Int) < ((x0.Ids.length : Nat) : Int))) = false := decide_eq_false (by omega)
            refine CM_condF rfl g36 ?_
            refine CM_exit ?_
            refine QM_then_exit ?_
            refine QM_then_exit ?_
            have hE48 : rng (R := Bool) (fun k (_ : Unit) => impl_IsCharge_b1 x0 k) (x0.Ids.length - 0) 0 () = Sum.inr () := rng_end hl35 hF33
            refine QM_block_hit ?_
            refine QM_then ?_
            refine sr ?_
            refine wv (fun W hm => rv_field Try.underlying140 rfl Try.type3 (by decide) rfl rfl) ?_
            refine wv (fun W hm => rv_load Try.underlying3 rfl rfl (hm.boxCell (n := 0) (o := 0) rfl rfl)) ?_
            refine WM_callV (cl_fn cb82 rfl) (fun W hm => impl_within_c W x0.Segment 0 7) (Wd_none rfl) (by decide) ?_
            refine wm ?_
            rcases Bool.eq_false_or_eq_true (impl_within_m x0.Segment 0 7) with g50 | g50
            ·
              have hw := impl_within_fact g50
              refine wg (fun W hm => rv_field Try.underlying140 rfl Try.type3 (by decide) rfl rfl) g50 ?_
              refine wg (fun W hm => rv_load Try.underlying3 rfl rfl (hm.boxCell (n := 0) (o := 1) rfl rfl)) g50 ?_
              refine WM_callV (cl_fn cb82 rfl) (fun W hm => impl_within_c W x0.Base 0 4) (Wd_some rfl rfl rfl (bw g50 rfl)) (by decide) ?_
              refine wv (fun W hm => rv_pickT rfl g50 rfl) ?_
              refine wa ?_
              refine nt' ?_
              refine CM_ret ?_
              exact QM_ret1 rfl rfl (fun W hm => ⟨ret_b (show impl_IsCharge_m x0 = (impl_within_m x0.Base 0 4) from by unfold impl_IsCharge_m; exact cond_t g24 (cond_t g26 (cond_f g28 (cond_f g30 (fin_inr hE48 (cond_t g50 (rfl))))))), hm.below⟩)
            ·
              refine ws g50 ?_
              refine ws g50 ?_
              refine ws g50 ?_
              refine wv (fun W hm => rv_pickF rfl g50 rfl) ?_
              refine wa ?_
              refine nt' ?_
              refine CM_ret ?_
              exact QM_ret1 rfl rfl (fun W hm => ⟨ret_b (show impl_IsCharge_m x0 = false from by unfold impl_IsCharge_m; exact cond_t g24 (cond_t g26 (cond_f g28 (cond_f g30 (fin_inr hE48 (cond_f g50 (rfl))))))), hm.below⟩)
        · have g30 : (((x0.Rows.length : Nat) : Int) != ((x0.Ids.length : Nat) : Int)) = true := bne_iff_ne.2 h29
          refine CM_condT rfl g30 ?_
          refine sr ?_
          refine wa ?_
          refine nt' ?_
          refine CM_ret ?_
          refine QM_then_ret ?_
          exact QM_ret1 rfl rfl (fun W hm => ⟨ret_b (show impl_IsCharge_m x0 = false from by unfold impl_IsCharge_m; exact cond_t g24 (cond_t g26 (cond_f g28 (cond_t g30 (rfl))))), hm.below⟩)
      · have g28 : (((x0.Tenants.length : Nat) : Int) != ((x0.Ids.length : Nat) : Int)) = true := bne_iff_ne.2 h27
        refine ws g28 ?_
        refine ws g28 ?_
        refine ws g28 ?_
        refine ws g28 ?_
        refine ws g28 ?_
        refine wv (fun W hm => rv_pickT rfl g28 rfl) ?_
        refine nt' ?_
        refine CM_condT rfl rfl ?_
        refine sr ?_
        refine wa ?_
        refine nt' ?_
        refine CM_ret ?_
        refine QM_then_ret ?_
        exact QM_ret1 rfl rfl (fun W hm => ⟨ret_b (show impl_IsCharge_m x0 = false from by unfold impl_IsCharge_m; exact cond_t g24 (cond_t g26 (cond_t g28 (rfl)))), hm.below⟩)
    ·
      refine ws (nf g26) ?_
      refine ws (nf g26) ?_
      refine ws (nf g26) ?_
      refine ws (nf g26) ?_
      refine ws (nf g26) ?_
      refine wv (fun W hm => rv_pickT rfl (nf g26) rfl) ?_
      refine wm ?_
      refine WM_skip (Wd_some rfl rfl rfl rfl) rfl (by decide) ?_
      refine WM_skip (Wd_some rfl rfl rfl rfl) rfl (by decide) ?_
      refine WM_skip (Wd_some rfl rfl rfl rfl) rfl (by decide) ?_
      refine WM_skip (Wd_some rfl rfl rfl rfl) rfl (by decide) ?_
      refine WM_skip (Wd_some rfl rfl rfl rfl) rfl (by decide) ?_
      refine wv (fun W hm => rv_pickT rfl rfl rfl) ?_
      refine nt' ?_
      refine CM_condT rfl rfl ?_
      refine sr ?_
      refine wa ?_
      refine nt' ?_
      refine CM_ret ?_
      refine QM_then_ret ?_
      exact QM_ret1 rfl rfl (fun W hm => ⟨ret_b (show impl_IsCharge_m x0 = false from by unfold impl_IsCharge_m; exact cond_t g24 (cond_f g26 (rfl))), hm.below⟩)
  ·
    refine ws (nf g24) ?_
    refine ws (nf g24) ?_
    refine ws (nf g24) ?_
    refine wv (fun W hm => rv_pickT rfl (nf g24) rfl) ?_
    refine wm ?_
    refine WM_skip (Wd_some rfl rfl rfl rfl) rfl (by decide) ?_
    refine WM_skip (Wd_some rfl rfl rfl rfl) rfl (by decide) ?_
    refine WM_skip (Wd_some rfl rfl rfl rfl) rfl (by decide) ?_
    refine WM_skip (Wd_some rfl rfl rfl rfl) rfl (by decide) ?_
    refine WM_skip (Wd_some rfl rfl rfl rfl) rfl (by decide) ?_
    refine wv (fun W hm => rv_pickT rfl rfl rfl) ?_
    refine wm ?_
    refine WM_skip (Wd_some rfl rfl rfl rfl) rfl (by decide) ?_
    refine WM_skip (Wd_some rfl rfl rfl rfl) rfl (by decide) ?_
    refine WM_skip (Wd_some rfl rfl rfl rfl) rfl (by decide) ?_
    refine WM_skip (Wd_some rfl rfl rfl rfl) rfl (by decide) ?_
    refine WM_skip (Wd_some rfl rfl rfl rfl) rfl (by decide) ?_
    refine wv (fun W hm => rv_pickT rfl rfl rfl) ?_
    refine nt' ?_
    refine CM_condT rfl rfl ?_
    refine sr ?_
    refine wa ?_
    refine nt' ?_
    refine CM_ret ?_
    refine QM_then_ret ?_
    exact QM_ret1 rfl rfl (fun W hm => ⟨ret_b (show impl_IsCharge_m x0 = false from by unfold impl_IsCharge_m; exact cond_f g24 (rfl)), hm.below⟩)

theorem impl_IsCharge_fact {x : DCharge} (h : impl_IsCharge_m x = true) : 1 ≤ x.Ids.length ∧ x.Tenants.length = x.Ids.length ∧ x.Rows.length = x.Ids.length := by
  unfold impl_IsCharge_m impl_within_m at h
  cases h1 : impl_IsSet_m x.Ids <;> rw [h1] at h
  · cases h
  by_cases h2 : 1 ≤ ((x.Ids.length : Nat) : Int)
  · by_cases h3 : ((x.Tenants.length : Nat) : Int) = ((x.Ids.length : Nat) : Int)
    · by_cases h4 : ((x.Rows.length : Nat) : Int) = ((x.Ids.length : Nat) : Int)
      · omega
      · rw [bne_iff_ne.2 h4] at h
        revert h
        cases decide (1 ≤ ((x.Ids.length : Nat) : Int)) <;> cases decide (((x.Ids.length : Nat) : Int) ≤ 8) <;> cases (((x.Tenants.length : Nat) : Int) != ((x.Ids.length : Nat) : Int)) <;> intro h <;> cases h
    · rw [bne_iff_ne.2 h3] at h
      revert h
      cases decide (1 ≤ ((x.Ids.length : Nat) : Int)) <;> cases decide (((x.Ids.length : Nat) : Int) ≤ 8) <;> intro h <;> cases h
  · rw [decide_eq_false h2] at h
    cases h

end Go.Proofs.Ytfjhiegahdknmaa
