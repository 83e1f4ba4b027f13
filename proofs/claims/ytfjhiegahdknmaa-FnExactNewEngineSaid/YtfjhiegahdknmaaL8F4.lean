/-
  Contracts of functions, printed by a program of ours.
-/
import Derived.Test.YtfjhiegahdknmaaL8F3
namespace Go.Proofs.Ytfjhiegahdknmaa
open Go.RowKit
def laws_heldChargeS_b1 (x0 : (List DCharge)) (k6 : Nat) (s7 : Int) : Int ⊕ (Int) :=
  cond (((gt x0 k6).Segment) != s7) (Sum.inl (-1)) (cond (((gt x0 k6).Base) != (IntKind.i64.wrap (s7 + 1))) (Sum.inl (-1)) (cond (decide ((laws_heldIntS_m ((gt x0 k6).Ids) (IntKind.i64.wrap ((IntKind.i64.wrap (s7 + 1)) + 1))) < 0)) (Sum.inl (-1)) (cond (decide ((laws_heldIntS_m ((gt x0 k6).Tenants) (laws_heldIntS_m ((gt x0 k6).Ids) (IntKind.i64.wrap ((IntKind.i64.wrap (s7 + 1)) + 1)))) < 0)) (Sum.inl (-1)) (cond (decide ((laws_heldIntS_m ((gt x0 k6).Rows) (laws_heldIntS_m ((gt x0 k6).Tenants) (laws_heldIntS_m ((gt x0 k6).Ids) (IntKind.i64.wrap ((IntKind.i64.wrap (s7 + 1)) + 1))))) < 0)) (Sum.inl (-1)) (Sum.inr (laws_heldIntS_m ((gt x0 k6).Rows) (laws_heldIntS_m ((gt x0 k6).Tenants) (laws_heldIntS_m ((gt x0 k6).Ids) (IntKind.i64.wrap ((IntKind.i64.wrap (s7 + 1)) + 1))))))))))
def laws_heldChargeS_m (x0 : (List DCharge)) (x1 : Int) : Int :=
  Sum.elim id (fun (s : Int) => s) (rng (R := Int) (fun k (s : Int) => laws_heldChargeS_b1 x0 k s) (x0.length - 0) 0 x1)
theorem cb136 : Cb Try.prog 136 := ⟨Try.f136, _, Try.func136, rfl, by decide⟩
set_option maxRecDepth 10000 in
set_option maxHeartbeats 4000000 in
theorem laws_heldChargeS_c (w : World) (z0 : Value) (x0 : (List DCharge)) (x1 : Int) (r_0 : rdS tyCharge w w.heap.size z0 x0) :
    Calls Try.prog 136 #[z0, .int .i64 x1] w fun e w' => e = .returned (.int .i64 (laws_heldChargeS_m x0 x1)) ∧ Below w.heap.size w w' := by
  have r5 := r_0
  obtain ⟨m1, A2, c3, rfl, q4⟩ := r_0
  refine call_enterM (L := [(0, .slice A2 x0.length c3), (1, .int .i64 x1)]) (N := 58) Try.func136 rfl rfl (Nat.le_of_ble_eq_true rfl) (argsL_cons rfl (argsL_cons rfl argsL_nil)) ?_
  refine sr ?_
  refine wa ?_
  refine nt' ?_
  refine CM_seq ?_
  refine sr ?_
  refine wa ?_
  refine nt' ?_
  refine CM_block ?_
  refine CM_loop (σ := Nat × (Int) × (Unit)) (fun s => [(0, .slice A2 x0.length c3), (1, .int .i64 s.2.1), (5, .int .i64 ((s.1 : Nat) : Int))]) (fun s => []) (fun s => s.1 ≤ x0.length ∧ rng (R := Int) (fun k (s : Int) => laws_heldChargeS_b1 x0 k s) (x0.length - s.1) s.1 s.2.1 = rng (R := Int) (fun k (s : Int) => laws_heldChargeS_b1 x0 k s) (x0.length - 0) 0 x1) (fun s => x0.length - s.1) (0, x1, ()) (subL_cons rfl (subL_cons rfl (subL_cons rfl subL_nil))) (fun W hm => hm) ⟨(by omega), rfl⟩ ?_
  rintro ⟨k6, s7, ⟨⟩⟩ H10
  obtain ⟨hk8, hF9⟩ : k6 ≤ x0.length ∧ rng (R := Int) (fun k (s : Int) => laws_heldChargeS_b1 x0 k s) (x0.length - k6) k6 s7 = rng (R := Int) (fun k (s : Int) => laws_heldChargeS_b1 x0 k s) (x0.length - 0) 0 x1 := H10
  show CM Try.prog 58 _ _ _ _ [(0, .slice A2 x0.length c3), (1, .int .i64 s7), (5, .int .i64 ((k6 : Nat) : Int))] []
  refine CM_seq ?_
  refine sr ?_
  refine wm ?_
  refine wm ?_
  refine wv (fun W hm => rv_len Try.underlying75 rfl) ?_
  refine wv (fun W hm => rv_lss rfl rfl) ?_
  refine nt' ?_
  by_cases hl11 : k6 < x0.length
  · have g12 : (decide (((k6 : Nat) : Int) < ((x0.length : Nat) : Int))) = true := decide_eq_true (by omega)
    refine CM_condT rfl g12 ?_
    refine CM_skip ?_
    refine QM_then ?_
    refine CM_seq ?_
    refine CM_block ?_
    refine CM_seq ?_
    refine sr ?_
    refine wm ?_
    refine wm ?_
    obtain ⟨a13, rfl, hb14, he15⟩ := q4 (by omega)
    refine wv (fun W hm => rv_index (sz := 5) (k := k6) Try.underlying75 Try.type140 rfl rfl rfl (by omega)) ?_
    refine wv (fun W hm => rv_field Try.underlying140 rfl Try.type3 (by decide) rfl rfl) ?_
    obtain ⟨_, e23, hc16⟩ := he15 k6 _ (gt_some (show k6 < x0.length from by omega))
    obtain ⟨v17, v19, v21, rfl, r18, r20, r22⟩ := tyCharge_rd e23
    have r28 := r18
    obtain ⟨m24, A25, c26, rfl, q27⟩ := r18
    have r33 := r20
    obtain ⟨m29, A30, c31, rfl, q32⟩ := r20
    have r38 := r22
    obtain ⟨m34, A35, c36, rfl, q37⟩ := r22
    refine wv (fun W hm => rv_load Try.underlying3 rfl rfl ((hm.cell0 (show ((a13.add (k6 * 5)).add 0).block < w.heap.size from by rw [add_block, add_block]; exact hb14.1)).trans (hc16 0 _ rfl))) ?_
    refine wm ?_
    refine wv (fun W hm => rv_neq rfl rfl) ?_
    refine nt' ?_
    by_cases h39 : ((gt x0 k6).Segment) = s7
    · have g40 : (((gt x0 k6).Segment) != s7) = false := by rw [h39]; exact bne_self_eq_false _
      refine CM_condF rfl g40 ?_
      refine CM_skip ?_
      refine QM_then ?_
      refine sr ?_
      refine wm ?_
      refine wv (fun W hm => rv_add rfl rfl) ?_
      refine wa ?_
      refine nt' ?_
      refine CM_seq ?_
      refine sr ?_
      refine wm ?_
      refine wm ?_
      refine wv (fun W hm => rv_index (sz := 5) (k := k6) Try.underlying75 Try.type140 rfl rfl rfl (by omega)) ?_
      refine wv (fun W hm => rv_field Try.underlying140 rfl Try.type3 (by decide) rfl rfl) ?_
      refine wv (fun W hm => rv_load Try.underlying3 rfl rfl ((hm.cell0 (show ((a13.add (k6 * 5)).add 1).block < w.heap.size from by rw [add_block, add_block]; exact hb14.1)).trans (hc16 1 _ rfl))) ?_
      refine wm ?_
      refine wv (fun W hm => rv_neq rfl rfl) ?_
      refine nt' ?_
      by_cases h41 : ((gt x0 k6).Base) = (IntKind.i64.wrap (s7 + 1))
      · have g42 : (((gt x0 k6).Base) != (IntKind.i64.wrap (s7 + 1))) = false := by rw [h41]; exact bne_self_eq_false _
        refine CM_condF rfl g42 ?_
        refine CM_skip ?_
        refine QM_then ?_
        refine sr ?_
        refine wm ?_
        refine wv (fun W hm => rv_add rfl rfl) ?_
        refine wa ?_
        refine nt' ?_
        refine sr ?_
        refine wm ?_
        refine wm ?_
        refine wv (fun W hm => rv_index (sz := 5) (k := k6) Try.underlying75 Try.type140 rfl rfl rfl (by omega)) ?_
        refine wv (fun W hm => rv_field Try.underlying140 rfl Try.type27 (by decide) rfl rfl) ?_
        refine wv (fun W hm => rv_load Try.underlying27 rfl rfl ((hm.cell0 (show ((a13.add (k6 * 5)).add 2).block < w.heap.size from by rw [add_block, add_block]; exact hb14.1)).trans (hc16 2 _ rfl))) ?_
        refine wm ?_
        refine WM_callV (cl_fn cb69 rfl) (fun W hm => laws_heldIntS_c W _ ((gt x0 k6).Ids) (IntKind.i64.wrap ((IntKind.i64.wrap (s7 + 1)) + 1)) (hm.rdS0 r28)) (Wd_none rfl) (by decide) ?_
        refine wa ?_
        refine nt' ?_
        refine CM_seq ?_
        refine sr ?_
        refine wm ?_
        refine wv (fun W hm => rv_lss rfl rfl) ?_
        refine nt' ?_
        by_cases h43 : (laws_heldIntS_m ((gt x0 k6).Ids) (IntKind.i64.wrap ((IntKind.i64.wrap (s7 + 1)) + 1))) < 0
        · have g44 : (decide ((laws_heldIntS_m ((gt x0 k6).Ids) (IntKind.i64.wrap ((IntKind.i64.wrap (s7 + 1)) + 1))) < 0)) = true := decide_eq_true h43
          refine CM_condT rfl g44 ?_
          refine sr ?_
          refine wa ?_
          refine nt' ?_
          refine CM_ret ?_
          refine QM_then_ret ?_
          refine QM_block_ret ?_
          refine QM_then_ret ?_
          refine QM_then_ret ?_
          refine QM_block_ret ?_
          refine QM_then_ret ?_
          exact QM_ret1 rfl rfl (fun W hm => ⟨ret_i (show laws_heldChargeS_m x0 x1 = (-1) from by unfold laws_heldChargeS_m; exact fin_inl (rng_ret (body := (fun k (s : Int) => laws_heldChargeS_b1 x0 k s)) (k := k6) (s := s7) (show k6 < x0.length from by omega) (show laws_heldChargeS_b1 x0 k6 s7 = Sum.inl (-1) from by unfold laws_heldChargeS_b1; exact cond_f g40 (cond_f g42 (cond_t g44 (rfl)))) hF9) rfl), hm.below⟩)
        · have g44 : (decide ((laws_heldIntS_m ((gt x0 k6).Ids) (IntKind.i64.wrap ((IntKind.i64.wrap (s7 + 1)) + 1))) < 0)) = false := decide_eq_false h43
          refine CM_condF rfl g44 ?_
          refine CM_skip ?_
          refine QM_then ?_
          refine sr ?_
          refine wm ?_
          refine wm ?_
          refine wv (fun W hm => rv_index (sz := 5) (k := k6) Try.underlying75 Try.type140 rfl rfl rfl (by omega)) ?_
          refine wv (fun W hm => rv_field Try.underlying140 rfl Try.type27 (by decide) rfl rfl) ?_
          refine wv (fun W hm => rv_load Try.underlying27 rfl rfl ((hm.cell0 (show ((a13.add (k6 * 5)).add 3).block < w.heap.size from by rw [add_block, add_block]; exact hb14.1)).trans (hc16 3 _ rfl))) ?_
          refine wm ?_
          refine WM_callV (cl_fn cb69 rfl) (fun W hm => laws_heldIntS_c W _ ((gt x0 k6).Tenants) (laws_heldIntS_m ((gt x0 k6).Ids) (IntKind.i64.wrap ((IntKind.i64.wrap (s7 + 1)) + 1))) (hm.rdS0 r33)) (Wd_none rfl) (by decide) ?_
          refine wa ?_
          refine nt' ?_
          refine CM_seq ?_
          refine sr ?_
          refine wm ?_
          refine wv (fun W hm => rv_lss rfl rfl) ?_
          refine nt' ?_
          by_cases h45 : (laws_heldIntS_m ((gt x0 k6).Tenants) (laws_heldIntS_m ((gt x0 k6).Ids) (IntKind.i64.wrap ((IntKind.i64.wrap (s7 + 1)) + 1)))) < 0
          · have g46 : (decide ((laws_heldIntS_m ((gt x0 k6).Tenants) (laws_heldIntS_m ((gt x0 k6).Ids) (IntKind.i64.wrap ((IntKind.i64.wrap (s7 + 1)) + 1)))) < 0)) = true := decide_eq_true h45
            refine CM_condT rfl g46 ?_
            refine sr ?_
            refine wa ?_
            refine nt' ?_
            refine CM_ret ?_
            refine QM_then_ret ?_
            refine QM_block_ret ?_
            refine QM_then_ret ?_
            refine QM_then_ret ?_
            refine QM_block_ret ?_
            refine QM_then_ret ?_
            exact QM_ret1 rfl rfl (fun W hm => ⟨ret_i (show laws_heldChargeS_m x0 x1 = (-1) from by unfold laws_heldChargeS_m; exact fin_inl (rng_ret (body := (fun k (s : Int) => laws_heldChargeS_b1 x0 k s)) (k := k6) (s := s7) (show k6 < x0.length from by omega) (show laws_heldChargeS_b1 x0 k6 s7 = Sum.inl (-1) from by unfold laws_heldChargeS_b1; exact cond_f g40 (cond_f g42 (cond_f g44 (cond_t g46 (rfl))))) hF9) rfl), hm.below⟩)
          · have g46 : (decide ((laws_heldIntS_m ((gt x0 k6).Tenants) (laws_heldIntS_m ((gt x0 k6).Ids) (IntKind.i64.wrap ((IntKind.i64.wrap (s7 + 1)) + 1)))) < 0)) = false := decide_eq_false h45
            refine CM_condF rfl g46 ?_
            refine CM_skip ?_
            refine QM_then ?_
            refine sr ?_
            refine wm ?_
            refine wm ?_
            refine wv (fun W hm => rv_index (sz := 5) (k := k6) Try.underlying75 Try.type140 rfl rfl rfl (by omega)) ?_
            refine wv (fun W hm => rv_field Try.underlying140 rfl Try.type27 (by decide) rfl rfl) ?_
            refine wv (fun W hm => rv_load Try.underlying27 rfl rfl ((hm.cell0 (show ((a13.add (k6 * 5)).add 4).block < w.heap.size from by rw [add_block, add_block]; exact hb14.1)).trans (hc16 4 _ rfl))) ?_
            refine wm ?_
            refine WM_callV (cl_fn cb69 rfl) (fun W hm => laws_heldIntS_c W _ ((gt x0 k6).Rows) (laws_heldIntS_m ((gt x0 k6).Tenants) (laws_heldIntS_m ((gt x0 k6).Ids) (IntKind.i64.wrap ((IntKind.i64.wrap (s7 + 1)) + 1)))) (hm.rdS0 r38)) (Wd_none rfl) (by decide) ?_
            refine wa ?_
            refine nt' ?_
            refine sr ?_
            refine wm ?_
            refine wv (fun W hm => rv_lss rfl rfl) ?_
            refine nt' ?_
            by_cases h47 : (laws_heldIntS_m ((gt x0 k6).Rows) (laws_heldIntS_m ((gt x0 k6).Tenants) (laws_heldIntS_m ((gt x0 k6).Ids) (IntKind.i64.wrap ((IntKind.i64.wrap (s7 + 1)) + 1))))) < 0
            · have g48 : (decide ((laws_heldIntS_m ((gt x0 k6).Rows) (laws_heldIntS_m ((gt x0 k6).Tenants) (laws_heldIntS_m ((gt x0 k6).Ids) (IntKind.i64.wrap ((IntKind.i64.wrap (s7 + 1)) + 1))))) < 0)) = true := decide_eq_true h47
              refine CM_condT rfl g48 ?_
              refine sr ?_
              refine wa ?_
              refine nt' ?_
              refine CM_ret ?_
              refine QM_block_ret ?_
              refine QM_then_ret ?_
              refine QM_then_ret ?_
              refine QM_block_ret ?_
              refine QM_then_ret ?_
              exact QM_ret1 rfl rfl (fun W hm => ⟨ret_i (show laws_heldChargeS_m x0 x1 = (-1) from by unfold laws_heldChargeS_m; exact fin_inl (rng_ret (body := (fun k (s : Int) => laws_heldChargeS_b1 x0 k s)) (k := k6) (s := s7) (show k6 < x0.length from by omega) (show laws_heldChargeS_b1 x0 k6 s7 = Sum.inl (-1) from by unfold laws_heldChargeS_b1; exact cond_f g40 (cond_f g42 (cond_f g44 (cond_f g46 (cond_t g48 (rfl)))))) hF9) rfl), hm.below⟩)
            · have g48 : (decide ((laws_heldIntS_m ((gt x0 k6).Rows) (laws_heldIntS_m ((gt x0 k6).Tenants) (laws_heldIntS_m ((gt x0 k6).Ids) (IntKind.i64.wrap ((IntKind.i64.wrap (s7 + 1)) + 1))))) < 0)) = false := decide_eq_false h47
              refine CM_condF rfl g48 ?_
              refine CM_skip ?_
              refine QM_block_normal ?_
              refine QM_then ?_
              refine CM_region ?_
              refine wm ?_
              refine wv (fun W hm => rv_addN (p := k6) (q := 1) rfl rfl (by omega)) ?_
              refine wa ?_
              refine WM_nil ?_
              have hn49 := rng_next (R := Int) (body := (fun k (s : Int) => laws_heldChargeS_b1 x0 k s)) (k := k6) (s := s7) (s' := (laws_heldIntS_m ((gt x0 k6).Rows) (laws_heldIntS_m ((gt x0 k6).Tenants) (laws_heldIntS_m ((gt x0 k6).Ids) (IntKind.i64.wrap ((IntKind.i64.wrap (s7 + 1)) + 1)))))) (show k6 < x0.length from by omega) (show laws_heldChargeS_b1 x0 k6 s7 = Sum.inr (laws_heldIntS_m ((gt x0 k6).Rows) (laws_heldIntS_m ((gt x0 k6).Tenants) (laws_heldIntS_m ((gt x0 k6).Ids) (IntKind.i64.wrap ((IntKind.i64.wrap (s7 + 1)) + 1))))) from by unfold laws_heldChargeS_b1; exact cond_f g40 (cond_f g42 (cond_f g44 (cond_f g46 (cond_f g48 (rfl)))))) hF9
              exact QM_round (k6 + 1, (laws_heldIntS_m ((gt x0 k6).Rows) (laws_heldIntS_m ((gt x0 k6).Tenants) (laws_heldIntS_m ((gt x0 k6).Ids) (IntKind.i64.wrap ((IntKind.i64.wrap (s7 + 1)) + 1))))), ()) (subL_cons rfl (subL_cons rfl (subL_cons rfl subL_nil))) (fun W hm => hm) ⟨(by omega), hn49⟩ (show x0.length - (k6 + 1) < x0.length - k6 from by omega)
      · have g42 : (((gt x0 k6).Base) != (IntKind.i64.wrap (s7 + 1))) = true := bne_iff_ne.2 h41
        refine CM_condT rfl g42 ?_
        refine sr ?_
        refine wa ?_
        refine nt' ?_
        refine CM_ret ?_
        refine QM_then_ret ?_
        refine QM_block_ret ?_
        refine QM_then_ret ?_
        refine QM_then_ret ?_
        refine QM_block_ret ?_
        refine QM_then_ret ?_
        exact QM_ret1 rfl rfl (fun W hm => ⟨ret_i (show laws_heldChargeS_m x0 x1 = (-1) from by unfold laws_heldChargeS_m; exact fin_inl (rng_ret (body := (fun k (s : Int) => laws_heldChargeS_b1 x0 k s)) (k := k6) (s := s7) (show k6 < x0.length from by omega) (show laws_heldChargeS_b1 x0 k6 s7 = Sum.inl (-1) from by unfold laws_heldChargeS_b1; exact cond_f g40 (cond_t g42 (rfl))) hF9) rfl), hm.below⟩)
    · have g40 : (((gt x0 k6).Segment) != s7) = true := bne_iff_ne.2 h39
      refine CM_condT rfl g40 ?_
      refine sr ?_
      refine wa ?_
      refine nt' ?_
      refine CM_ret ?_
      refine QM_then_ret ?_
      refine QM_block_ret ?_
      refine QM_then_ret ?_
      refine QM_then_ret ?_
      refine QM_block_ret ?_
      refine QM_then_ret ?_
      exact QM_ret1 rfl rfl (fun W hm => ⟨ret_i (show laws_heldChargeS_m x0 x1 = (-1) from by unfold laws_heldChargeS_m; exact fin_inl (rng_ret (body := (fun k (s : Int) => laws_heldChargeS_b1 x0 k s)) (k := k6) (s := s7) (show k6 < x0.length from by omega) (show laws_heldChargeS_b1 x0 k6 s7 = Sum.inl (-1) from by unfold laws_heldChargeS_b1; exact cond_t g40 (rfl)) hF9) rfl), hm.below⟩)
  · have g12 : (decide (((k6 : Nat) : Int) < ((x0.length : Nat) : Int))) = false := decide_eq_false (by omega)
    refine CM_condF rfl g12 ?_
    refine CM_exit ?_
    refine QM_then_exit ?_
    refine QM_then_exit ?_
    have hE50 : rng (R := Int) (fun k (s : Int) => laws_heldChargeS_b1 x0 k s) (x0.length - 0) 0 x1 = Sum.inr s7 := rng_end hl11 hF9
    refine QM_block_hit ?_
    refine QM_then ?_
    refine sr ?_
    refine wm ?_
    refine wa ?_
    refine nt' ?_
    refine CM_ret ?_
    exact QM_ret1 rfl rfl (fun W hm => ⟨ret_i (show laws_heldChargeS_m x0 x1 = s7 from by unfold laws_heldChargeS_m; exact fin_inr hE50 (rfl)), hm.below⟩)

def laws_heldEngine_m (x0 : DEngine) (x1 : Int) : Int :=
  cond (decide ((laws_heldStore_m x0.Store x1) < 0)) (-1) (cond (decide ((laws_heldIntS_m x0.Order (laws_heldStore_m x0.Store x1)) < 0)) (-1) (cond (decide ((laws_heldActiveS_m x0.Active (laws_heldIntS_m x0.Order (laws_heldStore_m x0.Store x1))) < 0)) (-1) (cond (decide ((laws_heldFinishedS_m x0.Done (laws_heldActiveS_m x0.Active (laws_heldIntS_m x0.Order (laws_heldStore_m x0.Store x1)))) < 0)) (-1) (cond (decide ((laws_heldChargeS_m x0.Ledger (laws_heldFinishedS_m x0.Done (laws_heldActiveS_m x0.Active (laws_heldIntS_m x0.Order (laws_heldStore_m x0.Store x1))))) < 0)) (-1) (laws_heldChargeS_m x0.Ledger (laws_heldFinishedS_m x0.Done (laws_heldActiveS_m x0.Active (laws_heldIntS_m x0.Order (laws_heldStore_m x0.Store x1)))))))))
theorem cb56 : Cb Try.prog 56 := ⟨Try.f56, _, Try.func56, rfl, by decide⟩
set_option maxRecDepth 10000 in
set_option maxHeartbeats 4000000 in
theorem laws_heldEngine_c (w : World) (z0 : List Value) (x0 : DEngine) (x1 : Int) (r_0 : tyEngine.rd w w.heap.size z0 x0) :
    Calls Try.prog 56 #[.agg z0.toArray, .int .i64 x1] w fun e w' => e = .returned (.int .i64 (laws_heldEngine_m x0 x1)) ∧ Below w.heap.size w w' := by
  obtain ⟨v1, v3, v5, v7, v9, rfl, r2, r4, r6, r8, r10⟩ := tyEngine_rd r_0
  have r15 := r2
  obtain ⟨m11, A12, c13, rfl, q14⟩ := r2
  have r20 := r4
  obtain ⟨m16, A17, c18, rfl, q19⟩ := r4
  have r25 := r6
  obtain ⟨m21, A22, c23, rfl, q24⟩ := r6
  have r30 := r8
  obtain ⟨m26, A27, c28, rfl, q29⟩ := r8
  have r35 := r10
  obtain ⟨m31, A32, c33, rfl, q34⟩ := r10
  refine call_enterM (L := [(0, .agg #[.slice A12 x0.Store.Segments.length c13, .int .i64 x0.Store.Now, .int .i64 x0.Cursor, .slice A17 x0.Order.length c18, .slice A22 x0.Active.length c23, .slice A27 x0.Done.length c28, .slice A32 x0.Ledger.length c33, .int .i64 x0.Steps]), (1, .int .i64 x1)]) (N := 36) Try.func56 rfl rfl (Nat.le_of_ble_eq_true rfl) (argsL_cons rfl (argsL_cons rfl argsL_nil)) ?_
  refine sr ?_
  refine WM_box rfl (Wd_none rfl) (by decide) (fun p36 => ?_)
  refine wa ?_
  refine nt' ?_
  refine sr ?_
  refine wv (fun W hm => rv_field Try.underlying77 rfl Try.type26 (by decide) rfl rfl) ?_
  refine wv (fun W hm => rv_loadN (cs := [.slice A12 x0.Store.Segments.length c13, .int .i64 x0.Store.Now]) Try.underlying26 Try.type26 rfl rfl (hm.boxPart (n := 0) rfl rfl)) ?_
  refine wm ?_
  refine WM_callV (cl_fn cb133 rfl) (fun W hm => laws_heldStore_c W _ x0.Store x1 (tyStore_mk (x := x0.Store) (hm.rdS0 r15))) (Wd_none rfl) (by decide) ?_
  refine wa ?_
  refine nt' ?_
  refine CM_seq ?_
  refine sr ?_
  refine wm ?_
  refine wv (fun W hm => rv_lss rfl rfl) ?_
  refine nt' ?_
  by_cases h37 : (laws_heldStore_m x0.Store x1) < 0
  · have g38 : (decide ((laws_heldStore_m x0.Store x1) < 0)) = true := decide_eq_true h37
    refine CM_condT rfl g38 ?_
    refine sr ?_
    refine wa ?_
    refine nt' ?_
    refine CM_ret ?_
    refine QM_then_ret ?_
    exact QM_ret1 rfl rfl (fun W hm => ⟨ret_i (show laws_heldEngine_m x0 x1 = (-1) from by unfold laws_heldEngine_m; exact cond_t g38 (rfl)), hm.below⟩)
  · have g38 : (decide ((laws_heldStore_m x0.Store x1) < 0)) = false := decide_eq_false h37
    refine CM_condF rfl g38 ?_
    refine CM_skip ?_
    refine QM_then ?_
    refine sr ?_
    refine wv (fun W hm => rv_field Try.underlying77 rfl Try.type27 (by decide) rfl rfl) ?_
    refine wv (fun W hm => rv_load Try.underlying27 rfl rfl (hm.boxCell (n := 0) (o := 3) rfl rfl)) ?_
    refine wm ?_
    refine WM_callV (cl_fn cb69 rfl) (fun W hm => laws_heldIntS_c W _ x0.Order (laws_heldStore_m x0.Store x1) (hm.rdS0 r20)) (Wd_none rfl) (by decide) ?_
    refine wa ?_
    refine nt' ?_
    refine CM_seq ?_
    refine sr ?_
    refine wm ?_
    refine wv (fun W hm => rv_lss rfl rfl) ?_
    refine nt' ?_
    by_cases h39 : (laws_heldIntS_m x0.Order (laws_heldStore_m x0.Store x1)) < 0
    · have g40 : (decide ((laws_heldIntS_m x0.Order (laws_heldStore_m x0.Store x1)) < 0)) = true := decide_eq_true h39
      refine CM_condT rfl g40 ?_
      refine sr ?_
      refine wa ?_
      refine nt' ?_
      refine CM_ret ?_
      refine QM_then_ret ?_
      exact QM_ret1 rfl rfl (fun W hm => ⟨ret_i (show laws_heldEngine_m x0 x1 = (-1) from by unfold laws_heldEngine_m; exact cond_f g38 (cond_t g40 (rfl))), hm.below⟩)
    · have g40 : (decide ((laws_heldIntS_m x0.Order (laws_heldStore_m x0.Store x1)) < 0)) = false := decide_eq_false h39
      refine CM_condF rfl g40 ?_
      refine CM_skip ?_
      refine QM_then ?_
      refine sr ?_
      refine wv (fun W hm => rv_field Try.underlying77 rfl Try.type73 (by decide) rfl rfl) ?_
      refine wv (fun W hm => rv_load Try.underlying73 rfl rfl (hm.boxCell (n := 0) (o := 4) rfl rfl)) ?_
      refine wm ?_
      refine WM_callV (cl_fn cb134 rfl) (fun W hm => laws_heldActiveS_c W _ x0.Active (laws_heldIntS_m x0.Order (laws_heldStore_m x0.Store x1)) (hm.rdS0 r25)) (Wd_none rfl) (by decide) ?_
      refine wa ?_
      refine nt' ?_
      refine CM_seq ?_
      refine sr ?_
      refine wm ?_
      refine wv (fun W hm => rv_lss rfl rfl) ?_
      refine nt' ?_
      by_cases h41 : (laws_heldActiveS_m x0.Active (laws_heldIntS_m x0.Order (laws_heldStore_m x0.Store x1))) < 0
      · have g42 : (decide ((laws_heldActiveS_m x0.Active (laws_heldIntS_m x0.Order (laws_heldStore_m x0.Store x1))) < 0)) = true := decide_eq_true h41
        refine CM_condT rfl g42 ?_
        refine sr ?_
        refine wa ?_
        refine nt' ?_
        refine CM_ret ?_
        refine QM_then_ret ?_
        exact QM_ret1 rfl rfl (fun W hm => ⟨ret_i (show laws_heldEngine_m x0 x1 = (-1) from by unfold laws_heldEngine_m; exact cond_f g38 (cond_f g40 (cond_t g42 (rfl)))), hm.below⟩)
      · have g42 : (decide ((laws_heldActiveS_m x0.Active (laws_heldIntS_m x0.Order (laws_heldStore_m x0.Store x1))) < 0)) = false := decide_eq_false h41
        refine CM_condF rfl g42 ?_
        refine CM_skip ?_
        refine QM_then ?_
        refine sr ?_
        refine wv (fun W hm => rv_field Try.underlying77 rfl Try.type74 (by decide) rfl rfl) ?_
        refine wv (fun W hm => rv_load Try.underlying74 rfl rfl (hm.boxCell (n := 0) (o := 5) rfl rfl)) ?_
        refine wm ?_
        refine WM_callV (cl_fn cb135 rfl) (fun W hm => laws_heldFinishedS_c W _ x0.Done (laws_heldActiveS_m x0.Active (laws_heldIntS_m x0.Order (laws_heldStore_m x0.Store x1))) (hm.rdS0 r30)) (Wd_none rfl) (by decide) ?_
        refine wa ?_
        refine nt' ?_
        refine CM_seq ?_
        refine sr ?_
        refine wm ?_
        refine wv (fun W hm => rv_lss rfl rfl) ?_
        refine nt' ?_
        by_cases h43 : (laws_heldFinishedS_m x0.Done (laws_heldActiveS_m x0.Active (laws_heldIntS_m x0.Order (laws_heldStore_m x0.Store x1)))) < 0
        · have g44 : (decide ((laws_heldFinishedS_m x0.Done (laws_heldActiveS_m x0.Active (laws_heldIntS_m x0.Order (laws_heldStore_m x0.Store x1)))) < 0)) = true := decide_eq_true h43
          refine CM_condT rfl g44 ?_
          refine sr ?_
          refine wa ?_
          refine nt' ?_
          refine CM_ret ?_
          refine QM_then_ret ?_
          exact QM_ret1 rfl rfl (fun W hm => ⟨ret_i (show laws_heldEngine_m x0 x1 = (-1) from by unfold laws_heldEngine_m; exact cond_f g38 (cond_f g40 (cond_f g42 (cond_t g44 (rfl))))), hm.below⟩)
        · have g44 : (decide ((laws_heldFinishedS_m x0.Done (laws_heldActiveS_m x0.Active (laws_heldIntS_m x0.Order (laws_heldStore_m x0.Store x1)))) < 0)) = false := decide_eq_false h43
          refine CM_condF rfl g44 ?_
          refine CM_skip ?_
          refine QM_then ?_
          refine sr ?_
          refine wv (fun W hm => rv_field Try.underlying77 rfl Try.type75 (by decide) rfl rfl) ?_
          refine wv (fun W hm => rv_load Try.underlying75 rfl rfl (hm.boxCell (n := 0) (o := 6) rfl rfl)) ?_
          refine wm ?_
          refine WM_callV (cl_fn cb136 rfl) (fun W hm => laws_heldChargeS_c W _ x0.Ledger (laws_heldFinishedS_m x0.Done (laws_heldActiveS_m x0.Active (laws_heldIntS_m x0.Order (laws_heldStore_m x0.Store x1)))) (hm.rdS0 r35)) (Wd_none rfl) (by decide) ?_
          refine wa ?_
          refine nt' ?_
          refine CM_seq ?_
          refine sr ?_
          refine wm ?_
          refine wv (fun W hm => rv_lss rfl rfl) ?_
          refine nt' ?_
          by_cases h45 : (laws_heldChargeS_m x0.Ledger (laws_heldFinishedS_m x0.Done (laws_heldActiveS_m x0.Active (laws_heldIntS_m x0.Order (laws_heldStore_m x0.Store x1))))) < 0
          · have g46 : (decide ((laws_heldChargeS_m x0.Ledger (laws_heldFinishedS_m x0.Done (laws_heldActiveS_m x0.Active (laws_heldIntS_m x0.Order (laws_heldStore_m x0.Store x1))))) < 0)) = true := decide_eq_true h45
            refine CM_condT rfl g46 ?_
            refine sr ?_
            refine wa ?_
            refine nt' ?_
            refine CM_ret ?_
            refine QM_then_ret ?_
            exact QM_ret1 rfl rfl (fun W hm => ⟨ret_i (show laws_heldEngine_m x0 x1 = (-1) from by unfold laws_heldEngine_m; exact cond_f g38 (cond_f g40 (cond_f g42 (cond_f g44 (cond_t g46 (rfl)))))), hm.below⟩)
          · have g46 : (decide ((laws_heldChargeS_m x0.Ledger (laws_heldFinishedS_m x0.Done (laws_heldActiveS_m x0.Active (laws_heldIntS_m x0.Order (laws_heldStore_m x0.Store x1))))) < 0)) = false := decide_eq_false h45
            refine CM_condF rfl g46 ?_
            refine CM_skip ?_
            refine QM_then ?_
            refine sr ?_
            refine wm ?_
            refine wa ?_
            refine nt' ?_
            refine CM_ret ?_
            exact QM_ret1 rfl rfl (fun W hm => ⟨ret_i (show laws_heldEngine_m x0 x1 = (laws_heldChargeS_m x0.Ledger (laws_heldFinishedS_m x0.Done (laws_heldActiveS_m x0.Active (laws_heldIntS_m x0.Order (laws_heldStore_m x0.Store x1))))) from by unfold laws_heldEngine_m; exact cond_f g38 (cond_f g40 (cond_f g42 (cond_f g44 (cond_f g46 (rfl)))))), hm.below⟩)

end Go.Proofs.Ytfjhiegahdknmaa
