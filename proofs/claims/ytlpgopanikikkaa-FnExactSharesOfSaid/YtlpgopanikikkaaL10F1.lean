/-
  Contracts of functions, printed by a program of ours.
-/
import Derived.Test.YtlpgopanikikkaaDat
namespace Go.Proofs.Ytlpgopanikikkaa
open Go.RowKit
def laws_szIntS_m (x0 : (List Int)) (x1 : Int) : Int :=
  cond (decide ((IntKind.i64.wrap (x1 - ((x0.length : Nat) : Int))) < 0)) (-1) (IntKind.i64.wrap (x1 - ((x0.length : Nat) : Int)))
theorem cb65 : Cb Try.prog 65 := ⟨Try.f65, _, Try.func65, rfl, by decide⟩
set_option maxRecDepth 10000 in
set_option maxHeartbeats 4000000 in
theorem laws_szIntS_c (w : World) (z0 : Value) (x0 : (List Int)) (x1 : Int) (r_0 : rdS tInt w w.heap.size z0 x0) :
    Calls Try.prog 65 #[z0, .int .i64 x1] w fun e w' => e = .returned (.int .i64 (laws_szIntS_m x0 x1)) ∧ Below w.heap.size w w' := by
  have r5 := r_0
  obtain ⟨m1, A2, c3, rfl, q4⟩ := r_0
  refine call_enterM (L := [(0, .slice A2 x0.length c3), (1, .int .i64 x1)]) (N := 12) Try.func65 rfl rfl (Nat.le_of_ble_eq_true rfl) (argsL_cons rfl (argsL_cons rfl argsL_nil)) ?_
  refine CM_seq ?_
  refine CM_region ?_
  refine WM_val (fun W hm => rv_assign rfl) (Wd_none rfl) rfl (by decide) ?_
  refine WM_nil ?_
  refine QM_then ?_
  refine CM_seq ?_
  refine CM_region ?_
  refine WM_val (fun W hm => rv_move rfl) (Wd_none rfl) rfl (by decide) ?_
  refine WM_val (fun W hm => rv_move rfl) (Wd_none rfl) rfl (by decide) ?_
  refine WM_val (fun W hm => rv_len Try.underlying32 rfl) (Wd_none rfl) rfl (by decide) ?_
  refine WM_val (fun W hm => rv_sub rfl rfl) (Wd_none rfl) rfl (by decide) ?_
  refine WM_val (fun W hm => rv_assign rfl) (Wd_none rfl) rfl (by decide) ?_
  refine WM_nil ?_
  refine QM_then ?_
  refine CM_seq ?_
  refine CM_seq ?_
  refine CM_region ?_
  refine WM_val (fun W hm => rv_move rfl) (Wd_none rfl) rfl (by decide) ?_
  refine WM_val (fun W hm => rv_lss rfl rfl) (Wd_none rfl) rfl (by decide) ?_
  refine WM_nil ?_
  refine QM_then ?_
  by_cases h6 : (IntKind.i64.wrap (x1 - ((x0.length : Nat) : Int))) < 0
  · have g7 : (decide ((IntKind.i64.wrap (x1 - ((x0.length : Nat) : Int))) < 0)) = true := decide_eq_true h6
    refine CM_condT rfl g7 ?_
    refine CM_seq ?_
    refine CM_region ?_
    refine WM_val (fun W hm => rv_assign rfl) (Wd_none rfl) rfl (by decide) ?_
    refine WM_nil ?_
    refine QM_then ?_
    refine CM_ret ?_
    refine QM_then_ret ?_
    exact QM_ret1 rfl rfl (fun W hm => ⟨ret_i (show laws_szIntS_m x0 x1 = (-1) from by unfold laws_szIntS_m; exact cond_t g7 (rfl)), hm.below⟩)
  · have g7 : (decide ((IntKind.i64.wrap (x1 - ((x0.length : Nat) : Int))) < 0)) = false := decide_eq_false h6
    refine CM_condF rfl g7 ?_
    refine CM_skip ?_
    refine QM_then ?_
    refine CM_seq ?_
    refine CM_region ?_
    refine WM_val (fun W hm => rv_move rfl) (Wd_none rfl) rfl (by decide) ?_
    refine WM_val (fun W hm => rv_assign rfl) (Wd_none rfl) rfl (by decide) ?_
    refine WM_nil ?_
    refine QM_then ?_
    refine CM_ret ?_
    exact QM_ret1 rfl rfl (fun W hm => ⟨ret_i (show laws_szIntS_m x0 x1 = (IntKind.i64.wrap (x1 - ((x0.length : Nat) : Int))) from by unfold laws_szIntS_m; exact cond_f g7 (rfl)), hm.below⟩)

def laws_szCharge_m (x0 : DCharge) (x1 : Int) : Int :=
  cond (decide ((laws_szIntS_m x0.Ids x1) < 0)) (-1) (cond (decide ((laws_szIntS_m x0.Tenants (laws_szIntS_m x0.Ids x1)) < 0)) (-1) (cond (decide ((laws_szIntS_m x0.Rows (laws_szIntS_m x0.Tenants (laws_szIntS_m x0.Ids x1))) < 0)) (-1) (laws_szIntS_m x0.Rows (laws_szIntS_m x0.Tenants (laws_szIntS_m x0.Ids x1)))))
theorem cb24 : Cb Try.prog 24 := ⟨Try.f24, _, Try.func24, rfl, by decide⟩
set_option maxRecDepth 10000 in
set_option maxHeartbeats 4000000 in
theorem laws_szCharge_c (w : World) (z0 : List Value) (x0 : DCharge) (x1 : Int) (r_0 : tyLCharge.rd w w.heap.size z0 x0) :
    Calls Try.prog 24 #[.agg z0.toArray, .int .i64 x1] w fun e w' => e = .returned (.int .i64 (laws_szCharge_m x0 x1)) ∧ Below w.heap.size w w' := by
  obtain ⟨v1, v3, v5, rfl, r2, r4, r6⟩ := tyLCharge_rd r_0
  have r11 := r2
  obtain ⟨m7, A8, c9, rfl, q10⟩ := r2
  have r16 := r4
  obtain ⟨m12, A13, c14, rfl, q15⟩ := r4
  have r21 := r6
  obtain ⟨m17, A18, c19, rfl, q20⟩ := r6
  refine call_enterM (L := [(0, .agg #[.int .i64 x0.Segment, .int .i64 x0.Base, .slice A8 x0.Ids.length c9, .slice A13 x0.Tenants.length c14, .slice A18 x0.Rows.length c19]), (1, .int .i64 x1)]) (N := 24) Try.func24 rfl rfl (Nat.le_of_ble_eq_true rfl) (argsL_cons rfl (argsL_cons rfl argsL_nil)) ?_
  refine CM_seq ?_
  refine CM_region ?_
  refine WM_box rfl (Wd_none rfl) (by decide) (fun p22 => ?_)
  refine WM_val (fun W hm => rv_assign rfl) (Wd_none rfl) rfl (by decide) ?_
  refine WM_nil ?_
  refine QM_then ?_
  refine CM_seq ?_
  refine CM_region ?_
  refine WM_val (fun W hm => rv_field Try.underlying34 rfl Try.type32 (by decide) rfl rfl) (Wd_none rfl) rfl (by decide) ?_
  refine WM_val (fun W hm => rv_load Try.underlying32 rfl rfl (hm.boxCell (n := 0) (o := 2) rfl rfl)) (Wd_none rfl) rfl (by decide) ?_
  refine WM_val (fun W hm => rv_move rfl) (Wd_none rfl) rfl (by decide) ?_
  refine WM_callV (cl_fn cb65 rfl) (fun W hm => laws_szIntS_c W _ x0.Ids x1 (hm.rdS0 r11)) (Wd_none rfl) (by decide) ?_
  refine WM_val (fun W hm => rv_assign rfl) (Wd_none rfl) rfl (by decide) ?_
  refine WM_nil ?_
  refine QM_then ?_
  refine CM_seq ?_
  refine CM_seq ?_
  refine CM_region ?_
  refine WM_val (fun W hm => rv_move rfl) (Wd_none rfl) rfl (by decide) ?_
  refine WM_val (fun W hm => rv_lss rfl rfl) (Wd_none rfl) rfl (by decide) ?_
  refine WM_nil ?_
  refine QM_then ?_
  by_cases h23 : (laws_szIntS_m x0.Ids x1) < 0
  · have g24 : (decide ((laws_szIntS_m x0.Ids x1) < 0)) = true := decide_eq_true h23
    refine CM_condT rfl g24 ?_
    refine CM_seq ?_
    refine CM_region ?_
    refine WM_val (fun W hm => rv_assign rfl) (Wd_none rfl) rfl (by decide) ?_
    refine WM_nil ?_
    refine QM_then ?_
    refine CM_ret ?_
    refine QM_then_ret ?_
    exact QM_ret1 rfl rfl (fun W hm => ⟨ret_i (show laws_szCharge_m x0 x1 = (-1) from by unfold laws_szCharge_m; exact cond_t g24 (rfl)), hm.below⟩)
  · have g24 : (decide ((laws_szIntS_m x0.Ids x1) < 0)) = false := decide_eq_false h23
    refine CM_condF rfl g24 ?_
    refine CM_skip ?_
    refine QM_then ?_
    refine CM_seq ?_
    refine CM_region ?_
    refine WM_val (fun W hm => rv_field Try.underlying34 rfl Try.type32 (by decide) rfl rfl) (Wd_none rfl) rfl (by decide) ?_
    refine WM_val (fun W hm => rv_load Try.underlying32 rfl rfl (hm.boxCell (n := 0) (o := 3) rfl rfl)) (Wd_none rfl) rfl (by decide) ?_
    refine WM_val (fun W hm => rv_move rfl) (Wd_none rfl) rfl (by decide) ?_
    refine WM_callV (cl_fn cb65 rfl) (fun W hm => laws_szIntS_c W _ x0.Tenants (laws_szIntS_m x0.Ids x1) (hm.rdS0 r16)) (Wd_none rfl) (by decide) ?_
    refine WM_val (fun W hm => rv_assign rfl) (Wd_none rfl) rfl (by decide) ?_
    refine WM_nil ?_
    refine QM_then ?_
    refine CM_seq ?_
    refine CM_seq ?_
    refine CM_region ?_
    refine WM_val (fun W hm => rv_move rfl) (Wd_none rfl) rfl (by decide) ?_
    refine WM_val (fun W hm => rv_lss rfl rfl) (Wd_none rfl) rfl (by decide) ?_
    refine WM_nil ?_
    refine QM_then ?_
    by_cases h25 : (laws_szIntS_m x0.Tenants (laws_szIntS_m x0.Ids x1)) < 0
    · have g26 : (decide ((laws_szIntS_m x0.Tenants (laws_szIntS_m x0.Ids x1)) < 0)) = true := decide_eq_true h25
      refine CM_condT rfl g26 ?_
      refine CM_seq ?_
      refine CM_region ?_
      refine WM_val (fun W hm => rv_assign rfl) (Wd_none rfl) rfl (by decide) ?_
      refine WM_nil ?_
      refine QM_then ?_
      refine CM_ret ?_
      refine QM_then_ret ?_
      exact QM_ret1 rfl rfl (fun W hm => ⟨ret_i (show laws_szCharge_m x0 x1 = (-1) from by unfold laws_szCharge_m; exact cond_f g24 (cond_t g26 (rfl))), hm.below⟩)
    · have g26 : (decide ((laws_szIntS_m x0.Tenants (laws_szIntS_m x0.Ids x1)) < 0)) = false := decide_eq_false h25
      refine CM_condF rfl g26 ?_
      refine CM_skip ?_
      refine QM_then ?_
      refine CM_seq ?_
      refine CM_region ?_
      refine WM_val (fun W hm => rv_field Try.underlying34 rfl Try.type32 (by decide) rfl rfl) (Wd_none rfl) rfl (by decide) ?_
      refine WM_val (fun W hm => rv_load Try.underlying32 rfl rfl (hm.boxCell (n := 0) (o := 4) rfl rfl)) (Wd_none rfl) rfl (by decide) ?_
      refine WM_val (fun W hm => rv_move rfl) (Wd_none rfl) rfl (by decide) ?_
      refine WM_callV (cl_fn cb65 rfl) (fun W hm => laws_szIntS_c W _ x0.Rows (laws_szIntS_m x0.Tenants (laws_szIntS_m x0.Ids x1)) (hm.rdS0 r21)) (Wd_none rfl) (by decide) ?_
      refine WM_val (fun W hm => rv_assign rfl) (Wd_none rfl) rfl (by decide) ?_
      refine WM_nil ?_
      refine QM_then ?_
      refine CM_seq ?_
      refine CM_seq ?_
      refine CM_region ?_
      refine WM_val (fun W hm => rv_move rfl) (Wd_none rfl) rfl (by decide) ?_
      refine WM_val (fun W hm => rv_lss rfl rfl) (Wd_none rfl) rfl (by decide) ?_
      refine WM_nil ?_
      refine QM_then ?_
      by_cases h27 : (laws_szIntS_m x0.Rows (laws_szIntS_m x0.Tenants (laws_szIntS_m x0.Ids x1))) < 0
      · have g28 : (decide ((laws_szIntS_m x0.Rows (laws_szIntS_m x0.Tenants (laws_szIntS_m x0.Ids x1))) < 0)) = true := decide_eq_true h27
        refine CM_condT rfl g28 ?_
        refine CM_seq ?_
        refine CM_region ?_
        refine WM_val (fun W hm => rv_assign rfl) (Wd_none rfl) rfl (by decide) ?_
        refine WM_nil ?_
        refine QM_then ?_
        refine CM_ret ?_
        refine QM_then_ret ?_
        exact QM_ret1 rfl rfl (fun W hm => ⟨ret_i (show laws_szCharge_m x0 x1 = (-1) from by unfold laws_szCharge_m; exact cond_f g24 (cond_f g26 (cond_t g28 (rfl)))), hm.below⟩)
      · have g28 : (decide ((laws_szIntS_m x0.Rows (laws_szIntS_m x0.Tenants (laws_szIntS_m x0.Ids x1))) < 0)) = false := decide_eq_false h27
        refine CM_condF rfl g28 ?_
        refine CM_skip ?_
        refine QM_then ?_
        refine CM_seq ?_
        refine CM_region ?_
        refine WM_val (fun W hm => rv_move rfl) (Wd_none rfl) rfl (by decide) ?_
        refine WM_val (fun W hm => rv_assign rfl) (Wd_none rfl) rfl (by decide) ?_
        refine WM_nil ?_
        refine QM_then ?_
        refine CM_ret ?_
        exact QM_ret1 rfl rfl (fun W hm => ⟨ret_i (show laws_szCharge_m x0 x1 = (laws_szIntS_m x0.Rows (laws_szIntS_m x0.Tenants (laws_szIntS_m x0.Ids x1))) from by unfold laws_szCharge_m; exact cond_f g24 (cond_f g26 (cond_f g28 (rfl)))), hm.below⟩)

def laws_toIntS_b1 (x0 : (List Int)) (k9 : Nat) (d10 : (List Int)) : (List Int) ⊕ ((List Int)) :=
  Sum.inr (d10.set k9 (gt x0 k9))
def laws_toIntS_m (x0 : (List Int)) : (List Int) :=
  Sum.elim id (fun (s : (List Int)) => s) (rng (R := (List Int)) (fun k (s : (List Int)) => laws_toIntS_b1 x0 k s) (x0.length - 0) 0 (List.replicate x0.length (0 : Int)))
theorem cb59 : Cb Try.prog 59 := ⟨Try.f59, _, Try.func59, rfl, by decide⟩
set_option maxRecDepth 10000 in
set_option maxHeartbeats 4000000 in
theorem laws_toIntS_c (w : World) (z0 : Value) (x0 : (List Int)) (r_0 : rdS tInt w w.heap.size z0 x0) (s_0 : x0.length ≤ 68719476736) :
    Calls Try.prog 59 #[z0] w fun e w' => ∃ v : Value, e = .returned (v) ∧ Mem w.heap.size w [iOwn (tSl tInt 3) [v] (laws_toIntS_m x0)] w' := by
  have r5 := r_0
  obtain ⟨m1, A2, c3, rfl, q4⟩ := r_0
  have l6 : x0.length ≤ 68719476736 := s_0
  refine call_enterM (L := [(0, .slice A2 x0.length c3)]) (N := 22) Try.func59 rfl rfl (Nat.le_of_ble_eq_true rfl) (argsL_cons rfl argsL_nil) ?_
  refine CM_seq ?_
  refine CM_region ?_
  refine WM_val (fun W hm => rv_assign rfl) (Wd_none rfl) rfl (by decide) ?_
  refine WM_nil ?_
  refine QM_then ?_
  refine CM_seq ?_
  refine CM_region ?_
  refine WM_val (fun W hm => rv_move rfl) (Wd_none rfl) rfl (by decide) ?_
  refine WM_val (fun W hm => rv_len Try.underlying32 rfl) (Wd_none rfl) rfl (by decide) ?_
  refine WM_make (E := tInt) (n := x0.length) (x0 := (0 : Int)) Try.underlying32 Try.type3 rfl rfl rfl (fun _ => tInt_own) rfl rfl (show x0.length * 8 ≤ 281474976710656 from by omega) (by omega) (Wd_none rfl) (by decide) (fun p7 => ?_)
  refine WM_val (fun W hm => rv_assign rfl) (Wd_none rfl) rfl (by decide) ?_
  refine WM_nil ?_
  refine QM_then ?_
  refine CM_seq ?_
  refine CM_seq ?_
  refine CM_region ?_
  refine WM_val (fun W hm => rv_assign rfl) (Wd_none rfl) rfl (by decide) ?_
  refine WM_nil ?_
  refine QM_then ?_
  refine CM_block ?_
  refine CM_loop (σ := Nat × ((List Int)) × (Unit)) (fun s => [(0, .slice A2 x0.length c3), (3, .slice (some ⟨p7, 0, none⟩) x0.length x0.length), (4, .int .i64 ((s.1 : Nat) : Int))]) (fun s => [iOwn (tSl tInt 3) [.slice (some ⟨p7, 0, none⟩) x0.length x0.length] s.2.1]) (fun s => s.1 ≤ x0.length ∧ rng (R := (List Int)) (fun k (s : (List Int)) => laws_toIntS_b1 x0 k s) (x0.length - s.1) s.1 s.2.1 = rng (R := (List Int)) (fun k (s : (List Int)) => laws_toIntS_b1 x0 k s) (x0.length - 0) 0 (List.replicate x0.length (0 : Int))) (fun s => x0.length - s.1) (0, (List.replicate x0.length (0 : Int)), ()) (subL_cons rfl (subL_cons rfl (subL_cons rfl subL_nil))) (fun W hm => hm) ⟨(by omega), rfl⟩ ?_
  rintro ⟨k9, d10, ⟨⟩⟩ H13
  obtain ⟨hk11, hF12⟩ : k9 ≤ x0.length ∧ rng (R := (List Int)) (fun k (s : (List Int)) => laws_toIntS_b1 x0 k s) (x0.length - k9) k9 d10 = rng (R := (List Int)) (fun k (s : (List Int)) => laws_toIntS_b1 x0 k s) (x0.length - 0) 0 (List.replicate x0.length (0 : Int)) := H13
  show CM Try.prog 22 _ _ _ _ [(0, .slice A2 x0.length c3), (3, .slice (some ⟨p7, 0, none⟩) x0.length x0.length), (4, .int .i64 ((k9 : Nat) : Int))] [iOwn (tSl tInt 3) [.slice (some ⟨p7, 0, none⟩) x0.length x0.length] d10]
  refine CM_seq ?_
  refine CM_seq ?_
  refine CM_region ?_
  refine WM_val (fun W hm => rv_move rfl) (Wd_none rfl) rfl (by decide) ?_
  refine WM_val (fun W hm => rv_move rfl) (Wd_none rfl) rfl (by decide) ?_
  refine WM_val (fun W hm => rv_len Try.underlying32 rfl) (Wd_none rfl) rfl (by decide) ?_
  refine WM_val (fun W hm => rv_lss rfl rfl) (Wd_none rfl) rfl (by decide) ?_
  refine WM_nil ?_
  refine QM_then ?_
  by_cases hl14 : k9 < x0.length
  · have g15 : (decide (((k9 : Nat) : Int) < ((x0.length : Nat) : Int))) = true := decide_eq_true (by omega)
    refine CM_condT rfl g15 ?_
    refine CM_skip ?_
    refine QM_then ?_
    refine CM_seq ?_
    refine CM_block ?_
    refine CM_region ?_
    refine WM_val (fun W hm => rv_move rfl) (Wd_none rfl) rfl (by decide) ?_
    refine WM_val (fun W hm => rv_move rfl) (Wd_none rfl) rfl (by decide) ?_
    refine WM_val (fun W hm => rv_move rfl) (Wd_none rfl) rfl (by decide) ?_
    refine WM_val (fun W hm => rv_move rfl) (Wd_none rfl) rfl (by decide) ?_
    obtain ⟨a16, rfl, hb17, he18⟩ := q4 (by omega)
    refine WM_val (fun W hm => rv_index (sz := 1) (k := k9) Try.underlying32 Try.type3 rfl rfl rfl (by omega)) (Wd_none rfl) rfl (by decide) ?_
    refine WM_val (fun W hm => rv_load Try.underlying3 rfl rfl ((hm.cell0 (show (a16.add (k9 * 1)).block < w.heap.size from by rw [add_block]; exact hb17)).trans (rdS_int he18 k9 (by omega)))) (Wd_none rfl) rfl (by decide) ?_
    refine WM_val (fun W hm => rv_index (sz := 1) (k := k9) Try.underlying32 Try.type3 rfl rfl rfl (by omega)) (Wd_none rfl) rfl (by decide) ?_
    refine WM_setEl (E := tInt) (e := 3) (u := .int .i64 (gt x0 k9)) (k := k9) (p := p7) (n := x0.length) (xs := d10) (eis := []) (js := []) (yv := (gt x0 k9)) (fun W hm => (hm.front (n := 0) rfl)) (fun _ _ hs => (Sep.nil hs ▸ tInt_own)) rfl Try.type3 rfl (by omega) rfl rfl (Wd_none rfl) ?_
    refine WM_nil ?_
    refine QM_block_normal ?_
    refine QM_then ?_
    refine CM_region ?_
    refine WM_val (fun W hm => rv_move rfl) (Wd_none rfl) rfl (by decide) ?_
    refine WM_val (fun W hm => rv_addN (p := k9) (q := 1) rfl rfl (by omega)) (Wd_none rfl) rfl (by decide) ?_
    refine WM_val (fun W hm => rv_assign rfl) (Wd_none rfl) rfl (by decide) ?_
    refine WM_nil ?_
    have hn19 := rng_next (R := (List Int)) (body := (fun k (s : (List Int)) => laws_toIntS_b1 x0 k s)) (k := k9) (s := d10) (s' := (d10.set k9 (gt x0 k9))) (show k9 < x0.length from by omega) (show laws_toIntS_b1 x0 k9 d10 = Sum.inr (d10.set k9 (gt x0 k9)) from by unfold laws_toIntS_b1; exact rfl) hF12
    exact QM_round (k9 + 1, (d10.set k9 (gt x0 k9)), ()) (subL_cons rfl (subL_cons rfl (subL_cons rfl subL_nil))) (fun W hm => (hm.front (n := 0) rfl)) ⟨(by omega), hn19⟩ (show x0.length - (k9 + 1) < x0.length - k9 from by omega)
  · have g15 : (decide (((k9 : Nat) : Int) < ((x0.length : Nat) : Int))) = false := decide_eq_false (by omega)
    refine CM_condF rfl g15 ?_
    refine CM_exit ?_
    refine QM_then_exit ?_
    refine QM_then_exit ?_
    have hE20 : rng (R := (List Int)) (fun k (s : (List Int)) => laws_toIntS_b1 x0 k s) (x0.length - 0) 0 (List.replicate x0.length (0 : Int)) = Sum.inr d10 := rng_end hl14 hF12
    refine QM_block_hit ?_
    refine QM_then ?_
    refine CM_seq ?_
    refine CM_region ?_
    refine WM_val (fun W hm => rv_move rfl) (Wd_none rfl) rfl (by decide) ?_
    refine WM_val (fun W hm => rv_assign rfl) (Wd_none rfl) rfl (by decide) ?_
    refine WM_nil ?_
    refine QM_then ?_
    refine CM_ret ?_
    refine QM_r1 rfl (RR_tmp rfl) (fun W hm => ⟨.slice (some ⟨p7, 0, none⟩) x0.length x0.length, ?_, ?_⟩)
    · first | rw [(show laws_toIntS_m x0 = d10 from by unfold laws_toIntS_m; exact fin_inr hE20 (rfl))] | rfl
    · rw [(show laws_toIntS_m x0 = d10 from by unfold laws_toIntS_m; exact fin_inr hE20 (rfl))]; exact (hm.front (n := 0) rfl)

def laws_toCharge_m (x0 : DCharge) : DCharge :=
  ⟨x0.Segment, x0.Base, (laws_toIntS_m x0.Ids), (laws_toIntS_m x0.Tenants), (laws_toIntS_m x0.Rows)⟩
theorem cb26 : Cb Try.prog 26 := ⟨Try.f26, _, Try.func26, rfl, by decide⟩
set_option maxRecDepth 10000 in
set_option maxHeartbeats 4000000 in
theorem laws_toCharge_c (w : World) (z0 : List Value) (x0 : DCharge) (r_0 : tyLCharge.rd w w.heap.size z0 x0) (s_0 : smCharge 68719476736 x0) :
    Calls Try.prog 26 #[.agg z0.toArray] w fun e w' => ∃ v : List Value, e = .returned (.agg v.toArray) ∧ Mem w.heap.size w [iOwn tyCharge v (laws_toCharge_m x0)] w' := by
  obtain ⟨v1, v3, v5, rfl, r2, r4, r6⟩ := tyLCharge_rd r_0
  have r11 := r2
  obtain ⟨m7, A8, c9, rfl, q10⟩ := r2
  have r16 := r4
  obtain ⟨m12, A13, c14, rfl, q15⟩ := r4
  have r21 := r6
  obtain ⟨m17, A18, c19, rfl, q20⟩ := r6
  have l22 : x0.Ids.length ≤ 68719476736 := s_0.1
  have l23 : x0.Tenants.length ≤ 68719476736 := s_0.2.1
  have l24 : x0.Rows.length ≤ 68719476736 := s_0.2.2
  refine call_enterM (L := [(0, .agg #[.int .i64 x0.Segment, .int .i64 x0.Base, .slice A8 x0.Ids.length c9, .slice A13 x0.Tenants.length c14, .slice A18 x0.Rows.length c19])]) (N := 23) Try.func26 rfl rfl (Nat.le_of_ble_eq_true rfl) (argsL_cons rfl argsL_nil) ?_
  refine CM_seq ?_
  refine CM_region ?_
  refine WM_box rfl (Wd_none rfl) (by decide) (fun p25 => ?_)
  refine WM_alloc Try.type37 rfl (Wd_none rfl) (by decide) (fun p26 => ?_)
  refine WM_nil ?_
  refine QM_then ?_
  refine CM_seq ?_
  refine CM_region ?_
  refine WM_alloc Try.type37 rfl (Wd_none rfl) (by decide) (fun p27 => ?_)
  refine WM_nil ?_
  refine QM_then ?_
  refine CM_seq ?_
  refine CM_region ?_
  refine WM_val (fun W hm => rv_field Try.underlying34 rfl Try.type3 (by decide) rfl rfl) (Wd_none rfl) rfl (by decide) ?_
  refine WM_val (fun W hm => rv_load Try.underlying3 rfl rfl (hm.boxCell (n := 2) (o := 0) rfl rfl)) (Wd_none rfl) rfl (by decide) ?_
  refine WM_val (fun W hm => rv_field Try.underlying37 rfl Try.type3 (by decide) rfl rfl) (Wd_none rfl) rfl (by decide) ?_
  refine WM_storeBox (p := p27) (o := 0) (cs := [.int .i64 0, .int .i64 0, .slice none 0 0, .slice none 0 0, .slice none 0 0]) (cs' := [.int .i64 x0.Segment, .int .i64 0, .slice none 0 0, .slice none 0 0, .slice none 0 0]) (fun w hm => hm.front (n := 0) rfl) Try.type3 rfl (Nat.le_of_ble_eq_true rfl) rfl rfl rfl rfl (Wd_none rfl) ?_
  refine WM_nil ?_
  refine QM_then ?_
  refine CM_seq ?_
  refine CM_region ?_
  refine WM_val (fun W hm => rv_field Try.underlying34 rfl Try.type3 (by decide) rfl rfl) (Wd_none rfl) rfl (by decide) ?_
  refine WM_val (fun W hm => rv_load Try.underlying3 rfl rfl (hm.boxCell (n := 2) (o := 1) rfl rfl)) (Wd_none rfl) rfl (by decide) ?_
  refine WM_val (fun W hm => rv_field Try.underlying37 rfl Try.type3 (by decide) rfl rfl) (Wd_none rfl) rfl (by decide) ?_
  refine WM_storeBox (p := p27) (o := 1) (cs := [.int .i64 x0.Segment, .int .i64 0, .slice none 0 0, .slice none 0 0, .slice none 0 0]) (cs' := [.int .i64 x0.Segment, .int .i64 x0.Base, .slice none 0 0, .slice none 0 0, .slice none 0 0]) (fun w hm => hm.front (n := 0) rfl) Try.type3 rfl (Nat.le_of_ble_eq_true rfl) rfl rfl rfl rfl (Wd_none rfl) ?_
  refine WM_nil ?_
  refine QM_then ?_
  refine CM_seq ?_
  refine CM_region ?_
  refine WM_val (fun W hm => rv_field Try.underlying34 rfl Try.type32 (by decide) rfl rfl) (Wd_none rfl) rfl (by decide) ?_
  refine WM_val (fun W hm => rv_load Try.underlying32 rfl rfl (hm.boxCell (n := 2) (o := 2) rfl rfl)) (Wd_none rfl) rfl (by decide) ?_
  refine WM_call (χ := Value) (val := fun x => x) (js := fun x => [iOwn (tSl tInt 3) [x] (laws_toIntS_m x0.Ids)]) (cl_fn cb59 rfl) (fun W hm => laws_toIntS_c W _ x0.Ids (hm.rdS0 r11) s_0.1) (Wd_none rfl) (by decide) (fun z28 => ?_)
  refine WM_form (n := 0) rfl ?_
  rintro A29 c30 rfl m31
  refine WM_val (fun W hm => rv_field Try.underlying37 rfl Try.type32 (by decide) rfl rfl) (Wd_none rfl) rfl (by decide) ?_
  refine WM_storeBox (p := p27) (o := 2) (cs := [.int .i64 x0.Segment, .int .i64 x0.Base, .slice none 0 0, .slice none 0 0, .slice none 0 0]) (cs' := [.int .i64 x0.Segment, .int .i64 x0.Base, .slice A29 (laws_toIntS_m x0.Ids).length c30, .slice none 0 0, .slice none 0 0]) (fun w hm => hm.front (n := 1) rfl) Try.type32 rfl (Nat.le_of_ble_eq_true rfl) rfl rfl rfl rfl (Wd_none rfl) ?_
  refine WM_nil ?_
  refine QM_then ?_
  refine CM_seq ?_
  refine CM_region ?_
  refine WM_val (fun W hm => rv_field Try.underlying34 rfl Try.type32 (by decide) rfl rfl) (Wd_none rfl) rfl (by decide) ?_
  refine WM_val (fun W hm => rv_load Try.underlying32 rfl rfl (hm.boxCell (n := 3) (o := 3) rfl rfl)) (Wd_none rfl) rfl (by decide) ?_
  refine WM_call (χ := Value) (val := fun x => x) (js := fun x => [iOwn (tSl tInt 3) [x] (laws_toIntS_m x0.Tenants)]) (cl_fn cb59 rfl) (fun W hm => laws_toIntS_c W _ x0.Tenants (hm.rdS0 r16) s_0.2.1) (Wd_none rfl) (by decide) (fun z33 => ?_)
  refine WM_form (n := 0) rfl ?_
  rintro A34 c35 rfl m36
  refine WM_val (fun W hm => rv_field Try.underlying37 rfl Try.type32 (by decide) rfl rfl) (Wd_none rfl) rfl (by decide) ?_
  refine WM_storeBox (p := p27) (o := 3) (cs := [.int .i64 x0.Segment, .int .i64 x0.Base, .slice A29 (laws_toIntS_m x0.Ids).length c30, .slice none 0 0, .slice none 0 0]) (cs' := [.int .i64 x0.Segment, .int .i64 x0.Base, .slice A29 (laws_toIntS_m x0.Ids).length c30, .slice A34 (laws_toIntS_m x0.Tenants).length c35, .slice none 0 0]) (fun w hm => hm.front (n := 1) rfl) Try.type32 rfl (Nat.le_of_ble_eq_true rfl) rfl rfl rfl rfl (Wd_none rfl) ?_
  refine WM_nil ?_
  refine QM_then ?_
  refine CM_seq ?_
  refine CM_region ?_
  refine WM_val (fun W hm => rv_field Try.underlying34 rfl Try.type32 (by decide) rfl rfl) (Wd_none rfl) rfl (by decide) ?_
  refine WM_val (fun W hm => rv_load Try.underlying32 rfl rfl (hm.boxCell (n := 4) (o := 4) rfl rfl)) (Wd_none rfl) rfl (by decide) ?_
  refine WM_call (χ := Value) (val := fun x => x) (js := fun x => [iOwn (tSl tInt 3) [x] (laws_toIntS_m x0.Rows)]) (cl_fn cb59 rfl) (fun W hm => laws_toIntS_c W _ x0.Rows (hm.rdS0 r21) s_0.2.2) (Wd_none rfl) (by decide) (fun z38 => ?_)
  refine WM_form (n := 0) rfl ?_
  rintro A39 c40 rfl m41
  refine WM_val (fun W hm => rv_field Try.underlying37 rfl Try.type32 (by decide) rfl rfl) (Wd_none rfl) rfl (by decide) ?_
  refine WM_storeBox (p := p27) (o := 4) (cs := [.int .i64 x0.Segment, .int .i64 x0.Base, .slice A29 (laws_toIntS_m x0.Ids).length c30, .slice A34 (laws_toIntS_m x0.Tenants).length c35, .slice none 0 0]) (cs' := [.int .i64 x0.Segment, .int .i64 x0.Base, .slice A29 (laws_toIntS_m x0.Ids).length c30, .slice A34 (laws_toIntS_m x0.Tenants).length c35, .slice A39 (laws_toIntS_m x0.Rows).length c40]) (fun w hm => hm.front (n := 1) rfl) Try.type32 rfl (Nat.le_of_ble_eq_true rfl) rfl rfl rfl rfl (Wd_none rfl) ?_
  refine WM_nil ?_
  refine QM_then ?_
  refine CM_seq ?_
  refine CM_region ?_
  refine WM_val (fun W hm => rv_loadN (cs := [.int .i64 x0.Segment, .int .i64 x0.Base, .slice A29 (laws_toIntS_m x0.Ids).length c30, .slice A34 (laws_toIntS_m x0.Tenants).length c35, .slice A39 (laws_toIntS_m x0.Rows).length c40]) Try.underlying37 Try.type37 rfl rfl (hm.boxCells (n := 0) rfl)) (Wd_none rfl) rfl (by decide) ?_
  refine WM_storeBox (p := p26) (o := 0) (cs := [.int .i64 0, .int .i64 0, .slice none 0 0, .slice none 0 0, .slice none 0 0]) (cs' := [.int .i64 x0.Segment, .int .i64 x0.Base, .slice A29 (laws_toIntS_m x0.Ids).length c30, .slice A34 (laws_toIntS_m x0.Tenants).length c35, .slice A39 (laws_toIntS_m x0.Rows).length c40]) (fun w hm => hm.front (n := 4) rfl) Try.type37 rfl (Nat.le_of_ble_eq_true rfl) rfl rfl rfl rfl (Wd_none rfl) ?_
  refine WM_nil ?_
  refine QM_then ?_
  refine CM_ret ?_
  refine QM_r1 rfl (RR_cell (n := 0) rfl rfl Try.underlying37 Try.type37 rfl) (fun W hm => ⟨[.int .i64 x0.Segment, .int .i64 x0.Base, .slice A29 (laws_toIntS_m x0.Ids).length c30, .slice A34 (laws_toIntS_m x0.Tenants).length c35, .slice A39 (laws_toIntS_m x0.Rows).length c40], ?_, ?_⟩)
  · first | rw [(show laws_toCharge_m x0 = ⟨x0.Segment, x0.Base, (laws_toIntS_m x0.Ids), (laws_toIntS_m x0.Tenants), (laws_toIntS_m x0.Rows)⟩ from by unfold laws_toCharge_m; exact rfl)] | rfl
  · rw [(show laws_toCharge_m x0 = ⟨x0.Segment, x0.Base, (laws_toIntS_m x0.Ids), (laws_toIntS_m x0.Tenants), (laws_toIntS_m x0.Rows)⟩ from by unfold laws_toCharge_m; exact rfl)]; exact Mem.join (is := [iOwn (tSl tInt 3) [.slice A29 (laws_toIntS_m x0.Ids).length c30] (laws_toIntS_m x0.Ids), iOwn (tSl tInt 3) [.slice A34 (laws_toIntS_m x0.Tenants).length c35] (laws_toIntS_m x0.Tenants), iOwn (tSl tInt 3) [.slice A39 (laws_toIntS_m x0.Rows).length c40] (laws_toIntS_m x0.Rows)]) (js := []) (fun _ _ hs => tyCharge_join (x := (⟨x0.Segment, x0.Base, (laws_toIntS_m x0.Ids), (laws_toIntS_m x0.Tenants), (laws_toIntS_m x0.Rows)⟩ : DCharge)) hs) ((((((hm.front (n := 2) rfl).front (n := 3) rfl).front (n := 4) rfl).front (n := 3) rfl).tail.front (n := 3) rfl).tail.front (n := 3) rfl).tail

def spec_l1In_m (x0 : Int) (x1 : Int) (x2 : Int) : Bool :=
  cond (decide (x1 ≤ x0)) (decide (x0 ≤ x2)) false
theorem cb61 : Cb Try.prog 61 := ⟨Try.f61, _, Try.func61, rfl, by decide⟩
set_option maxRecDepth 10000 in
set_option maxHeartbeats 4000000 in
theorem spec_l1In_c (w : World) (x0 : Int) (x1 : Int) (x2 : Int) :
    Calls Try.prog 61 #[.int .i64 x0, .int .i64 x1, .int .i64 x2] w fun e w' => e = .returned (.bool (spec_l1In_m x0 x1 x2)) ∧ Below w.heap.size w w' := by
  refine call_enterM (L := [(0, .int .i64 x0), (1, .int .i64 x1), (2, .int .i64 x2)]) (N := 15) Try.func61 rfl rfl (Nat.le_of_ble_eq_true rfl) (argsL_cons rfl (argsL_cons rfl (argsL_cons rfl argsL_nil))) ?_
  refine CM_seq ?_
  refine CM_region ?_
  refine WM_val (fun W hm => rv_assign rfl) (Wd_none rfl) rfl (by decide) ?_
  refine WM_nil ?_
  refine QM_then ?_
  refine CM_seq ?_
  refine CM_region ?_
  refine WM_val (fun W hm => rv_move rfl) (Wd_none rfl) rfl (by decide) ?_
  refine WM_val (fun W hm => rv_move rfl) (Wd_none rfl) rfl (by decide) ?_
  refine WM_val (fun W hm => rv_geq rfl rfl) (Wd_none rfl) rfl (by decide) ?_
  refine WM_val (fun W hm => rv_move rfl) (Wd_none rfl) rfl (by decide) ?_
  by_cases h1 : x1 ≤ x0
  · have g2 : (decide (x1 ≤ x0)) = true := decide_eq_true h1
    refine WM_val (fun W hm => rv_move rfl) (Wd_some rfl rfl rfl (bw g2 rfl)) rfl (by decide) ?_
    refine WM_val (fun W hm => rv_move rfl) (Wd_some rfl rfl rfl (bw g2 rfl)) rfl (by decide) ?_
    refine WM_val (fun W hm => rv_leq rfl rfl) (Wd_some rfl rfl rfl (bw g2 rfl)) rfl (by decide) ?_
    refine WM_val (fun W hm => rv_pickT rfl g2 rfl) (Wd_none rfl) rfl (by decide) ?_
    refine WM_val (fun W hm => rv_assign rfl) (Wd_none rfl) rfl (by decide) ?_
    refine WM_nil ?_
    refine QM_then ?_
    refine CM_ret ?_
    exact QM_ret1 rfl rfl (fun W hm => ⟨ret_b (show spec_l1In_m x0 x1 x2 = (decide (x0 ≤ x2)) from by unfold spec_l1In_m; exact cond_t g2 (rfl)), hm.below⟩)
  · have g2 : (decide (x1 ≤ x0)) = false := decide_eq_false h1
    refine WM_skip (Wd_some rfl rfl rfl (bw g2 rfl)) rfl (by decide) ?_
    refine WM_skip (Wd_some rfl rfl rfl (bw g2 rfl)) rfl (by decide) ?_
    refine WM_skip (Wd_some rfl rfl rfl (bw g2 rfl)) rfl (by decide) ?_
    refine WM_val (fun W hm => rv_pickF rfl g2 rfl) (Wd_none rfl) rfl (by decide) ?_
    refine WM_val (fun W hm => rv_assign rfl) (Wd_none rfl) rfl (by decide) ?_
    refine WM_nil ?_
    refine QM_then ?_
    refine CM_ret ?_
    exact QM_ret1 rfl rfl (fun W hm => ⟨ret_b (show spec_l1In_m x0 x1 x2 = false from by unfold spec_l1In_m; exact cond_f g2 (rfl)), hm.below⟩)

def spec_IsSet_b1 (x0 : (List Int)) (k6 : Nat) : Bool ⊕ (Unit) :=
  cond (spec_l1In_m (gt x0 k6) 0 23) (cond (decide (0 < ((k6 : Nat) : Int))) (cond (decide ((gt x0 k6) ≤ (gt x0 (k6 - 1)))) (Sum.inl false) (Sum.inr ())) (Sum.inr ())) (Sum.inl false)
def spec_IsSet_m (x0 : (List Int)) : Bool :=
  Sum.elim id (fun (s : Unit) => true) (rng (R := Bool) (fun k (_ : Unit) => spec_IsSet_b1 x0 k) (x0.length - 0) 0 ())
theorem cb66 : Cb Try.prog 66 := ⟨Try.f66, _, Try.func66, rfl, by decide⟩
set_option maxRecDepth 10000 in
set_option maxHeartbeats 4000000 in
theorem spec_IsSet_c (w : World) (z0 : Value) (x0 : (List Int)) (r_0 : rdS tInt w w.heap.size z0 x0) :
    Calls Try.prog 66 #[z0] w fun e w' => e = .returned (.bool (spec_IsSet_m x0)) ∧ Below w.heap.size w w' := by
  have r5 := r_0
  obtain ⟨m1, A2, c3, rfl, q4⟩ := r_0
  refine call_enterM (L := [(0, .slice A2 x0.length c3)]) (N := 32) Try.func66 rfl rfl (Nat.le_of_ble_eq_true rfl) (argsL_cons rfl argsL_nil) ?_
  refine CM_seq ?_
  refine CM_region ?_
  refine WM_val (fun W hm => rv_assign rfl) (Wd_none rfl) rfl (by decide) ?_
  refine WM_nil ?_
  refine QM_then ?_
  refine CM_seq ?_
  refine CM_seq ?_
  refine CM_region ?_
  refine WM_val (fun W hm => rv_assign rfl) (Wd_none rfl) rfl (by decide) ?_
  refine WM_nil ?_
  refine QM_then ?_
  refine CM_block ?_
  refine CM_loop (σ := Nat × (Unit) × (Unit)) (fun s => [(0, .slice A2 x0.length c3), (3, .int .i64 ((s.1 : Nat) : Int))]) (fun s => []) (fun s => s.1 ≤ x0.length ∧ rng (R := Bool) (fun k (_ : Unit) => spec_IsSet_b1 x0 k) (x0.length - s.1) s.1 s.2.1 = rng (R := Bool) (fun k (_ : Unit) => spec_IsSet_b1 x0 k) (x0.length - 0) 0 ()) (fun s => x0.length - s.1) (0, (), ()) (subL_cons rfl (subL_cons rfl subL_nil)) (fun W hm => hm) ⟨(by omega), rfl⟩ ?_
  rintro ⟨k6, ⟨⟩, ⟨⟩⟩ H9
  obtain ⟨hk7, hF8⟩ : k6 ≤ x0.length ∧ rng (R := Bool) (fun k (_ : Unit) => spec_IsSet_b1 x0 k) (x0.length - k6) k6 () = rng (R := Bool) (fun k (_ : Unit) => spec_IsSet_b1 x0 k) (x0.length - 0) 0 () := H9
  show CM Try.prog 32 _ _ _ _ [(0, .slice A2 x0.length c3), (3, .int .i64 ((k6 : Nat) : Int))] []
  refine CM_seq ?_
  refine CM_seq ?_
  refine CM_region ?_
  refine WM_val (fun W hm => rv_move rfl) (Wd_none rfl) rfl (by decide) ?_
  refine WM_val (fun W hm => rv_move rfl) (Wd_none rfl) rfl (by decide) ?_
  refine WM_val (fun W hm => rv_len Try.underlying32 rfl) (Wd_none rfl) rfl (by decide) ?_
  refine WM_val (fun W hm => rv_lss rfl rfl) (Wd_none rfl) rfl (by decide) ?_
  refine WM_nil ?_
  refine QM_then ?_
  by_cases hl10 : k6 < x0.length
  · have g11 : (decide (((k6 : Nat) : Int) < ((x0.length : Nat) : Int))) = true := decide_eq_true (by omega)
    refine CM_condT rfl g11 ?_
    refine CM_skip ?_
    refine QM_then ?_
    refine CM_seq ?_
    refine CM_block ?_
    refine CM_seq ?_
    refine CM_regionD (by kernel_rfl) (by kernel_rfl) ?_
    refine QR_val (fun W hm => rv_move rfl) (Wd_none rfl) rfl (by decide) ?_
    refine QR_val (fun W hm => rv_move rfl) (Wd_none rfl) rfl (by decide) ?_
    obtain ⟨a12, rfl, hb13, he14⟩ := q4 (by omega)
    refine QR_val (fun W hm => rv_index (sz := 1) (k := k6) Try.underlying32 Try.type3 rfl rfl rfl (by omega)) (Wd_none rfl) rfl (by decide) ?_
    refine QR_val (fun W hm => rv_load Try.underlying3 rfl rfl ((hm.cell0 (show (a12.add (k6 * 1)).block < w.heap.size from by rw [add_block]; exact hb13)).trans (rdS_int he14 k6 (by omega)))) (Wd_none rfl) rfl (by decide) ?_
    refine QR_callV (cl_fn cb61 rfl) (fun W hm => spec_l1In_c W (gt x0 k6) 0 23) (Wd_none rfl) (by decide) ?_
    refine QR_val (fun W hm => rv_not rfl) (Wd_none rfl) rfl (by decide) ?_
    refine QR_val (fun W hm => rv_move rfl) (Wd_none rfl) rfl (by decide) ?_
    rcases Bool.eq_false_or_eq_true (spec_l1In_m (gt x0 k6) 0 23) with g16 | g16
    ·
      refine QR_val (fun W hm => rv_move rfl) (Wd_some rfl rfl rfl (bw (nt g16) rfl)) rfl (by decide) ?_
      refine QR_val (fun W hm => rv_gtr rfl rfl) (Wd_some rfl rfl rfl (bw (nt g16) rfl)) rfl (by decide) ?_
      refine QR_val (fun W hm => rv_move rfl) (Wd_some rfl rfl rfl (bw (nt g16) rfl)) rfl (by decide) ?_
      by_cases h17 : 0 < ((k6 : Nat) : Int)
      · have g18 : (decide (0 < ((k6 : Nat) : Int))) = true := decide_eq_true h17
        refine QR_val (fun W hm => rv_move rfl) (Wd_some rfl rfl rfl (bw g18 rfl)) rfl (by decide) ?_
        refine QR_val (fun W hm => rv_move rfl) (Wd_some rfl rfl rfl (bw g18 rfl)) rfl (by decide) ?_
        refine QR_val (fun W hm => rv_index (sz := 1) (k := k6) Try.underlying32 Try.type3 rfl rfl rfl (by omega)) (Wd_some rfl rfl rfl (bw g18 rfl)) rfl (by decide) ?_
        refine QR_val (fun W hm => rv_load Try.underlying3 rfl rfl ((hm.cell0 (show (a12.add (k6 * 1)).block < w.heap.size from by rw [add_block]; exact hb13)).trans (rdS_int he14 k6 (by omega)))) (Wd_some rfl rfl rfl (bw g18 rfl)) rfl (by decide) ?_
        refine QR_val (fun W hm => rv_move rfl) (Wd_some rfl rfl rfl (bw g18 rfl)) rfl (by decide) ?_
        refine QR_val (fun W hm => rv_move rfl) (Wd_some rfl rfl rfl (bw g18 rfl)) rfl (by decide) ?_
        refine QR_val (fun W hm => rv_subN (p := k6) (q := 1) rfl rfl (by omega) (by omega)) (Wd_some rfl rfl rfl (bw g18 rfl)) rfl (by decide) ?_
        refine QR_val (fun W hm => rv_index (sz := 1) (k := k6 - 1) Try.underlying32 Try.type3 rfl rfl rfl (by omega)) (Wd_some rfl rfl rfl (bw g18 rfl)) rfl (by decide) ?_
        refine QR_val (fun W hm => rv_load Try.underlying3 rfl rfl ((hm.cell0 (show (a12.add ((k6 - 1) * 1)).block < w.heap.size from by rw [add_block]; exact hb13)).trans (rdS_int he14 (k6 - 1) (by omega)))) (Wd_some rfl rfl rfl (bw g18 rfl)) rfl (by decide) ?_
        refine QR_val (fun W hm => rv_leq rfl rfl) (Wd_some rfl rfl rfl (bw g18 rfl)) rfl (by decide) ?_
        refine QR_val (fun W hm => rv_pickT rfl g18 rfl) (Wd_some rfl rfl rfl (bw (nt g16) rfl)) rfl (by decide) ?_
        refine QR_val (fun W hm => rv_pickF rfl (nt g16) rfl) (Wd_none rfl) rfl (by decide) ?_
        refine QR_nil ?_
        refine QM_then ?_
        by_cases h19 : (gt x0 k6) ≤ (gt x0 (k6 - 1))
        · have g20 : (decide ((gt x0 k6) ≤ (gt x0 (k6 - 1)))) = true := decide_eq_true h19
          refine CM_condT rfl g20 ?_
          refine CM_seq ?_
          refine CM_region ?_
          refine WM_val (fun W hm => rv_assign rfl) (Wd_none rfl) rfl (by decide) ?_
          refine WM_nil ?_
          refine QM_then ?_
          refine CM_ret ?_
          refine QM_block_ret ?_
          refine QM_then_ret ?_
          refine QM_then_ret ?_
          refine QM_block_ret ?_
          refine QM_then_ret ?_
          exact QM_ret1 rfl rfl (fun W hm => ⟨ret_b (show spec_IsSet_m x0 = false from by unfold spec_IsSet_m; exact fin_inl (rng_ret (body := (fun k (_ : Unit) => spec_IsSet_b1 x0 k)) (k := k6) (s := ()) (show k6 < x0.length from by omega) (show spec_IsSet_b1 x0 k6 = Sum.inl false from by unfold spec_IsSet_b1; exact cond_t g16 (cond_t g18 (cond_t g20 (rfl)))) hF8) rfl), hm.below⟩)
        · have g20 : (decide ((gt x0 k6) ≤ (gt x0 (k6 - 1)))) = false := decide_eq_false h19
          refine CM_condF rfl g20 ?_
          refine CM_skip ?_
          refine QM_block_normal ?_
          refine QM_then ?_
          refine CM_region ?_
          refine WM_val (fun W hm => rv_move rfl) (Wd_none rfl) rfl (by decide) ?_
          refine WM_val (fun W hm => rv_addN (p := k6) (q := 1) rfl rfl (by omega)) (Wd_none rfl) rfl (by decide) ?_
          refine WM_val (fun W hm => rv_assign rfl) (Wd_none rfl) rfl (by decide) ?_
          refine WM_nil ?_
          have hn21 := rng_next (R := Bool) (body := (fun k (_ : Unit) => spec_IsSet_b1 x0 k)) (k := k6) (s := ()) (s' := ()) (show k6 < x0.length from by omega) (show spec_IsSet_b1 x0 k6 = Sum.inr () from by unfold spec_IsSet_b1; exact cond_t g16 (cond_t g18 (cond_f g20 (rfl)))) hF8
          exact QM_round (k6 + 1, (), ()) (subL_cons rfl (subL_cons rfl subL_nil)) (fun W hm => hm) ⟨(by omega), hn21⟩ (show x0.length - (k6 + 1) < x0.length - k6 from by omega)
      · have g18 : (decide (0 < ((k6 : Nat) : Int))) = false := decide_eq_false h17
        refine QR_skip (Wd_some rfl rfl rfl (bw g18 rfl)) rfl (by decide) ?_
        refine QR_skip (Wd_some rfl rfl rfl (bw g18 rfl)) rfl (by decide) ?_
        refine QR_skip (Wd_some rfl rfl rfl (bw g18 rfl)) rfl (by decide) ?_
        refine QR_skip (Wd_some rfl rfl rfl (bw g18 rfl)) rfl (by decide) ?_
        refine QR_skip (Wd_some rfl rfl rfl (bw g18 rfl)) rfl (by decide) ?_
        refine QR_skip (Wd_some rfl rfl rfl (bw g18 rfl)) rfl (by decide) ?_
        refine QR_skip (Wd_some rfl rfl rfl (bw g18 rfl)) rfl (by decide) ?_
        refine QR_skip (Wd_some rfl rfl rfl (bw g18 rfl)) rfl (by decide) ?_
        refine QR_skip (Wd_some rfl rfl rfl (bw g18 rfl)) rfl (by decide) ?_
        refine QR_skip (Wd_some rfl rfl rfl (bw g18 rfl)) rfl (by decide) ?_
        refine QR_val (fun W hm => rv_pickF rfl g18 rfl) (Wd_some rfl rfl rfl (bw (nt g16) rfl)) rfl (by decide) ?_
        refine QR_val (fun W hm => rv_pickF rfl (nt g16) rfl) (Wd_none rfl) rfl (by decide) ?_
        refine QR_nil ?_
        refine QM_then ?_
        refine CM_condF rfl rfl ?_
        refine CM_skip ?_
        refine QM_block_normal ?_
        refine QM_then ?_
        refine CM_region ?_
        refine WM_val (fun W hm => rv_move rfl) (Wd_none rfl) rfl (by decide) ?_
        refine WM_val (fun W hm => rv_addN (p := k6) (q := 1) rfl rfl (by omega)) (Wd_none rfl) rfl (by decide) ?_
        refine WM_val (fun W hm => rv_assign rfl) (Wd_none rfl) rfl (by decide) ?_
        refine WM_nil ?_
        have hn22 := rng_next (R := Bool) (body := (fun k (_ : Unit) => spec_IsSet_b1 x0 k)) (k := k6) (s := ()) (s' := ()) (show k6 < x0.length from by omega) (show spec_IsSet_b1 x0 k6 = Sum.inr () from by unfold spec_IsSet_b1; exact cond_t g16 (cond_f g18 (rfl))) hF8
        exact QM_round (k6 + 1, (), ()) (subL_cons rfl (subL_cons rfl subL_nil)) (fun W hm => hm) ⟨(by omega), hn22⟩ (show x0.length - (k6 + 1) < x0.length - k6 from by omega)
    ·
      refine QR_skip (Wd_some rfl rfl rfl (bw (nf g16) rfl)) rfl (by decide) ?_
      refine QR_skip (Wd_some rfl rfl rfl (bw (nf g16) rfl)) rfl (by decide) ?_
      refine QR_skip (Wd_some rfl rfl rfl (bw (nf g16) rfl)) rfl (by decide) ?_
      refine QR_skip (Wd_undef rfl rfl rfl) rfl (by decide) ?_
      refine QR_skip (Wd_undef rfl rfl rfl) rfl (by decide) ?_
      refine QR_skip (Wd_undef rfl rfl rfl) rfl (by decide) ?_
      refine QR_skip (Wd_undef rfl rfl rfl) rfl (by decide) ?_
      refine QR_skip (Wd_undef rfl rfl rfl) rfl (by decide) ?_
      refine QR_skip (Wd_undef rfl rfl rfl) rfl (by decide) ?_
      refine QR_skip (Wd_undef rfl rfl rfl) rfl (by decide) ?_
      refine QR_skip (Wd_undef rfl rfl rfl) rfl (by decide) ?_
      refine QR_skip (Wd_undef rfl rfl rfl) rfl (by decide) ?_
      refine QR_skip (Wd_undef rfl rfl rfl) rfl (by decide) ?_
      refine QR_skip (Wd_some rfl rfl rfl (bw (nf g16) rfl)) rfl (by decide) ?_
      refine QR_val (fun W hm => rv_pickT rfl (nf g16) rfl) (Wd_none rfl) rfl (by decide) ?_
      refine QR_nil ?_
      refine QM_then ?_
      refine CM_condT rfl rfl ?_
      refine CM_seq ?_
      refine CM_region ?_
      refine WM_val (fun W hm => rv_assign rfl) (Wd_none rfl) rfl (by decide) ?_
      refine WM_nil ?_
      refine QM_then ?_
      refine CM_ret ?_
      refine QM_block_ret ?_
      refine QM_then_ret ?_
      refine QM_then_ret ?_
      refine QM_block_ret ?_
      refine QM_then_ret ?_
      exact QM_ret1 rfl rfl (fun W hm => ⟨ret_b (show spec_IsSet_m x0 = false from by unfold spec_IsSet_m; exact fin_inl (rng_ret (body := (fun k (_ : Unit) => spec_IsSet_b1 x0 k)) (k := k6) (s := ()) (show k6 < x0.length from by omega) (show spec_IsSet_b1 x0 k6 = Sum.inl false from by unfold spec_IsSet_b1; exact cond_f g16 (rfl)) hF8) rfl), hm.below⟩)
  · have g11 : (decide (((k6 : Nat) : Int) < ((x0.length : Nat) : Int))) = false := decide_eq_false (by omega)
    refine CM_condF rfl g11 ?_
    refine CM_exit ?_
    refine QM_then_exit ?_
    refine QM_then_exit ?_
    have hE23 : rng (R := Bool) (fun k (_ : Unit) => spec_IsSet_b1 x0 k) (x0.length - 0) 0 () = Sum.inr () := rng_end hl10 hF8
    refine QM_block_hit ?_
    refine QM_then ?_
    refine CM_seq ?_
    refine CM_region ?_
    refine WM_val (fun W hm => rv_assign rfl) (Wd_none rfl) rfl (by decide) ?_
    refine WM_nil ?_
    refine QM_then ?_
    refine CM_ret ?_
    exact QM_ret1 rfl rfl (fun W hm => ⟨ret_b (show spec_IsSet_m x0 = true from by unfold spec_IsSet_m; exact fin_inr hE23 (rfl)), hm.below⟩)

def spec_IsCharge_b1 (x0 : DCharge) (k37 : Nat) : Bool ⊕ (Unit) :=
  cond (spec_l1In_m (gt x0.Tenants k37) 0 3) (cond (spec_l1In_m (gt x0.Rows k37) 0 x0.Base) (Sum.inr ()) (Sum.inl false)) (Sum.inl false)
def spec_IsCharge_m (x0 : DCharge) : Bool :=
  cond (spec_IsSet_m x0.Ids) (cond (((x0.Ids.length : Nat) : Int) == 0) false (cond (decide (8 < ((x0.Ids.length : Nat) : Int))) false (cond (((x0.Tenants.length : Nat) : Int) != ((x0.Ids.length : Nat) : Int)) false (cond (((x0.Rows.length : Nat) : Int) != ((x0.Ids.length : Nat) : Int)) false (cond (spec_l1In_m x0.Segment 0 7) (cond (spec_l1In_m x0.Base 0 4) (Sum.elim id (fun (s : Unit) => true) (rng (R := Bool) (fun k (_ : Unit) => spec_IsCharge_b1 x0 k) (x0.Ids.length - 0) 0 ())) false) false))))) false
theorem cb25 : Cb Try.prog 25 := ⟨Try.f25, _, Try.func25, rfl, by decide⟩
set_option maxRecDepth 10000 in
set_option maxHeartbeats 4000000 in
theorem spec_IsCharge_c (w : World) (z0 : List Value) (x0 : DCharge) (r_0 : tyCharge.rd w w.heap.size z0 x0) :
    Calls Try.prog 25 #[.agg z0.toArray] w fun e w' => e = .returned (.bool (spec_IsCharge_m x0)) ∧ Below w.heap.size w w' := by
  obtain ⟨v1, v3, v5, rfl, r2, r4, r6⟩ := tyCharge_rd r_0
  have r11 := r2
  obtain ⟨m7, A8, c9, rfl, q10⟩ := r2
  have r16 := r4
  obtain ⟨m12, A13, c14, rfl, q15⟩ := r4
  have r21 := r6
  obtain ⟨m17, A18, c19, rfl, q20⟩ := r6
  refine call_enterM (L := [(0, .agg #[.int .i64 x0.Segment, .int .i64 x0.Base, .slice A8 x0.Ids.length c9, .slice A13 x0.Tenants.length c14, .slice A18 x0.Rows.length c19])]) (N := 69) Try.func25 rfl rfl (Nat.le_of_ble_eq_true rfl) (argsL_cons rfl argsL_nil) ?_
  refine CM_seq ?_
  refine CM_region ?_
  refine WM_box rfl (Wd_none rfl) (by decide) (fun p22 => ?_)
  refine WM_val (fun W hm => rv_assign rfl) (Wd_none rfl) rfl (by decide) ?_
  refine WM_nil ?_
  refine QM_then ?_
  refine CM_seq ?_
  refine CM_region ?_
  refine WM_val (fun W hm => rv_field Try.underlying37 rfl Try.type32 (by decide) rfl rfl) (Wd_none rfl) rfl (by decide) ?_
  refine WM_val (fun W hm => rv_load Try.underlying32 rfl rfl (hm.boxCell (n := 0) (o := 2) rfl rfl)) (Wd_none rfl) rfl (by decide) ?_
  refine WM_val (fun W hm => rv_len Try.underlying32 rfl) (Wd_none rfl) rfl (by decide) ?_
  refine WM_val (fun W hm => rv_assign rfl) (Wd_none rfl) rfl (by decide) ?_
  refine WM_nil ?_
  refine QM_then ?_
  refine CM_seq ?_
  refine CM_seq ?_
  refine CM_region ?_
  refine WM_val (fun W hm => rv_field Try.underlying37 rfl Try.type32 (by decide) rfl rfl) (Wd_none rfl) rfl (by decide) ?_
  refine WM_val (fun W hm => rv_load Try.underlying32 rfl rfl (hm.boxCell (n := 0) (o := 2) rfl rfl)) (Wd_none rfl) rfl (by decide) ?_
  refine WM_callV (cl_fn cb66 rfl) (fun W hm => spec_IsSet_c W _ x0.Ids (hm.rdS0 r11)) (Wd_none rfl) (by decide) ?_
  refine WM_val (fun W hm => rv_not rfl) (Wd_none rfl) rfl (by decide) ?_
  refine WM_val (fun W hm => rv_move rfl) (Wd_none rfl) rfl (by decide) ?_
  rcases Bool.eq_false_or_eq_true (spec_IsSet_m x0.Ids) with g24 | g24
  ·
    refine WM_val (fun W hm => rv_move rfl) (Wd_some rfl rfl rfl (bw (nt g24) rfl)) rfl (by decide) ?_
    refine WM_val (fun W hm => rv_eql rfl rfl) (Wd_some rfl rfl rfl (bw (nt g24) rfl)) rfl (by decide) ?_
    refine WM_val (fun W hm => rv_pickF rfl (nt g24) rfl) (Wd_none rfl) rfl (by decide) ?_
    refine WM_val (fun W hm => rv_move rfl) (Wd_none rfl) rfl (by decide) ?_
    by_cases h25 : ((x0.Ids.length : Nat) : Int) = 0
    · have g26 : (((x0.Ids.length : Nat) : Int) == 0) = true := beq_iff_eq.2 h25
      refine WM_skip (Wd_some rfl rfl rfl (bw g26 rfl)) rfl (by decide) ?_
      refine WM_skip (Wd_some rfl rfl rfl (bw g26 rfl)) rfl (by decide) ?_
      refine WM_val (fun W hm => rv_pickT rfl g26 rfl) (Wd_none rfl) rfl (by decide) ?_
      refine WM_val (fun W hm => rv_move rfl) (Wd_none rfl) rfl (by decide) ?_
      refine WM_skip (Wd_some rfl rfl rfl rfl) rfl (by decide) ?_
      refine WM_skip (Wd_some rfl rfl rfl rfl) rfl (by decide) ?_
      refine WM_skip (Wd_some rfl rfl rfl rfl) rfl (by decide) ?_
      refine WM_skip (Wd_some rfl rfl rfl rfl) rfl (by decide) ?_
      refine WM_skip (Wd_some rfl rfl rfl rfl) rfl (by decide) ?_
      refine WM_val (fun W hm => rv_pickT rfl rfl rfl) (Wd_none rfl) rfl (by decide) ?_
      refine WM_val (fun W hm => rv_move rfl) (Wd_none rfl) rfl (by decide) ?_
      refine WM_skip (Wd_some rfl rfl rfl rfl) rfl (by decide) ?_
      refine WM_skip (Wd_some rfl rfl rfl rfl) rfl (by decide) ?_
      refine WM_skip (Wd_some rfl rfl rfl rfl) rfl (by decide) ?_
      refine WM_skip (Wd_some rfl rfl rfl rfl) rfl (by decide) ?_
      refine WM_skip (Wd_some rfl rfl rfl rfl) rfl (by decide) ?_
      refine WM_val (fun W hm => rv_pickT rfl rfl rfl) (Wd_none rfl) rfl (by decide) ?_
      refine WM_val (fun W hm => rv_move rfl) (Wd_none rfl) rfl (by decide) ?_
      refine WM_skip (Wd_some rfl rfl rfl rfl) rfl (by decide) ?_
      refine WM_skip (Wd_some rfl rfl rfl rfl) rfl (by decide) ?_
      refine WM_skip (Wd_some rfl rfl rfl rfl) rfl (by decide) ?_
      refine WM_skip (Wd_some rfl rfl rfl rfl) rfl (by decide) ?_
      refine WM_val (fun W hm => rv_pickT rfl rfl rfl) (Wd_none rfl) rfl (by decide) ?_
      refine WM_val (fun W hm => rv_move rfl) (Wd_none rfl) rfl (by decide) ?_
      refine WM_skip (Wd_some rfl rfl rfl rfl) rfl (by decide) ?_
      refine WM_skip (Wd_some rfl rfl rfl rfl) rfl (by decide) ?_
      refine WM_skip (Wd_some rfl rfl rfl rfl) rfl (by decide) ?_
      refine WM_skip (Wd_some rfl rfl rfl rfl) rfl (by decide) ?_
      refine WM_val (fun W hm => rv_pickT rfl rfl rfl) (Wd_none rfl) rfl (by decide) ?_
      refine WM_nil ?_
      refine QM_then ?_
      refine CM_condT rfl rfl ?_
      refine CM_seq ?_
      refine CM_region ?_
      refine WM_val (fun W hm => rv_assign rfl) (Wd_none rfl) rfl (by decide) ?_
      refine WM_nil ?_
      refine QM_then ?_
      refine CM_ret ?_
      refine QM_then_ret ?_
      exact QM_ret1 rfl rfl (fun W hm => ⟨ret_b (show spec_IsCharge_m x0 = false from by unfold spec_IsCharge_m; exact cond_t g24 (cond_t g26 (rfl))), hm.below⟩)
    · have g26 : (((x0.Ids.length : Nat) : Int) == 0) = false := beq_eq_false_iff_ne.2 h25
      refine WM_val (fun W hm => rv_move rfl) (Wd_some rfl rfl rfl (bw g26 rfl)) rfl (by decide) ?_
      refine WM_val (fun W hm => rv_gtr rfl rfl) (Wd_some rfl rfl rfl (bw g26 rfl)) rfl (by decide) ?_
      refine WM_val (fun W hm => rv_pickF rfl g26 rfl) (Wd_none rfl) rfl (by decide) ?_
      refine WM_val (fun W hm => rv_move rfl) (Wd_none rfl) rfl (by decide) ?_
      by_cases h27 : 8 < ((x0.Ids.length : Nat) : Int)
      · have g28 : (decide (8 < ((x0.Ids.length : Nat) : Int))) = true := decide_eq_true h27
        refine WM_skip (Wd_some rfl rfl rfl (bw g28 rfl)) rfl (by decide) ?_
        refine WM_skip (Wd_some rfl rfl rfl (bw g28 rfl)) rfl (by decide) ?_
        refine WM_skip (Wd_some rfl rfl rfl (bw g28 rfl)) rfl (by decide) ?_
        refine WM_skip (Wd_some rfl rfl rfl (bw g28 rfl)) rfl (by decide) ?_
        refine WM_skip (Wd_some rfl rfl rfl (bw g28 rfl)) rfl (by decide) ?_
        refine WM_val (fun W hm => rv_pickT rfl g28 rfl) (Wd_none rfl) rfl (by decide) ?_
        refine WM_val (fun W hm => rv_move rfl) (Wd_none rfl) rfl (by decide) ?_
        refine WM_skip (Wd_some rfl rfl rfl rfl) rfl (by decide) ?_
        refine WM_skip (Wd_some rfl rfl rfl rfl) rfl (by decide) ?_
        refine WM_skip (Wd_some rfl rfl rfl rfl) rfl (by decide) ?_
        refine WM_skip (Wd_some rfl rfl rfl rfl) rfl (by decide) ?_
        refine WM_skip (Wd_some rfl rfl rfl rfl) rfl (by decide) ?_
        refine WM_val (fun W hm => rv_pickT rfl rfl rfl) (Wd_none rfl) rfl (by decide) ?_
        refine WM_val (fun W hm => rv_move rfl) (Wd_none rfl) rfl (by decide) ?_
        refine WM_skip (Wd_some rfl rfl rfl rfl) rfl (by decide) ?_
        refine WM_skip (Wd_some rfl rfl rfl rfl) rfl (by decide) ?_
        refine WM_skip (Wd_some rfl rfl rfl rfl) rfl (by decide) ?_
        refine WM_skip (Wd_some rfl rfl rfl rfl) rfl (by decide) ?_
        refine WM_val (fun W hm => rv_pickT rfl rfl rfl) (Wd_none rfl) rfl (by decide) ?_
        refine WM_val (fun W hm => rv_move rfl) (Wd_none rfl) rfl (by decide) ?_
        refine WM_skip (Wd_some rfl rfl rfl rfl) rfl (by decide) ?_
        refine WM_skip (Wd_some rfl rfl rfl rfl) rfl (by decide) ?_
        refine WM_skip (Wd_some rfl rfl rfl rfl) rfl (by decide) ?_
        refine WM_skip (Wd_some rfl rfl rfl rfl) rfl (by decide) ?_
        refine WM_val (fun W hm => rv_pickT rfl rfl rfl) (Wd_none rfl) rfl (by decide) ?_
        refine WM_nil ?_
        refine QM_then ?_
        refine CM_condT rfl rfl ?_
        refine CM_seq ?_
        refine CM_region ?_
        refine WM_val (fun W hm => rv_assign rfl) (Wd_none rfl) rfl (by decide) ?_
        refine WM_nil ?_
        refine QM_then ?_
        refine CM_ret ?_
        refine QM_then_ret ?_
        exact QM_ret1 rfl rfl (fun W hm => ⟨ret_b (show spec_IsCharge_m x0 = false from by unfold spec_IsCharge_m; exact cond_t g24 (cond_f g26 (cond_t g28 (rfl)))), hm.below⟩)
      · have g28 : (decide (8 < ((x0.Ids.length : Nat) : Int))) = false := decide_eq_false h27
        refine WM_val (fun W hm => rv_field Try.underlying37 rfl Try.type32 (by decide) rfl rfl) (Wd_some rfl rfl rfl (bw g28 rfl)) rfl (by decide) ?_
        refine WM_val (fun W hm => rv_load Try.underlying32 rfl rfl (hm.boxCell (n := 0) (o := 3) rfl rfl)) (Wd_some rfl rfl rfl (bw g28 rfl)) rfl (by decide) ?_
        refine WM_val (fun W hm => rv_len Try.underlying32 rfl) (Wd_some rfl rfl rfl (bw g28 rfl)) rfl (by decide) ?_
        refine WM_val (fun W hm => rv_move rfl) (Wd_some rfl rfl rfl (bw g28 rfl)) rfl (by decide) ?_
        refine WM_val (fun W hm => rv_neq rfl rfl) (Wd_some rfl rfl rfl (bw g28 rfl)) rfl (by decide) ?_
        refine WM_val (fun W hm => rv_pickF rfl g28 rfl) (Wd_none rfl) rfl (by decide) ?_
        refine WM_val (fun W hm => rv_move rfl) (Wd_none rfl) rfl (by decide) ?_
        by_cases h29 : ((x0.Tenants.length : Nat) : Int) = ((x0.Ids.length : Nat) : Int)
        · have g30 : (((x0.Tenants.length : Nat) : Int) != ((x0.Ids.length : Nat) : Int)) = false := by rw [h29]; exact bne_self_eq_false _
          refine WM_val (fun W hm => rv_field Try.underlying37 rfl Try.type32 (by decide) rfl rfl) (Wd_some rfl rfl rfl (bw g30 rfl)) rfl (by decide) ?_
          refine WM_val (fun W hm => rv_load Try.underlying32 rfl rfl (hm.boxCell (n := 0) (o := 4) rfl rfl)) (Wd_some rfl rfl rfl (bw g30 rfl)) rfl (by decide) ?_
          refine WM_val (fun W hm => rv_len Try.underlying32 rfl) (Wd_some rfl rfl rfl (bw g30 rfl)) rfl (by decide) ?_
          refine WM_val (fun W hm => rv_move rfl) (Wd_some rfl rfl rfl (bw g30 rfl)) rfl (by decide) ?_
          refine WM_val (fun W hm => rv_neq rfl rfl) (Wd_some rfl rfl rfl (bw g30 rfl)) rfl (by decide) ?_
          refine WM_val (fun W hm => rv_pickF rfl g30 rfl) (Wd_none rfl) rfl (by decide) ?_
          refine WM_val (fun W hm => rv_move rfl) (Wd_none rfl) rfl (by decide) ?_
          by_cases h31 : ((x0.Rows.length : Nat) : Int) = ((x0.Ids.length : Nat) : Int)
          · have g32 : (((x0.Rows.length : Nat) : Int) != ((x0.Ids.length : Nat) : Int)) = false := by rw [h31]; exact bne_self_eq_false _
            refine WM_val (fun W hm => rv_field Try.underlying37 rfl Try.type3 (by decide) rfl rfl) (Wd_some rfl rfl rfl (bw g32 rfl)) rfl (by decide) ?_
            refine WM_val (fun W hm => rv_load Try.underlying3 rfl rfl (hm.boxCell (n := 0) (o := 0) rfl rfl)) (Wd_some rfl rfl rfl (bw g32 rfl)) rfl (by decide) ?_
            refine WM_callV (cl_fn cb61 rfl) (fun W hm => spec_l1In_c W x0.Segment 0 7) (Wd_some rfl rfl rfl (bw g32 rfl)) (by decide) ?_
            refine WM_val (fun W hm => rv_not rfl) (Wd_some rfl rfl rfl (bw g32 rfl)) rfl (by decide) ?_
            refine WM_val (fun W hm => rv_pickF rfl g32 rfl) (Wd_none rfl) rfl (by decide) ?_
            refine WM_val (fun W hm => rv_move rfl) (Wd_none rfl) rfl (by decide) ?_
            rcases Bool.eq_false_or_eq_true (spec_l1In_m x0.Segment 0 7) with g34 | g34
            ·
              refine WM_val (fun W hm => rv_field Try.underlying37 rfl Try.type3 (by decide) rfl rfl) (Wd_some rfl rfl rfl (bw (nt g34) rfl)) rfl (by decide) ?_
              refine WM_val (fun W hm => rv_load Try.underlying3 rfl rfl (hm.boxCell (n := 0) (o := 1) rfl rfl)) (Wd_some rfl rfl rfl (bw (nt g34) rfl)) rfl (by decide) ?_
              refine WM_callV (cl_fn cb61 rfl) (fun W hm => spec_l1In_c W x0.Base 0 4) (Wd_some rfl rfl rfl (bw (nt g34) rfl)) (by decide) ?_
              refine WM_val (fun W hm => rv_not rfl) (Wd_some rfl rfl rfl (bw (nt g34) rfl)) rfl (by decide) ?_
              refine WM_val (fun W hm => rv_pickF rfl (nt g34) rfl) (Wd_none rfl) rfl (by decide) ?_
              refine WM_nil ?_
              refine QM_then ?_
              rcases Bool.eq_false_or_eq_true (spec_l1In_m x0.Base 0 4) with g36 | g36
              ·
                refine CM_condF rfl (nt g36) ?_
                refine CM_skip ?_
                refine QM_then ?_
                refine CM_seq ?_
                refine CM_seq ?_
                refine CM_region ?_
                refine WM_val (fun W hm => rv_assign rfl) (Wd_none rfl) rfl (by decide) ?_
                refine WM_nil ?_
                refine QM_then ?_
                refine CM_block ?_
                refine CM_loop (σ := Nat × (Unit) × (Unit)) (fun s => [(1, .pointer (some (⟨p22, 0, none⟩ : Addr))), (3, .int .i64 ((x0.Ids.length : Nat) : Int)), (4, .int .i64 ((s.1 : Nat) : Int))]) (fun s => [iBox p22 37 [.int .i64 x0.Segment, .int .i64 x0.Base, .slice A8 x0.Ids.length c9, .slice A13 x0.Tenants.length c14, .slice A18 x0.Rows.length c19]]) (fun s => s.1 ≤ x0.Ids.length ∧ rng (R := Bool) (fun k (_ : Unit) => spec_IsCharge_b1 x0 k) (x0.Ids.length - s.1) s.1 s.2.1 = rng (R := Bool) (fun k (_ : Unit) => spec_IsCharge_b1 x0 k) (x0.Ids.length - 0) 0 ()) (fun s => x0.Ids.length - s.1) (0, (), ()) (subL_cons rfl (subL_cons rfl (subL_cons rfl subL_nil))) (fun W hm => hm) ⟨(by omega), rfl⟩ ?_
                rintro ⟨k37, ⟨⟩, ⟨⟩⟩ H40
                obtain ⟨hk38, hF39⟩ : k37 ≤ x0.Ids.length ∧ rng (R := Bool) (fun k (_ : Unit) => spec_IsCharge_b1 x0 k) (x0.Ids.length - k37) k37 () = rng (R := Bool) (fun k (_ : Unit) => spec_IsCharge_b1 x0 k) (x0.Ids.length - 0) 0 () := H40
                show CM Try.prog 69 _ _ _ _ [(1, .pointer (some (⟨p22, 0, none⟩ : Addr))), (3, .int .i64 ((x0.Ids.length : Nat) : Int)), (4, .int .i64 ((k37 : Nat) : Int))] [iBox p22 37 [.int .i64 x0.Segment, .int .i64 x0.Base, .slice A8 x0.Ids.length c9, .slice A13 x0.Tenants.length c14, .slice A18 x0.Rows.length c19]]
                refine CM_seq ?_
                refine CM_seq ?_
                refine CM_region ?_
                refine WM_val (fun W hm => rv_move rfl) (Wd_none rfl) rfl (by decide) ?_
                refine WM_val (fun W hm => rv_move rfl) (Wd_none rfl) rfl (by decide) ?_
                refine WM_val (fun W hm => rv_lss rfl rfl) (Wd_none rfl) rfl (by decide) ?_
                refine WM_nil ?_
                refine QM_then ?_
                by_cases hl41 : k37 < x0.Ids.length
                · have g42 : (decide (((k37 : Nat) : Int) < ((x0.Ids.length : Nat) : Int))) = true := decide_eq_true (by omega)
                  refine CM_condT rfl g42 ?_
                  refine CM_skip ?_
                  refine QM_then ?_
                  refine CM_seq ?_
                  refine CM_block ?_
                  refine CM_seq ?_
                  refine CM_regionD (by kernel_rfl) (by kernel_rfl) ?_
                  refine QR_val (fun W hm => rv_field Try.underlying37 rfl Try.type32 (by decide) rfl rfl) (Wd_none rfl) rfl (by decide) ?_
                  refine QR_val (fun W hm => rv_load Try.underlying32 rfl rfl (hm.boxCell (n := 0) (o := 3) rfl rfl)) (Wd_none rfl) rfl (by decide) ?_
                  refine QR_val (fun W hm => rv_move rfl) (Wd_none rfl) rfl (by decide) ?_
                  obtain ⟨a43, rfl, hb44, he45⟩ := q15 (by omega)
                  refine QR_val (fun W hm => rv_index (sz := 1) (k := k37) Try.underlying32 Try.type3 rfl rfl rfl (by omega)) (Wd_none rfl) rfl (by decide) ?_
                  refine QR_val (fun W hm => rv_load Try.underlying3 rfl rfl ((hm.cell0 (show (a43.add (k37 * 1)).block < w.heap.size from by rw [add_block]; exact hb44)).trans (rdS_int he45 k37 (by omega)))) (Wd_none rfl) rfl (by decide) ?_
                  refine QR_callV (cl_fn cb61 rfl) (fun W hm => spec_l1In_c W (gt x0.Tenants k37) 0 3) (Wd_none rfl) (by decide) ?_
                  refine QR_val (fun W hm => rv_not rfl) (Wd_none rfl) rfl (by decide) ?_
                  refine QR_val (fun W hm => rv_move rfl) (Wd_none rfl) rfl (by decide) ?_
                  rcases Bool.eq_false_or_eq_true (spec_l1In_m (gt x0.Tenants k37) 0 3) with g47 | g47
                  ·
                    refine QR_val (fun W hm => rv_field Try.underlying37 rfl Try.type32 (by decide) rfl rfl) (Wd_some rfl rfl rfl (bw (nt g47) rfl)) rfl (by decide) ?_
                    refine QR_val (fun W hm => rv_load Try.underlying32 rfl rfl (hm.boxCell (n := 0) (o := 4) rfl rfl)) (Wd_some rfl rfl rfl (bw (nt g47) rfl)) rfl (by decide) ?_
                    refine QR_val (fun W hm => rv_move rfl) (Wd_some rfl rfl rfl (bw (nt g47) rfl)) rfl (by decide) ?_
                    obtain ⟨a48, rfl, hb49, he50⟩ := q20 (by omega)
                    refine QR_val (fun W hm => rv_index (sz := 1) (k := k37) Try.underlying32 Try.type3 rfl rfl rfl (by omega)) (Wd_some rfl rfl rfl (bw (nt g47) rfl)) rfl (by decide) ?_
                    refine QR_val (fun W hm => rv_load Try.underlying3 rfl rfl ((hm.cell0 (show (a48.add (k37 * 1)).block < w.heap.size from by rw [add_block]; exact hb49)).trans (rdS_int he50 k37 (by omega)))) (Wd_some rfl rfl rfl (bw (nt g47) rfl)) rfl (by decide) ?_
                    refine QR_val (fun W hm => rv_field Try.underlying37 rfl Try.type3 (by decide) rfl rfl) (Wd_some rfl rfl rfl (bw (nt g47) rfl)) rfl (by decide) ?_
                    refine QR_val (fun W hm => rv_load Try.underlying3 rfl rfl (hm.boxCell (n := 0) (o := 1) rfl rfl)) (Wd_some rfl rfl rfl (bw (nt g47) rfl)) rfl (by decide) ?_
                    refine QR_callV (cl_fn cb61 rfl) (fun W hm => spec_l1In_c W (gt x0.Rows k37) 0 x0.Base) (Wd_some rfl rfl rfl (bw (nt g47) rfl)) (by decide) ?_
                    refine QR_val (fun W hm => rv_not rfl) (Wd_some rfl rfl rfl (bw (nt g47) rfl)) rfl (by decide) ?_
                    refine QR_val (fun W hm => rv_pickF rfl (nt g47) rfl) (Wd_none rfl) rfl (by decide) ?_
                    refine QR_nil ?_
                    refine QM_then ?_
                    rcases Bool.eq_false_or_eq_true (spec_l1In_m (gt x0.Rows k37) 0 x0.Base) with g52 | g52
                    ·
                      refine CM_condF rfl (nt g52) ?_
                      refine CM_skip ?_
                      refine QM_block_normal ?_
                      refine QM_then ?_
                      refine CM_region ?_
                      refine WM_val (fun W hm => rv_move rfl) (Wd_none rfl) rfl (by decide) ?_
                      refine WM_val (fun W hm => rv_addN (p := k37) (q := 1) rfl rfl (by omega)) (Wd_none rfl) rfl (by decide) ?_
                      refine WM_val (fun W hm => rv_assign rfl) (Wd_none rfl) rfl (by decide) ?_
                      refine WM_nil ?_
                      have hn53 := rng_next (R := Bool) (body := (fun k (_ : Unit) => spec_IsCharge_b1 x0 k)) (k := k37) (s := ()) (s' := ()) (show k37 < x0.Ids.length from by omega) (show spec_IsCharge_b1 x0 k37 = Sum.inr () from by unfold spec_IsCharge_b1; exact cond_t g47 (cond_t g52 (rfl))) hF39
                      exact QM_round (k37 + 1, (), ()) (subL_cons rfl (subL_cons rfl (subL_cons rfl subL_nil))) (fun W hm => (hm.front (n := 0) rfl)) ⟨(by omega), hn53⟩ (show x0.Ids.length - (k37 + 1) < x0.Ids.length - k37 from by omega)
                    ·
                      refine CM_condT rfl (nf g52) ?_
                      refine CM_seq ?_
                      refine CM_region ?_
                      refine WM_val (fun W hm => rv_assign rfl) (Wd_none rfl) rfl (by decide) ?_
                      refine WM_nil ?_
                      refine QM_then ?_
                      refine CM_ret ?_
                      refine QM_block_ret ?_
                      refine QM_then_ret ?_
                      refine QM_then_ret ?_
                      refine QM_block_ret ?_
                      refine QM_then_ret ?_
                      exact QM_ret1 rfl rfl (fun W hm => ⟨ret_b (show spec_IsCharge_m x0 = false from by unfold spec_IsCharge_m; exact cond_t g24 (cond_f g26 (cond_f g28 (cond_f g30 (cond_f g32 (cond_t g34 (cond_t g36 (fin_inl (rng_ret (body := (fun k (_ : Unit) => spec_IsCharge_b1 x0 k)) (k := k37) (s := ()) (show k37 < x0.Ids.length from by omega) (show spec_IsCharge_b1 x0 k37 = Sum.inl false from by unfold spec_IsCharge_b1; exact cond_t g47 (cond_f g52 (rfl))) hF39) rfl)))))))), hm.below⟩)
                  ·
                    refine QR_skip (Wd_some rfl rfl rfl (bw (nf g47) rfl)) rfl (by decide) ?_
                    refine QR_skip (Wd_some rfl rfl rfl (bw (nf g47) rfl)) rfl (by decide) ?_
                    refine QR_skip (Wd_some rfl rfl rfl (bw (nf g47) rfl)) rfl (by decide) ?_
                    refine QR_skip (Wd_some rfl rfl rfl (bw (nf g47) rfl)) rfl (by decide) ?_
                    refine QR_skip (Wd_some rfl rfl rfl (bw (nf g47) rfl)) rfl (by decide) ?_
                    refine QR_skip (Wd_some rfl rfl rfl (bw (nf g47) rfl)) rfl (by decide) ?_
                    refine QR_skip (Wd_some rfl rfl rfl (bw (nf g47) rfl)) rfl (by decide) ?_
                    refine QR_skip (Wd_some rfl rfl rfl (bw (nf g47) rfl)) rfl (by decide) ?_
                    refine QR_skip (Wd_some rfl rfl rfl (bw (nf g47) rfl)) rfl (by decide) ?_
                    refine QR_val (fun W hm => rv_pickT rfl (nf g47) rfl) (Wd_none rfl) rfl (by decide) ?_
                    refine QR_nil ?_
                    refine QM_then ?_
                    refine CM_condT rfl rfl ?_
                    refine CM_seq ?_
                    refine CM_region ?_
                    refine WM_val (fun W hm => rv_assign rfl) (Wd_none rfl) rfl (by decide) ?_
                    refine WM_nil ?_
                    refine QM_then ?_
                    refine CM_ret ?_
                    refine QM_block_ret ?_
                    refine QM_then_ret ?_
                    refine QM_then_ret ?_
                    refine QM_block_ret ?_
                    refine QM_then_ret ?_
                    exact QM_ret1 rfl rfl (fun W hm => ⟨ret_b (show spec_IsCharge_m x0 = false from by unfold spec_IsCharge_m; exact cond_t g24 (cond_f g26 (cond_f g28 (cond_f g30 (cond_f g32 (cond_t g34 (cond_t g36 (fin_inl (rng_ret (body := (fun k (_ : Unit) => spec_IsCharge_b1 x0 k)) (k := k37) (s := ()) (show k37 < x0.Ids.length from by omega) (show spec_IsCharge_b1 x0 k37 = Sum.inl false from by unfold spec_IsCharge_b1; exact cond_f g47 (rfl)) hF39) rfl)))))))), hm.below⟩)
                · have g42 : (decide (((k37 : Nat) : Int) < ((x0.Ids.length : Nat) : Int))) = false := decide_eq_false (by omega)
                  refine CM_condF rfl g42 ?_
                  refine CM_exit ?_
                  refine QM_then_exit ?_
                  refine QM_then_exit ?_
                  have hE54 : rng (R := Bool) (fun k (_ : Unit) => spec_IsCharge_b1 x0 k) (x0.Ids.length - 0) 0 () = Sum.inr () := rng_end hl41 hF39
                  refine QM_block_hit ?_
                  refine QM_then ?_
                  refine CM_seq ?_
                  refine CM_region ?_
                  refine WM_val (fun W hm => rv_assign rfl) (Wd_none rfl) rfl (by decide) ?_
                  refine WM_nil ?_
                  refine QM_then ?_
                  refine CM_ret ?_
                  exact QM_ret1 rfl rfl (fun W hm => ⟨ret_b (show spec_IsCharge_m x0 = true from by unfold spec_IsCharge_m; exact cond_t g24 (cond_f g26 (cond_f g28 (cond_f g30 (cond_f g32 (cond_t g34 (cond_t g36 (fin_inr hE54 (rfl))))))))), hm.below⟩)
              ·
                refine CM_condT rfl (nf g36) ?_
                refine CM_seq ?_
                refine CM_region ?_
                refine WM_val (fun W hm => rv_assign rfl) (Wd_none rfl) rfl (by decide) ?_
                refine WM_nil ?_
                refine QM_then ?_
                refine CM_ret ?_
                refine QM_then_ret ?_
                exact QM_ret1 rfl rfl (fun W hm => ⟨ret_b (show spec_IsCharge_m x0 = false from by unfold spec_IsCharge_m; exact cond_t g24 (cond_f g26 (cond_f g28 (cond_f g30 (cond_f g32 (cond_t g34 (cond_f g36 (rfl)))))))), hm.below⟩)
            ·
              refine WM_skip (Wd_some rfl rfl rfl (bw (nf g34) rfl)) rfl (by decide) ?_
              refine WM_skip (Wd_some rfl rfl rfl (bw (nf g34) rfl)) rfl (by decide) ?_
              refine WM_skip (Wd_some rfl rfl rfl (bw (nf g34) rfl)) rfl (by decide) ?_
              refine WM_skip (Wd_some rfl rfl rfl (bw (nf g34) rfl)) rfl (by decide) ?_
              refine WM_val (fun W hm => rv_pickT rfl (nf g34) rfl) (Wd_none rfl) rfl (by decide) ?_
              refine WM_nil ?_
              refine QM_then ?_
              refine CM_condT rfl rfl ?_
              refine CM_seq ?_
              refine CM_region ?_
              refine WM_val (fun W hm => rv_assign rfl) (Wd_none rfl) rfl (by decide) ?_
              refine WM_nil ?_
              refine QM_then ?_
              refine CM_ret ?_
              refine QM_then_ret ?_
              exact QM_ret1 rfl rfl (fun W hm => ⟨ret_b (show spec_IsCharge_m x0 = false from by unfold spec_IsCharge_m; exact cond_t g24 (cond_f g26 (cond_f g28 (cond_f g30 (cond_f g32 (cond_f g34 (rfl))))))), hm.below⟩)
          · have g32 : (((x0.Rows.length : Nat) : Int) != ((x0.Ids.length : Nat) : Int)) = true := bne_iff_ne.2 h31
            refine WM_skip (Wd_some rfl rfl rfl (bw g32 rfl)) rfl (by decide) ?_
            refine WM_skip (Wd_some rfl rfl rfl (bw g32 rfl)) rfl (by decide) ?_
            refine WM_skip (Wd_some rfl rfl rfl (bw g32 rfl)) rfl (by decide) ?_
            refine WM_skip (Wd_some rfl rfl rfl (bw g32 rfl)) rfl (by decide) ?_
            refine WM_val (fun W hm => rv_pickT rfl g32 rfl) (Wd_none rfl) rfl (by decide) ?_
            refine WM_val (fun W hm => rv_move rfl) (Wd_none rfl) rfl (by decide) ?_
            refine WM_skip (Wd_some rfl rfl rfl rfl) rfl (by decide) ?_
            refine WM_skip (Wd_some rfl rfl rfl rfl) rfl (by decide) ?_
            refine WM_skip (Wd_some rfl rfl rfl rfl) rfl (by decide) ?_
            refine WM_skip (Wd_some rfl rfl rfl rfl) rfl (by decide) ?_
            refine WM_val (fun W hm => rv_pickT rfl rfl rfl) (Wd_none rfl) rfl (by decide) ?_
            refine WM_nil ?_
            refine QM_then ?_
            refine CM_condT rfl rfl ?_
            refine CM_seq ?_
            refine CM_region ?_
            refine WM_val (fun W hm => rv_assign rfl) (Wd_none rfl) rfl (by decide) ?_
            refine WM_nil ?_
            refine QM_then ?_
            refine CM_ret ?_
            refine QM_then_ret ?_
            exact QM_ret1 rfl rfl (fun W hm => ⟨ret_b (show spec_IsCharge_m x0 = false from by unfold spec_IsCharge_m; exact cond_t g24 (cond_f g26 (cond_f g28 (cond_f g30 (cond_t g32 (rfl)))))), hm.below⟩)
        · have g30 : (((x0.Tenants.length : Nat) : Int) != ((x0.Ids.length : Nat) : Int)) = true := bne_iff_ne.2 h29
          refine WM_skip (Wd_some rfl rfl rfl (bw g30 rfl)) rfl (by decide) ?_
          refine WM_skip (Wd_some rfl rfl rfl (bw g30 rfl)) rfl (by decide) ?_
          refine WM_skip (Wd_some rfl rfl rfl (bw g30 rfl)) rfl (by decide) ?_
          refine WM_skip (Wd_some rfl rfl rfl (bw g30 rfl)) rfl (by decide) ?_
          refine WM_skip (Wd_some rfl rfl rfl (bw g30 rfl)) rfl (by decide) ?_
          refine WM_val (fun W hm => rv_pickT rfl g30 rfl) (Wd_none rfl) rfl (by decide) ?_
          refine WM_val (fun W hm => rv_move rfl) (Wd_none rfl) rfl (by decide) ?_
          refine WM_skip (Wd_some rfl rfl rfl rfl) rfl (by decide) ?_
          refine WM_skip (Wd_some rfl rfl rfl rfl) rfl (by decide) ?_
          refine WM_skip (Wd_some rfl rfl rfl rfl) rfl (by decide) ?_
          refine WM_skip (Wd_some rfl rfl rfl rfl) rfl (by decide) ?_
          refine WM_val (fun W hm => rv_pickT rfl rfl rfl) (Wd_none rfl) rfl (by decide) ?_
          refine WM_val (fun W hm => rv_move rfl) (Wd_none rfl) rfl (by decide) ?_
          refine WM_skip (Wd_some rfl rfl rfl rfl) rfl (by decide) ?_
          refine WM_skip (Wd_some rfl rfl rfl rfl) rfl (by decide) ?_
          refine WM_skip (Wd_some rfl rfl rfl rfl) rfl (by decide) ?_
          refine WM_skip (Wd_some rfl rfl rfl rfl) rfl (by decide) ?_
          refine WM_val (fun W hm => rv_pickT rfl rfl rfl) (Wd_none rfl) rfl (by decide) ?_
          refine WM_nil ?_
          refine QM_then ?_
          refine CM_condT rfl rfl ?_
          refine CM_seq ?_
          refine CM_region ?_
          refine WM_val (fun W hm => rv_assign rfl) (Wd_none rfl) rfl (by decide) ?_
          refine WM_nil ?_
          refine QM_then ?_
          refine CM_ret ?_
          refine QM_then_ret ?_
          exact QM_ret1 rfl rfl (fun W hm => ⟨ret_b (show spec_IsCharge_m x0 = false from by unfold spec_IsCharge_m; exact cond_t g24 (cond_f g26 (cond_f g28 (cond_t g30 (rfl))))), hm.below⟩)
  ·
    refine WM_skip (Wd_some rfl rfl rfl (bw (nf g24) rfl)) rfl (by decide) ?_
    refine WM_skip (Wd_some rfl rfl rfl (bw (nf g24) rfl)) rfl (by decide) ?_
    refine WM_val (fun W hm => rv_pickT rfl (nf g24) rfl) (Wd_none rfl) rfl (by decide) ?_
    refine WM_val (fun W hm => rv_move rfl) (Wd_none rfl) rfl (by decide) ?_
    refine WM_skip (Wd_some rfl rfl rfl rfl) rfl (by decide) ?_
    refine WM_skip (Wd_some rfl rfl rfl rfl) rfl (by decide) ?_
    refine WM_val (fun W hm => rv_pickT rfl rfl rfl) (Wd_none rfl) rfl (by decide) ?_
    refine WM_val (fun W hm => rv_move rfl) (Wd_none rfl) rfl (by decide) ?_
    refine WM_skip (Wd_some rfl rfl rfl rfl) rfl (by decide) ?_
    refine WM_skip (Wd_some rfl rfl rfl rfl) rfl (by decide) ?_
    refine WM_skip (Wd_some rfl rfl rfl rfl) rfl (by decide) ?_
    refine WM_skip (Wd_some rfl rfl rfl rfl) rfl (by decide) ?_
    refine WM_skip (Wd_some rfl rfl rfl rfl) rfl (by decide) ?_
    refine WM_val (fun W hm => rv_pickT rfl rfl rfl) (Wd_none rfl) rfl (by decide) ?_
    refine WM_val (fun W hm => rv_move rfl) (Wd_none rfl) rfl (by decide) ?_
    refine WM_skip (Wd_some rfl rfl rfl rfl) rfl (by decide) ?_
    refine WM_skip (Wd_some rfl rfl rfl rfl) rfl (by decide) ?_
    refine WM_skip (Wd_some rfl rfl rfl rfl) rfl (by decide) ?_
    refine WM_skip (Wd_some rfl rfl rfl rfl) rfl (by decide) ?_
    refine WM_skip (Wd_some rfl rfl rfl rfl) rfl (by decide) ?_
    refine WM_val (fun W hm => rv_pickT rfl rfl rfl) (Wd_none rfl) rfl (by decide) ?_
    refine WM_val (fun W hm => rv_move rfl) (Wd_none rfl) rfl (by decide) ?_
    refine WM_skip (Wd_some rfl rfl rfl rfl) rfl (by decide) ?_
    refine WM_skip (Wd_some rfl rfl rfl rfl) rfl (by decide) ?_
    refine WM_skip (Wd_some rfl rfl rfl rfl) rfl (by decide) ?_
    refine WM_skip (Wd_some rfl rfl rfl rfl) rfl (by decide) ?_
    refine WM_val (fun W hm => rv_pickT rfl rfl rfl) (Wd_none rfl) rfl (by decide) ?_
    refine WM_val (fun W hm => rv_move rfl) (Wd_none rfl) rfl (by decide) ?_
    refine WM_skip (Wd_some rfl rfl rfl rfl) rfl (by decide) ?_
    refine WM_skip (Wd_some rfl rfl rfl rfl) rfl (by decide) ?_
    refine WM_skip (Wd_some rfl rfl rfl rfl) rfl (by decide) ?_
    refine WM_skip (Wd_some rfl rfl rfl rfl) rfl (by decide) ?_
    refine WM_val (fun W hm => rv_pickT rfl rfl rfl) (Wd_none rfl) rfl (by decide) ?_
    refine WM_nil ?_
    refine QM_then ?_
    refine CM_condT rfl rfl ?_
    refine CM_seq ?_
    refine CM_region ?_
    refine WM_val (fun W hm => rv_assign rfl) (Wd_none rfl) rfl (by decide) ?_
    refine WM_nil ?_
    refine QM_then ?_
    refine CM_ret ?_
    refine QM_then_ret ?_
    exact QM_ret1 rfl rfl (fun W hm => ⟨ret_b (show spec_IsCharge_m x0 = false from by unfold spec_IsCharge_m; exact cond_f g24 (rfl)), hm.below⟩)

theorem spec_IsCharge_fact {x : DCharge} (h : spec_IsCharge_m x = true) : 1 ≤ x.Ids.length ∧ x.Tenants.length = x.Ids.length ∧ x.Rows.length = x.Ids.length := by
  unfold spec_IsCharge_m at h
  cases h1 : spec_IsSet_m x.Ids <;> rw [h1] at h
  · cases h
  by_cases h2 : ((x.Ids.length : Nat) : Int) = 0
  · rw [beq_iff_eq.2 h2] at h
    cases h
  · by_cases h3 : ((x.Tenants.length : Nat) : Int) = ((x.Ids.length : Nat) : Int)
    · by_cases h4 : ((x.Rows.length : Nat) : Int) = ((x.Ids.length : Nat) : Int)
      · omega
      · rw [bne_iff_ne.2 h4] at h
        revert h
        cases (((x.Ids.length : Nat) : Int) == 0) <;> cases decide (8 < ((x.Ids.length : Nat) : Int)) <;> cases (((x.Tenants.length : Nat) : Int) != ((x.Ids.length : Nat) : Int)) <;> intro h <;> cases h
    · rw [bne_iff_ne.2 h3] at h
      revert h
      cases (((x.Ids.length : Nat) : Int) == 0) <;> cases decide (8 < ((x.Ids.length : Nat) : Int)) <;> intro h <;> cases h

def spec_SharesOf_b1 (x0 : DCharge) (k28 : Nat) (d29 : (List Int)) : (List Int) ⊕ (((List Int)) ⊕ ((List Int))) :=
  cond (spec_IsCharge_m x0) (cond (decide (((k28 : Nat) : Int) < (Int.tmod x0.Base ((x0.Ids.length : Nat) : Int)))) (Sum.inr (Sum.inr (d29 ++ [(IntKind.i64.wrap ((IntKind.i64.wrap ((IntKind.i64.wrap (Int.tdiv x0.Base ((x0.Ids.length : Nat) : Int))) + (gt x0.Rows k28))) + 1))]))) (Sum.inr (Sum.inr (d29 ++ [(IntKind.i64.wrap ((IntKind.i64.wrap (Int.tdiv x0.Base ((x0.Ids.length : Nat) : Int))) + (gt x0.Rows k28)))])))) (Sum.inr (Sum.inl d29))
def spec_SharesOf_m (x0 : DCharge) : (List Int) :=
  Sum.elim id (fun (s : (List Int)) => s) (rngb (R := (List Int)) (fun k (s : (List Int)) => spec_SharesOf_b1 x0 k s) (x0.Ids.length - 0) 0 [])
theorem cb43 : Cb Try.prog 43 := ⟨Try.f43, _, Try.func43, rfl, by decide⟩
set_option maxRecDepth 10000 in
set_option maxHeartbeats 4000000 in
theorem spec_SharesOf_c (w : World) (z0 : List Value) (x0 : DCharge) (r_0 : tyCharge.rd w w.heap.size z0 x0) (s_0 : smCharge 68719476736 x0) :
    Calls Try.prog 43 #[.agg z0.toArray] w fun e w' => ∃ v : Value, e = .returned (v) ∧ Mem w.heap.size w [iOwn (tSl tInt 3) [v] (spec_SharesOf_m x0)] w' := by
  obtain ⟨v1, v3, v5, rfl, r2, r4, r6⟩ := tyCharge_rd r_0
  have r11 := r2
  obtain ⟨m7, A8, c9, rfl, q10⟩ := r2
  have r16 := r4
  obtain ⟨m12, A13, c14, rfl, q15⟩ := r4
  have r21 := r6
  obtain ⟨m17, A18, c19, rfl, q20⟩ := r6
  have l22 : x0.Ids.length ≤ 68719476736 := s_0.1
  have l23 : x0.Tenants.length ≤ 68719476736 := s_0.2.1
  have l24 : x0.Rows.length ≤ 68719476736 := s_0.2.2
  refine call_enterM (L := [(0, .agg #[.int .i64 x0.Segment, .int .i64 x0.Base, .slice A8 x0.Ids.length c9, .slice A13 x0.Tenants.length c14, .slice A18 x0.Rows.length c19])]) (N := 43) Try.func43 rfl rfl (Nat.le_of_ble_eq_true rfl) (argsL_cons rfl argsL_nil) ?_
  refine CM_seq ?_
  refine CM_region ?_
  refine WM_box rfl (Wd_none rfl) (by decide) (fun p25 => ?_)
  refine WM_val (fun W hm => rv_assign rfl) (Wd_none rfl) rfl (by decide) ?_
  refine WM_nil ?_
  refine QM_then ?_
  refine CM_seq ?_
  refine CM_region ?_
  refine WM_build0 (E := tInt) Try.underlying32 Try.type3 (Wd_none rfl) (by decide) (fun p26 => ?_)
  refine WM_val (fun W hm => rv_assign rfl) (Wd_none rfl) rfl (by decide) ?_
  refine WM_nil ?_
  refine QM_then ?_
  refine CM_seq ?_
  refine CM_region ?_
  refine WM_val (fun W hm => rv_field Try.underlying37 rfl Try.type32 (by decide) rfl rfl) (Wd_none rfl) rfl (by decide) ?_
  refine WM_val (fun W hm => rv_load Try.underlying32 rfl rfl (hm.boxCell (n := 1) (o := 2) rfl rfl)) (Wd_none rfl) rfl (by decide) ?_
  refine WM_val (fun W hm => rv_len Try.underlying32 rfl) (Wd_none rfl) rfl (by decide) ?_
  refine WM_val (fun W hm => rv_assign rfl) (Wd_none rfl) rfl (by decide) ?_
  refine WM_nil ?_
  refine QM_then ?_
  refine CM_seq ?_
  refine CM_seq ?_
  refine CM_region ?_
  refine WM_val (fun W hm => rv_assign rfl) (Wd_none rfl) rfl (by decide) ?_
  refine WM_nil ?_
  refine QM_then ?_
  refine CM_cut (σ := ((List Int)) × (Option Addr × Nat)) (fun s => [(3, .slice s.2.1 s.1.length s.2.2)]) (fun s => [iOwn (tSl tInt 3) [.slice s.2.1 s.1.length s.2.2] s.1, iBox p25 37 [.int .i64 x0.Segment, .int .i64 x0.Base, .slice A8 x0.Ids.length c9, .slice A13 x0.Tenants.length c14, .slice A18 x0.Rows.length c19]]) (fun s => rngb (R := (List Int)) (fun k (s : (List Int)) => spec_SharesOf_b1 x0 k s) (x0.Ids.length - 0) 0 [] = Sum.inr s.1) ?_ ?_
  ·
    refine CM_block ?_
    refine CM_loop (σ := Nat × ((List Int)) × (Option Addr × Nat)) (fun s => [(1, .pointer (some (⟨p25, 0, none⟩ : Addr))), (3, .slice s.2.2.1 s.2.1.length s.2.2.2), (4, .int .i64 ((x0.Ids.length : Nat) : Int)), (5, .int .i64 ((s.1 : Nat) : Int))]) (fun s => [iOwn (tSl tInt 3) [.slice s.2.2.1 s.2.1.length s.2.2.2] s.2.1, iBox p25 37 [.int .i64 x0.Segment, .int .i64 x0.Base, .slice A8 x0.Ids.length c9, .slice A13 x0.Tenants.length c14, .slice A18 x0.Rows.length c19]]) (fun s => s.1 ≤ x0.Ids.length ∧ rngb (R := (List Int)) (fun k (s : (List Int)) => spec_SharesOf_b1 x0 k s) (x0.Ids.length - s.1) s.1 s.2.1 = rngb (R := (List Int)) (fun k (s : (List Int)) => spec_SharesOf_b1 x0 k s) (x0.Ids.length - 0) 0 [] ∧ s.2.1.length ≤ 0 + s.1) (fun s => x0.Ids.length - s.1) (0, [], ((some ⟨p26, 0, none⟩), 0)) (subL_cons rfl (subL_cons rfl (subL_cons rfl (subL_cons rfl subL_nil)))) (fun W hm => hm) ⟨(by omega), rfl, Nat.le_refl _⟩ ?_
    rintro ⟨k28, d29, ⟨A30, c31⟩⟩ H34
    obtain ⟨hk32, hF33, hi35⟩ : k28 ≤ x0.Ids.length ∧ rngb (R := (List Int)) (fun k (s : (List Int)) => spec_SharesOf_b1 x0 k s) (x0.Ids.length - k28) k28 d29 = rngb (R := (List Int)) (fun k (s : (List Int)) => spec_SharesOf_b1 x0 k s) (x0.Ids.length - 0) 0 [] ∧ d29.length ≤ 0 + k28 := H34
    show CM Try.prog 43 _ _ _ _ [(1, .pointer (some (⟨p25, 0, none⟩ : Addr))), (3, .slice A30 d29.length c31), (4, .int .i64 ((x0.Ids.length : Nat) : Int)), (5, .int .i64 ((k28 : Nat) : Int))] [iOwn (tSl tInt 3) [.slice A30 d29.length c31] d29, iBox p25 37 [.int .i64 x0.Segment, .int .i64 x0.Base, .slice A8 x0.Ids.length c9, .slice A13 x0.Tenants.length c14, .slice A18 x0.Rows.length c19]]
    refine CM_seq ?_
    refine CM_seq ?_
    refine CM_region ?_
    refine WM_val (fun W hm => rv_move rfl) (Wd_none rfl) rfl (by decide) ?_
    refine WM_val (fun W hm => rv_move rfl) (Wd_none rfl) rfl (by decide) ?_
    refine WM_val (fun W hm => rv_lss rfl rfl) (Wd_none rfl) rfl (by decide) ?_
    refine WM_val (fun W hm => rv_move rfl) (Wd_none rfl) rfl (by decide) ?_
    by_cases hl36 : k28 < x0.Ids.length
    · have g37 : (decide (((k28 : Nat) : Int) < ((x0.Ids.length : Nat) : Int))) = true := decide_eq_true (by omega)
      refine WM_val (fun W hm => rv_loadN (cs := [.int .i64 x0.Segment, .int .i64 x0.Base, .slice A8 x0.Ids.length c9, .slice A13 x0.Tenants.length c14, .slice A18 x0.Rows.length c19]) Try.underlying37 Try.type37 rfl rfl (hm.boxCells (n := 1) rfl)) (Wd_some rfl rfl rfl (bw g37 rfl)) rfl (by decide) ?_
      refine WM_callV (cl_fn cb25 rfl) (fun W hm => spec_IsCharge_c W _ x0 (tyCharge_mk (hm.rdS0 r11) (hm.rdS0 r16) (hm.rdS0 r21))) (Wd_some rfl rfl rfl (bw g37 rfl)) (by decide) ?_
      refine WM_val (fun W hm => rv_pickT rfl g37 rfl) (Wd_none rfl) rfl (by decide) ?_
      refine WM_nil ?_
      refine QM_then ?_
      rcases Bool.eq_false_or_eq_true (spec_IsCharge_m x0) with g39 | g39
      ·
        obtain ⟨hq1, hq2, hq3⟩ := spec_IsCharge_fact g39
        refine CM_condT rfl g39 ?_
        refine CM_skip ?_
        refine QM_then ?_
        refine CM_seq ?_
        refine CM_block ?_
        refine CM_seq ?_
        refine CM_regionD (by kernel_rfl) (by kernel_rfl) ?_
        refine QR_val (fun W hm => rv_field Try.underlying37 rfl Try.type3 (by decide) rfl rfl) (Wd_none rfl) rfl (by decide) ?_
        refine QR_val (fun W hm => rv_load Try.underlying3 rfl rfl (hm.boxCell (n := 1) (o := 1) rfl rfl)) (Wd_none rfl) rfl (by decide) ?_
        refine QR_val (fun W hm => rv_move rfl) (Wd_none rfl) rfl (by decide) ?_
        refine QR_val (fun W hm => rv_quo rfl rfl (by omega)) (Wd_none rfl) rfl (by decide) ?_
        refine QR_val (fun W hm => rv_field Try.underlying37 rfl Try.type32 (by decide) rfl rfl) (Wd_none rfl) rfl (by decide) ?_
        refine QR_val (fun W hm => rv_load Try.underlying32 rfl rfl (hm.boxCell (n := 1) (o := 4) rfl rfl)) (Wd_none rfl) rfl (by decide) ?_
        refine QR_val (fun W hm => rv_move rfl) (Wd_none rfl) rfl (by decide) ?_
        obtain ⟨a40, rfl, hb41, he42⟩ := q20 (by omega)
        refine QR_val (fun W hm => rv_index (sz := 1) (k := k28) Try.underlying32 Try.type3 rfl rfl rfl (by omega)) (Wd_none rfl) rfl (by decide) ?_
        refine QR_val (fun W hm => rv_load Try.underlying3 rfl rfl ((hm.cell0 (show (a40.add (k28 * 1)).block < w.heap.size from by rw [add_block]; exact hb41)).trans (rdS_int he42 k28 (by omega)))) (Wd_none rfl) rfl (by decide) ?_
        refine QR_val (fun W hm => rv_add rfl rfl) (Wd_none rfl) rfl (by decide) ?_
        refine QR_val (fun W hm => rv_assign rfl) (Wd_none rfl) rfl (by decide) ?_
        refine QR_nil ?_
        refine QM_then ?_
        refine CM_seq ?_
        refine CM_seq ?_
        refine CM_region ?_
        refine WM_val (fun W hm => rv_move rfl) (Wd_none rfl) rfl (by decide) ?_
        refine WM_val (fun W hm => rv_field Try.underlying37 rfl Try.type3 (by decide) rfl rfl) (Wd_none rfl) rfl (by decide) ?_
        refine WM_val (fun W hm => rv_load Try.underlying3 rfl rfl (hm.boxCell (n := 1) (o := 1) rfl rfl)) (Wd_none rfl) rfl (by decide) ?_
        refine WM_val (fun W hm => rv_move rfl) (Wd_none rfl) rfl (by decide) ?_
        refine WM_val (fun W hm => rv_rem rfl rfl (by omega)) (Wd_none rfl) rfl (by decide) ?_
        refine WM_val (fun W hm => rv_lss rfl rfl) (Wd_none rfl) rfl (by decide) ?_
        refine WM_nil ?_
        refine QM_then ?_
        by_cases h43 : ((k28 : Nat) : Int) < (Int.tmod x0.Base ((x0.Ids.length : Nat) : Int))
        · have g44 : (decide (((k28 : Nat) : Int) < (Int.tmod x0.Base ((x0.Ids.length : Nat) : Int)))) = true := decide_eq_true h43
          refine CM_condT rfl g44 ?_
          refine CM_region ?_
          refine WM_val (fun W hm => rv_move rfl) (Wd_none rfl) rfl (by decide) ?_
          refine WM_val (fun W hm => rv_add rfl rfl) (Wd_none rfl) rfl (by decide) ?_
          refine WM_val (fun W hm => rv_assign rfl) (Wd_none rfl) rfl (by decide) ?_
          refine WM_nil ?_
          refine QM_then ?_
          refine CM_region ?_
          refine WM_val (fun W hm => rv_move rfl) (Wd_none rfl) rfl (by decide) ?_
          refine WM_val (fun W hm => rv_move rfl) (Wd_none rfl) rfl (by decide) ?_
          refine WM_build (cs := [.int .i64 (IntKind.i64.wrap ((IntKind.i64.wrap ((IntKind.i64.wrap (Int.tdiv x0.Base ((x0.Ids.length : Nat) : Int))) + (gt x0.Rows k28))) + 1))]) Try.underlying32 Try.type3 rfl (by decide) (by decide) rfl (by kernel_rfl) (Wd_none rfl) (by decide) (fun p45 => ?_)
          refine WM_append (E := tInt) (e := 3) (v := .slice A30 d29.length c31) (p := p45) (q := 1) (xs := d29) (ys := [(IntKind.i64.wrap ((IntKind.i64.wrap ((IntKind.i64.wrap (Int.tdiv x0.Base ((x0.Ids.length : Nat) : Int))) + (gt x0.Rows k28))) + 1))]) (eis := []) (js := [iBox p25 37 [.int .i64 x0.Segment, .int .i64 x0.Base, .slice A8 x0.Ids.length c9, .slice A13 x0.Tenants.length c14, .slice (some a40) x0.Rows.length c19]]) (news := [.int .i64 (IntKind.i64.wrap ((IntKind.i64.wrap ((IntKind.i64.wrap (Int.tdiv x0.Base ((x0.Ids.length : Nat) : Int))) + (gt x0.Rows k28))) + 1))]) (fun W hm => ((hm.front (n := 1) rfl).front (n := 1) rfl)) (fun _ _ hs => by cases (Sep.nil hs); exact (els_cons tInt_own els_nil)) Try.underlying32 Try.type3 rfl rfl rfl (by decide) rfl rfl rfl (show (d29.length + 1) * 8 ≤ 140737488355328 from by omega) (show d29.length + 1 ≤ 9223372036854775807 from by omega) (Wd_none rfl) (by decide) (fun v46 => ?_)
          refine WM_form (n := 0) rfl ?_
          rintro A47 c48 rfl m49
          refine WM_val (fun W hm => rv_assign rfl) (Wd_none rfl) rfl (by decide) ?_
          refine WM_nil ?_
          refine QM_block_normal ?_
          refine QM_then ?_
          refine CM_region ?_
          refine WM_val (fun W hm => rv_move rfl) (Wd_none rfl) rfl (by decide) ?_
          refine WM_val (fun W hm => rv_addN (p := k28) (q := 1) rfl rfl (by omega)) (Wd_none rfl) rfl (by decide) ?_
          refine WM_val (fun W hm => rv_assign rfl) (Wd_none rfl) rfl (by decide) ?_
          refine WM_nil ?_
          have hn51 := rngb_next (R := (List Int)) (body := (fun k (s : (List Int)) => spec_SharesOf_b1 x0 k s)) (k := k28) (s := d29) (s' := (d29 ++ [(IntKind.i64.wrap ((IntKind.i64.wrap ((IntKind.i64.wrap (Int.tdiv x0.Base ((x0.Ids.length : Nat) : Int))) + (gt x0.Rows k28))) + 1))])) (show k28 < x0.Ids.length from by omega) (show spec_SharesOf_b1 x0 k28 d29 = Sum.inr (Sum.inr (d29 ++ [(IntKind.i64.wrap ((IntKind.i64.wrap ((IntKind.i64.wrap (Int.tdiv x0.Base ((x0.Ids.length : Nat) : Int))) + (gt x0.Rows k28))) + 1))])) from by unfold spec_SharesOf_b1; exact cond_t g39 (cond_t g44 (rfl))) hF33
          exact QM_round (k28 + 1, (d29 ++ [(IntKind.i64.wrap ((IntKind.i64.wrap ((IntKind.i64.wrap (Int.tdiv x0.Base ((x0.Ids.length : Nat) : Int))) + (gt x0.Rows k28))) + 1))]), (A47, c48)) (subL_cons rfl (subL_cons rfl (subL_cons rfl (subL_cons rfl subL_nil)))) (fun W hm => ((hm.front (n := 1) rfl).front (n := 1) rfl)) ⟨(by omega), hn51, (show (d29 ++ [(IntKind.i64.wrap ((IntKind.i64.wrap ((IntKind.i64.wrap (Int.tdiv x0.Base ((x0.Ids.length : Nat) : Int))) + (gt x0.Rows k28))) + 1))]).length ≤ 0 + (k28 + 1) from by first | omega | (simp only [List.length_append, List.length_cons, List.length_nil] at *; omega))⟩ (show x0.Ids.length - (k28 + 1) < x0.Ids.length - k28 from by omega)
        · have g44 : (decide (((k28 : Nat) : Int) < (Int.tmod x0.Base ((x0.Ids.length : Nat) : Int)))) = false := decide_eq_false h43
          refine CM_condF rfl g44 ?_
          refine CM_skip ?_
          refine QM_then ?_
          refine CM_region ?_
          refine WM_val (fun W hm => rv_move rfl) (Wd_none rfl) rfl (by decide) ?_
          refine WM_val (fun W hm => rv_move rfl) (Wd_none rfl) rfl (by decide) ?_
          refine WM_build (cs := [.int .i64 (IntKind.i64.wrap ((IntKind.i64.wrap (Int.tdiv x0.Base ((x0.Ids.length : Nat) : Int))) + (gt x0.Rows k28)))]) Try.underlying32 Try.type3 rfl (by decide) (by decide) rfl (by kernel_rfl) (Wd_none rfl) (by decide) (fun p52 => ?_)
          refine WM_append (E := tInt) (e := 3) (v := .slice A30 d29.length c31) (p := p52) (q := 1) (xs := d29) (ys := [(IntKind.i64.wrap ((IntKind.i64.wrap (Int.tdiv x0.Base ((x0.Ids.length : Nat) : Int))) + (gt x0.Rows k28)))]) (eis := []) (js := [iBox p25 37 [.int .i64 x0.Segment, .int .i64 x0.Base, .slice A8 x0.Ids.length c9, .slice A13 x0.Tenants.length c14, .slice (some a40) x0.Rows.length c19]]) (news := [.int .i64 (IntKind.i64.wrap ((IntKind.i64.wrap (Int.tdiv x0.Base ((x0.Ids.length : Nat) : Int))) + (gt x0.Rows k28)))]) (fun W hm => ((hm.front (n := 1) rfl).front (n := 1) rfl)) (fun _ _ hs => by cases (Sep.nil hs); exact (els_cons tInt_own els_nil)) Try.underlying32 Try.type3 rfl rfl rfl (by decide) rfl rfl rfl (show (d29.length + 1) * 8 ≤ 140737488355328 from by omega) (show d29.length + 1 ≤ 9223372036854775807 from by omega) (Wd_none rfl) (by decide) (fun v53 => ?_)
          refine WM_form (n := 0) rfl ?_
          rintro A54 c55 rfl m56
          refine WM_val (fun W hm => rv_assign rfl) (Wd_none rfl) rfl (by decide) ?_
          refine WM_nil ?_
          refine QM_block_normal ?_
          refine QM_then ?_
          refine CM_region ?_
          refine WM_val (fun W hm => rv_move rfl) (Wd_none rfl) rfl (by decide) ?_
          refine WM_val (fun W hm => rv_addN (p := k28) (q := 1) rfl rfl (by omega)) (Wd_none rfl) rfl (by decide) ?_
          refine WM_val (fun W hm => rv_assign rfl) (Wd_none rfl) rfl (by decide) ?_
          refine WM_nil ?_
          have hn58 := rngb_next (R := (List Int)) (body := (fun k (s : (List Int)) => spec_SharesOf_b1 x0 k s)) (k := k28) (s := d29) (s' := (d29 ++ [(IntKind.i64.wrap ((IntKind.i64.wrap (Int.tdiv x0.Base ((x0.Ids.length : Nat) : Int))) + (gt x0.Rows k28)))])) (show k28 < x0.Ids.length from by omega) (show spec_SharesOf_b1 x0 k28 d29 = Sum.inr (Sum.inr (d29 ++ [(IntKind.i64.wrap ((IntKind.i64.wrap (Int.tdiv x0.Base ((x0.Ids.length : Nat) : Int))) + (gt x0.Rows k28)))])) from by unfold spec_SharesOf_b1; exact cond_t g39 (cond_f g44 (rfl))) hF33
          exact QM_round (k28 + 1, (d29 ++ [(IntKind.i64.wrap ((IntKind.i64.wrap (Int.tdiv x0.Base ((x0.Ids.length : Nat) : Int))) + (gt x0.Rows k28)))]), (A54, c55)) (subL_cons rfl (subL_cons rfl (subL_cons rfl (subL_cons rfl subL_nil)))) (fun W hm => ((hm.front (n := 1) rfl).front (n := 1) rfl)) ⟨(by omega), hn58, (show (d29 ++ [(IntKind.i64.wrap ((IntKind.i64.wrap (Int.tdiv x0.Base ((x0.Ids.length : Nat) : Int))) + (gt x0.Rows k28)))]).length ≤ 0 + (k28 + 1) from by first | omega | (simp only [List.length_append, List.length_cons, List.length_nil] at *; omega))⟩ (show x0.Ids.length - (k28 + 1) < x0.Ids.length - k28 from by omega)
      ·
        refine CM_condF rfl g39 ?_
        refine CM_exit ?_
        refine QM_then_exit ?_
        refine QM_then_exit ?_
        refine QM_block_hit ?_
        have hE59 := rngb_brk (R := (List Int)) (body := (fun k (s : (List Int)) => spec_SharesOf_b1 x0 k s)) (k := k28) (s := d29) (s' := d29) (show k28 < x0.Ids.length from by omega) (show spec_SharesOf_b1 x0 k28 d29 = Sum.inr (Sum.inl d29) from by unfold spec_SharesOf_b1; exact cond_f g39 (rfl)) hF33
        exact QM_cut_normal (d29, (A30, c31)) (subL_cons rfl subL_nil) (fun W hm => ((hm.front (n := 1) rfl).front (n := 1) rfl)) hE59
    · have g37 : (decide (((k28 : Nat) : Int) < ((x0.Ids.length : Nat) : Int))) = false := decide_eq_false (by omega)
      refine WM_skip (Wd_some rfl rfl rfl (bw g37 rfl)) rfl (by decide) ?_
      refine WM_skip (Wd_some rfl rfl rfl (bw g37 rfl)) rfl (by decide) ?_
      refine WM_val (fun W hm => rv_pickF rfl g37 rfl) (Wd_none rfl) rfl (by decide) ?_
      refine WM_nil ?_
      refine QM_then ?_
      refine CM_condF rfl rfl ?_
      refine CM_exit ?_
      refine QM_then_exit ?_
      refine QM_then_exit ?_
      refine QM_block_hit ?_
      have hE60 : rngb (R := (List Int)) (fun k (s : (List Int)) => spec_SharesOf_b1 x0 k s) (x0.Ids.length - 0) 0 [] = Sum.inr d29 := rngb_end hl36 hF33
      exact QM_cut_normal (d29, (A30, c31)) (subL_cons rfl subL_nil) (fun W hm => ((hm.front (n := 1) rfl).front (n := 1) rfl)) hE60
  ·
    rintro ⟨d29, ⟨A30, c31⟩⟩ H62
    have hE61 : rngb (R := (List Int)) (fun k (s : (List Int)) => spec_SharesOf_b1 x0 k s) (x0.Ids.length - 0) 0 [] = Sum.inr d29 := H62
    show QM 43 _ _ _ .normal [(3, .slice A30 d29.length c31)] [iOwn (tSl tInt 3) [.slice A30 d29.length c31] d29, iBox p25 37 [.int .i64 x0.Segment, .int .i64 x0.Base, .slice A8 x0.Ids.length c9, .slice A13 x0.Tenants.length c14, .slice A18 x0.Rows.length c19]]
    refine QM_then ?_
    refine CM_seq ?_
    refine CM_region ?_
    refine WM_val (fun W hm => rv_move rfl) (Wd_none rfl) rfl (by decide) ?_
    refine WM_val (fun W hm => rv_assign rfl) (Wd_none rfl) rfl (by decide) ?_
    refine WM_nil ?_
    refine QM_then ?_
    refine CM_ret ?_
    refine QM_r1 rfl (RR_tmp rfl) (fun W hm => ⟨.slice A30 d29.length c31, ?_, ?_⟩)
    · first | rw [(show spec_SharesOf_m x0 = d29 from by unfold spec_SharesOf_m; exact fin_inr hE61 (rfl))] | rfl
    · rw [(show spec_SharesOf_m x0 = d29 from by unfold spec_SharesOf_m; exact fin_inr hE61 (rfl))]; exact ((hm.front (n := 0) rfl).front (n := 1) rfl).tail

theorem rngb_le {R : Type} {n : Nat} {b : Nat → List Int → R ⊕ (List Int ⊕ List Int)} (h : ∀ j s, b j s = .inr (.inl s) ∨ (∃ s', b j s = .inr (.inr s') ∧ s'.length ≤ s.length + 1)) : ∀ m k s, ∃ s', rngb b m k s = .inr s' ∧ s'.length ≤ s.length + m
  | 0, _, s => ⟨s, rfl, by omega⟩
  | m + 1, k, s => by
    rcases h k s with h1 | ⟨s', h1, h2⟩
    · exact ⟨s, by rw [rngb, h1]; rfl, by omega⟩
    · obtain ⟨s'', h3, h4⟩ := rngb_le (n := n) h m (k + 1) s'
      exact ⟨s'', by rw [rngb, h1]; exact h3, by omega⟩
theorem spec_SharesOf_len (x : DCharge) : (spec_SharesOf_m x).length ≤ x.Tenants.length := by
  unfold spec_SharesOf_m
  cases h : spec_IsCharge_m x with
  | false =>
    have hb : ∀ j s, spec_SharesOf_b1 x j s = .inr (.inl s) := fun j s => by unfold spec_SharesOf_b1; rw [h]; rfl
    cases hn : x.Ids.length - 0 with
    | zero => exact Nat.zero_le _
    | succ m => rw [rngb, hb]; exact Nat.zero_le _
  | true =>
    obtain ⟨_, h2, h3⟩ := spec_IsCharge_fact h
    obtain ⟨s', h4, h5⟩ := rngb_le (n := 0) (b := fun k s => spec_SharesOf_b1 x k s) (fun j s => by
      right
      unfold spec_SharesOf_b1
      rw [h]
      cases decide (((j : Nat) : Int) < (Int.tmod x.Base ((x.Ids.length : Nat) : Int))) <;> exact ⟨_, rfl, by simp⟩) (x.Ids.length - 0) 0 []
    rw [h4]
    show s'.length ≤ _
    simp at h5
    omega

def impl_IsSet_b1 (x0 : (List Int)) (k6 : Nat) : Bool ⊕ (Unit) :=
  cond (decide ((gt x0 k6) < 0)) (Sum.inl false) (cond (decide (24 ≤ (gt x0 k6))) (Sum.inl false) (cond (decide (0 < ((k6 : Nat) : Int))) (cond (decide ((gt x0 k6) ≤ (gt x0 (k6 - 1)))) (Sum.inl false) (Sum.inr ())) (Sum.inr ())))
def impl_IsSet_m (x0 : (List Int)) : Bool :=
  Sum.elim id (fun (s : Unit) => true) (rng (R := Bool) (fun k (_ : Unit) => impl_IsSet_b1 x0 k) (x0.length - 0) 0 ())
theorem cb67 : Cb Try.prog 67 := ⟨Try.f67, _, Try.func67, rfl, by decide⟩
set_option maxRecDepth 10000 in
set_option maxHeartbeats 4000000 in
theorem impl_IsSet_c (w : World) (z0 : Value) (x0 : (List Int)) (r_0 : rdS tInt w w.heap.size z0 x0) :
    Calls Try.prog 67 #[z0] w fun e w' => e = .returned (.bool (impl_IsSet_m x0)) ∧ Below w.heap.size w w' := by
  have r5 := r_0
  obtain ⟨m1, A2, c3, rfl, q4⟩ := r_0
  refine call_enterM (L := [(0, .slice A2 x0.length c3)]) (N := 32) Try.func67 rfl rfl (Nat.le_of_ble_eq_true rfl) (argsL_cons rfl argsL_nil) ?_
  refine CM_seq ?_
  refine CM_region ?_
  refine WM_val (fun W hm => rv_assign rfl) (Wd_none rfl) rfl (by decide) ?_
  refine WM_nil ?_
  refine QM_then ?_
  refine CM_seq ?_
  refine CM_seq ?_
  refine CM_region ?_
  refine WM_val (fun W hm => rv_move rfl) (Wd_none rfl) rfl (by decide) ?_
  refine WM_val (fun W hm => rv_len Try.underlying32 rfl) (Wd_none rfl) rfl (by decide) ?_
  refine WM_val (fun W hm => rv_move rfl) (Wd_none rfl) rfl (by decide) ?_
  refine WM_nil ?_
  refine QM_then ?_
  refine CM_block ?_
  refine CM_loop (σ := Nat × (Unit) × (Unit)) (fun s => [(0, .slice A2 x0.length c3), (5, .slice A2 x0.length c3), (6, .int .i64 ((x0.length : Nat) : Int)), (7, .int .i64 ((s.1 : Nat) : Int))]) (fun s => []) (fun s => s.1 ≤ x0.length ∧ rng (R := Bool) (fun k (_ : Unit) => impl_IsSet_b1 x0 k) (x0.length - s.1) s.1 s.2.1 = rng (R := Bool) (fun k (_ : Unit) => impl_IsSet_b1 x0 k) (x0.length - 0) 0 ()) (fun s => x0.length - s.1) (0, (), ()) (subL_cons rfl (subL_cons rfl (subL_cons rfl (subL_cons rfl subL_nil)))) (fun W hm => hm) ⟨(by omega), rfl⟩ ?_
  rintro ⟨k6, ⟨⟩, ⟨⟩⟩ H9
  obtain ⟨hk7, hF8⟩ : k6 ≤ x0.length ∧ rng (R := Bool) (fun k (_ : Unit) => impl_IsSet_b1 x0 k) (x0.length - k6) k6 () = rng (R := Bool) (fun k (_ : Unit) => impl_IsSet_b1 x0 k) (x0.length - 0) 0 () := H9
  show CM Try.prog 32 _ _ _ _ [(0, .slice A2 x0.length c3), (5, .slice A2 x0.length c3), (6, .int .i64 ((x0.length : Nat) : Int)), (7, .int .i64 ((k6 : Nat) : Int))] []
  refine CM_seq ?_
  refine CM_region ?_
  refine WM_val (fun W hm => rv_lss rfl rfl) (Wd_none rfl) rfl (by decide) ?_
  refine WM_nil ?_
  refine QM_then ?_
  refine CM_seq ?_
  by_cases hl10 : k6 < x0.length
  · have g11 : (decide (((k6 : Nat) : Int) < ((x0.length : Nat) : Int))) = true := decide_eq_true (by omega)
    refine CM_condT rfl g11 ?_
    refine CM_skip ?_
    refine QM_then ?_
    refine CM_seq ?_
    refine CM_block ?_
    refine CM_seq ?_
    refine CM_region ?_
    refine WM_val (fun W hm => rv_move rfl) (Wd_none rfl) rfl (by decide) ?_
    obtain ⟨a12, rfl, hb13, he14⟩ := q4 (by omega)
    refine WM_val (fun W hm => rv_index (sz := 1) (k := k6) Try.underlying32 Try.type3 rfl rfl rfl (by omega)) (Wd_none rfl) rfl (by decide) ?_
    refine WM_val (fun W hm => rv_load Try.underlying3 rfl rfl ((hm.cell0 (show (a12.add (k6 * 1)).block < w.heap.size from by rw [add_block]; exact hb13)).trans (rdS_int he14 k6 (by omega)))) (Wd_none rfl) rfl (by decide) ?_
    refine WM_val (fun W hm => rv_assign rfl) (Wd_none rfl) rfl (by decide) ?_
    refine WM_val (fun W hm => rv_assign rfl) (Wd_none rfl) rfl (by decide) ?_
    refine WM_nil ?_
    refine QM_then ?_
    refine CM_seq ?_
    refine CM_region ?_
    refine WM_val (fun W hm => rv_move rfl) (Wd_none rfl) rfl (by decide) ?_
    refine WM_val (fun W hm => rv_lss rfl rfl) (Wd_none rfl) rfl (by decide) ?_
    refine WM_val (fun W hm => rv_move rfl) (Wd_none rfl) rfl (by decide) ?_
    by_cases h15 : (gt x0 k6) < 0
    · have g16 : (decide ((gt x0 k6) < 0)) = true := decide_eq_true h15
      refine WM_skip (Wd_some rfl rfl rfl (bw g16 rfl)) rfl (by decide) ?_
      refine WM_skip (Wd_some rfl rfl rfl (bw g16 rfl)) rfl (by decide) ?_
      refine WM_val (fun W hm => rv_pickT rfl g16 rfl) (Wd_none rfl) rfl (by decide) ?_
      refine WM_val (fun W hm => rv_move rfl) (Wd_none rfl) rfl (by decide) ?_
      refine WM_skip (Wd_some rfl rfl rfl rfl) rfl (by decide) ?_
      refine WM_skip (Wd_some rfl rfl rfl rfl) rfl (by decide) ?_
      refine WM_skip (Wd_some rfl rfl rfl rfl) rfl (by decide) ?_
      refine WM_skip (Wd_undef rfl rfl rfl) rfl (by decide) ?_
      refine WM_skip (Wd_undef rfl rfl rfl) rfl (by decide) ?_
      refine WM_skip (Wd_undef rfl rfl rfl) rfl (by decide) ?_
      refine WM_skip (Wd_undef rfl rfl rfl) rfl (by decide) ?_
      refine WM_skip (Wd_undef rfl rfl rfl) rfl (by decide) ?_
      refine WM_skip (Wd_undef rfl rfl rfl) rfl (by decide) ?_
      refine WM_skip (Wd_undef rfl rfl rfl) rfl (by decide) ?_
      refine WM_skip (Wd_some rfl rfl rfl rfl) rfl (by decide) ?_
      refine WM_val (fun W hm => rv_pickT rfl rfl rfl) (Wd_none rfl) rfl (by decide) ?_
      refine WM_nil ?_
      refine QM_then ?_
      refine CM_condT rfl rfl ?_
      refine CM_seq ?_
      refine CM_region ?_
      refine WM_val (fun W hm => rv_assign rfl) (Wd_none rfl) rfl (by decide) ?_
      refine WM_nil ?_
      refine QM_then ?_
      refine CM_ret ?_
      refine QM_block_ret ?_
      refine QM_then_ret ?_
      refine QM_then_ret ?_
      refine QM_block_ret ?_
      refine QM_then_ret ?_
      exact QM_ret1 rfl rfl (fun W hm => ⟨ret_b (show impl_IsSet_m x0 = false from by unfold impl_IsSet_m; exact fin_inl (rng_ret (body := (fun k (_ : Unit) => impl_IsSet_b1 x0 k)) (k := k6) (s := ()) (show k6 < x0.length from by omega) (show impl_IsSet_b1 x0 k6 = Sum.inl false from by unfold impl_IsSet_b1; exact cond_t g16 (rfl)) hF8) rfl), hm.below⟩)
    · have g16 : (decide ((gt x0 k6) < 0)) = false := decide_eq_false h15
      refine WM_val (fun W hm => rv_move rfl) (Wd_some rfl rfl rfl (bw g16 rfl)) rfl (by decide) ?_
      refine WM_val (fun W hm => rv_geq rfl rfl) (Wd_some rfl rfl rfl (bw g16 rfl)) rfl (by decide) ?_
      refine WM_val (fun W hm => rv_pickF rfl g16 rfl) (Wd_none rfl) rfl (by decide) ?_
      refine WM_val (fun W hm => rv_move rfl) (Wd_none rfl) rfl (by decide) ?_
      by_cases h17 : 24 ≤ (gt x0 k6)
      · have g18 : (decide (24 ≤ (gt x0 k6))) = true := decide_eq_true h17
        refine WM_skip (Wd_some rfl rfl rfl (bw g18 rfl)) rfl (by decide) ?_
        refine WM_skip (Wd_some rfl rfl rfl (bw g18 rfl)) rfl (by decide) ?_
        refine WM_skip (Wd_some rfl rfl rfl (bw g18 rfl)) rfl (by decide) ?_
        refine WM_skip (Wd_undef rfl rfl rfl) rfl (by decide) ?_
        refine WM_skip (Wd_undef rfl rfl rfl) rfl (by decide) ?_
        refine WM_skip (Wd_undef rfl rfl rfl) rfl (by decide) ?_
        refine WM_skip (Wd_undef rfl rfl rfl) rfl (by decide) ?_
        refine WM_skip (Wd_undef rfl rfl rfl) rfl (by decide) ?_
        refine WM_skip (Wd_undef rfl rfl rfl) rfl (by decide) ?_
        refine WM_skip (Wd_undef rfl rfl rfl) rfl (by decide) ?_
        refine WM_skip (Wd_some rfl rfl rfl (bw g18 rfl)) rfl (by decide) ?_
        refine WM_val (fun W hm => rv_pickT rfl g18 rfl) (Wd_none rfl) rfl (by decide) ?_
        refine WM_nil ?_
        refine QM_then ?_
        refine CM_condT rfl rfl ?_
        refine CM_seq ?_
        refine CM_region ?_
        refine WM_val (fun W hm => rv_assign rfl) (Wd_none rfl) rfl (by decide) ?_
        refine WM_nil ?_
        refine QM_then ?_
        refine CM_ret ?_
        refine QM_block_ret ?_
        refine QM_then_ret ?_
        refine QM_then_ret ?_
        refine QM_block_ret ?_
        refine QM_then_ret ?_
        exact QM_ret1 rfl rfl (fun W hm => ⟨ret_b (show impl_IsSet_m x0 = false from by unfold impl_IsSet_m; exact fin_inl (rng_ret (body := (fun k (_ : Unit) => impl_IsSet_b1 x0 k)) (k := k6) (s := ()) (show k6 < x0.length from by omega) (show impl_IsSet_b1 x0 k6 = Sum.inl false from by unfold impl_IsSet_b1; exact cond_f g16 (cond_t g18 (rfl))) hF8) rfl), hm.below⟩)
      · have g18 : (decide (24 ≤ (gt x0 k6))) = false := decide_eq_false h17
        refine WM_val (fun W hm => rv_move rfl) (Wd_some rfl rfl rfl (bw g18 rfl)) rfl (by decide) ?_
        refine WM_val (fun W hm => rv_gtr rfl rfl) (Wd_some rfl rfl rfl (bw g18 rfl)) rfl (by decide) ?_
        refine WM_val (fun W hm => rv_move rfl) (Wd_some rfl rfl rfl (bw g18 rfl)) rfl (by decide) ?_
        by_cases h19 : 0 < ((k6 : Nat) : Int)
        · have g20 : (decide (0 < ((k6 : Nat) : Int))) = true := decide_eq_true h19
          refine WM_val (fun W hm => rv_move rfl) (Wd_some rfl rfl rfl (bw g20 rfl)) rfl (by decide) ?_
          refine WM_val (fun W hm => rv_move rfl) (Wd_some rfl rfl rfl (bw g20 rfl)) rfl (by decide) ?_
          refine WM_val (fun W hm => rv_subN (p := k6) (q := 1) rfl rfl (by omega) (by omega)) (Wd_some rfl rfl rfl (bw g20 rfl)) rfl (by decide) ?_
          refine WM_val (fun W hm => rv_index (sz := 1) (k := k6 - 1) Try.underlying32 Try.type3 rfl rfl rfl (by omega)) (Wd_some rfl rfl rfl (bw g20 rfl)) rfl (by decide) ?_
          refine WM_val (fun W hm => rv_load Try.underlying3 rfl rfl ((hm.cell0 (show (a12.add ((k6 - 1) * 1)).block < w.heap.size from by rw [add_block]; exact hb13)).trans (rdS_int he14 (k6 - 1) (by omega)))) (Wd_some rfl rfl rfl (bw g20 rfl)) rfl (by decide) ?_
          refine WM_val (fun W hm => rv_move rfl) (Wd_some rfl rfl rfl (bw g20 rfl)) rfl (by decide) ?_
          refine WM_val (fun W hm => rv_geq rfl rfl) (Wd_some rfl rfl rfl (bw g20 rfl)) rfl (by decide) ?_
          refine WM_val (fun W hm => rv_pickT rfl g20 rfl) (Wd_some rfl rfl rfl (bw g18 rfl)) rfl (by decide) ?_
          refine WM_val (fun W hm => rv_pickF rfl g18 rfl) (Wd_none rfl) rfl (by decide) ?_
          refine WM_nil ?_
          refine QM_then ?_
          by_cases h21 : (gt x0 k6) ≤ (gt x0 (k6 - 1))
          · have g22 : (decide ((gt x0 k6) ≤ (gt x0 (k6 - 1)))) = true := decide_eq_true h21
            refine CM_condT rfl g22 ?_
            refine CM_seq ?_
            refine CM_region ?_
            refine WM_val (fun W hm => rv_assign rfl) (Wd_none rfl) rfl (by decide) ?_
            refine WM_nil ?_
            refine QM_then ?_
            refine CM_ret ?_
            refine QM_block_ret ?_
            refine QM_then_ret ?_
            refine QM_then_ret ?_
            refine QM_block_ret ?_
            refine QM_then_ret ?_
            exact QM_ret1 rfl rfl (fun W hm => ⟨ret_b (show impl_IsSet_m x0 = false from by unfold impl_IsSet_m; exact fin_inl (rng_ret (body := (fun k (_ : Unit) => impl_IsSet_b1 x0 k)) (k := k6) (s := ()) (show k6 < x0.length from by omega) (show impl_IsSet_b1 x0 k6 = Sum.inl false from by unfold impl_IsSet_b1; exact cond_f g16 (cond_f g18 (cond_t g20 (cond_t g22 (rfl))))) hF8) rfl), hm.below⟩)
          · have g22 : (decide ((gt x0 k6) ≤ (gt x0 (k6 - 1)))) = false := decide_eq_false h21
            refine CM_condF rfl g22 ?_
            refine CM_skip ?_
            refine QM_block_normal ?_
            refine QM_then ?_
            refine CM_region ?_
            refine WM_val (fun W hm => rv_addN (p := k6) (q := 1) rfl rfl (by omega)) (Wd_none rfl) rfl (by decide) ?_
            refine WM_val (fun W hm => rv_move rfl) (Wd_none rfl) rfl (by decide) ?_
            refine WM_nil ?_
            have hn23 := rng_next (R := Bool) (body := (fun k (_ : Unit) => impl_IsSet_b1 x0 k)) (k := k6) (s := ()) (s' := ()) (show k6 < x0.length from by omega) (show impl_IsSet_b1 x0 k6 = Sum.inr () from by unfold impl_IsSet_b1; exact cond_f g16 (cond_f g18 (cond_t g20 (cond_f g22 (rfl))))) hF8
            exact QM_round (k6 + 1, (), ()) (subL_cons rfl (subL_cons rfl (subL_cons rfl (subL_cons rfl subL_nil)))) (fun W hm => hm) ⟨(by omega), hn23⟩ (show x0.length - (k6 + 1) < x0.length - k6 from by omega)
        · have g20 : (decide (0 < ((k6 : Nat) : Int))) = false := decide_eq_false h19
          refine WM_skip (Wd_some rfl rfl rfl (bw g20 rfl)) rfl (by decide) ?_
          refine WM_skip (Wd_some rfl rfl rfl (bw g20 rfl)) rfl (by decide) ?_
          refine WM_skip (Wd_some rfl rfl rfl (bw g20 rfl)) rfl (by decide) ?_
          refine WM_skip (Wd_some rfl rfl rfl (bw g20 rfl)) rfl (by decide) ?_
          refine WM_skip (Wd_some rfl rfl rfl (bw g20 rfl)) rfl (by decide) ?_
          refine WM_skip (Wd_some rfl rfl rfl (bw g20 rfl)) rfl (by decide) ?_
          refine WM_skip (Wd_some rfl rfl rfl (bw g20 rfl)) rfl (by decide) ?_
          refine WM_val (fun W hm => rv_pickF rfl g20 rfl) (Wd_some rfl rfl rfl (bw g18 rfl)) rfl (by decide) ?_
          refine WM_val (fun W hm => rv_pickF rfl g18 rfl) (Wd_none rfl) rfl (by decide) ?_
          refine WM_nil ?_
          refine QM_then ?_
          refine CM_condF rfl rfl ?_
          refine CM_skip ?_
          refine QM_block_normal ?_
          refine QM_then ?_
          refine CM_region ?_
          refine WM_val (fun W hm => rv_addN (p := k6) (q := 1) rfl rfl (by omega)) (Wd_none rfl) rfl (by decide) ?_
          refine WM_val (fun W hm => rv_move rfl) (Wd_none rfl) rfl (by decide) ?_
          refine WM_nil ?_
          have hn24 := rng_next (R := Bool) (body := (fun k (_ : Unit) => impl_IsSet_b1 x0 k)) (k := k6) (s := ()) (s' := ()) (show k6 < x0.length from by omega) (show impl_IsSet_b1 x0 k6 = Sum.inr () from by unfold impl_IsSet_b1; exact cond_f g16 (cond_f g18 (cond_f g20 (rfl)))) hF8
          exact QM_round (k6 + 1, (), ()) (subL_cons rfl (subL_cons rfl (subL_cons rfl (subL_cons rfl subL_nil)))) (fun W hm => hm) ⟨(by omega), hn24⟩ (show x0.length - (k6 + 1) < x0.length - k6 from by omega)
  · have g11 : (decide (((k6 : Nat) : Int) < ((x0.length : Nat) : Int))) = false := decide_eq_false (by omega)
    refine CM_condF rfl g11 ?_
    refine CM_exit ?_
    refine QM_then_exit ?_
    refine QM_then_exit ?_
    have hE25 : rng (R := Bool) (fun k (_ : Unit) => impl_IsSet_b1 x0 k) (x0.length - 0) 0 () = Sum.inr () := rng_end hl10 hF8
    refine QM_block_hit ?_
    refine QM_then ?_
    refine CM_seq ?_
    refine CM_region ?_
    refine WM_val (fun W hm => rv_assign rfl) (Wd_none rfl) rfl (by decide) ?_
    refine WM_nil ?_
    refine QM_then ?_
    refine CM_ret ?_
    exact QM_ret1 rfl rfl (fun W hm => ⟨ret_b (show impl_IsSet_m x0 = true from by unfold impl_IsSet_m; exact fin_inr hE25 (rfl)), hm.below⟩)

def impl_within_m (x0 : Int) (x1 : Int) (x2 : Int) : Bool :=
  cond (decide (x1 ≤ x0)) (decide (x0 ≤ x2)) false
theorem cb62 : Cb Try.prog 62 := ⟨Try.f62, _, Try.func62, rfl, by decide⟩
set_option maxRecDepth 10000 in
set_option maxHeartbeats 4000000 in
theorem impl_within_c (w : World) (x0 : Int) (x1 : Int) (x2 : Int) :
    Calls Try.prog 62 #[.int .i64 x0, .int .i64 x1, .int .i64 x2] w fun e w' => e = .returned (.bool (impl_within_m x0 x1 x2)) ∧ Below w.heap.size w w' := by
  refine call_enterM (L := [(0, .int .i64 x0), (1, .int .i64 x1), (2, .int .i64 x2)]) (N := 15) Try.func62 rfl rfl (Nat.le_of_ble_eq_true rfl) (argsL_cons rfl (argsL_cons rfl (argsL_cons rfl argsL_nil))) ?_
  refine CM_seq ?_
  refine CM_region ?_
  refine WM_val (fun W hm => rv_assign rfl) (Wd_none rfl) rfl (by decide) ?_
  refine WM_nil ?_
  refine QM_then ?_
  refine CM_seq ?_
  refine CM_region ?_
  refine WM_val (fun W hm => rv_move rfl) (Wd_none rfl) rfl (by decide) ?_
  refine WM_val (fun W hm => rv_move rfl) (Wd_none rfl) rfl (by decide) ?_
  refine WM_val (fun W hm => rv_geq rfl rfl) (Wd_none rfl) rfl (by decide) ?_
  refine WM_val (fun W hm => rv_move rfl) (Wd_none rfl) rfl (by decide) ?_
  by_cases h1 : x1 ≤ x0
  · have g2 : (decide (x1 ≤ x0)) = true := decide_eq_true h1
    refine WM_val (fun W hm => rv_move rfl) (Wd_some rfl rfl rfl (bw g2 rfl)) rfl (by decide) ?_
    refine WM_val (fun W hm => rv_move rfl) (Wd_some rfl rfl rfl (bw g2 rfl)) rfl (by decide) ?_
    refine WM_val (fun W hm => rv_leq rfl rfl) (Wd_some rfl rfl rfl (bw g2 rfl)) rfl (by decide) ?_
    refine WM_val (fun W hm => rv_pickT rfl g2 rfl) (Wd_none rfl) rfl (by decide) ?_
    refine WM_val (fun W hm => rv_assign rfl) (Wd_none rfl) rfl (by decide) ?_
    refine WM_nil ?_
    refine QM_then ?_
    refine CM_ret ?_
    exact QM_ret1 rfl rfl (fun W hm => ⟨ret_b (show impl_within_m x0 x1 x2 = (decide (x0 ≤ x2)) from by unfold impl_within_m; exact cond_t g2 (rfl)), hm.below⟩)
  · have g2 : (decide (x1 ≤ x0)) = false := decide_eq_false h1
    refine WM_skip (Wd_some rfl rfl rfl (bw g2 rfl)) rfl (by decide) ?_
    refine WM_skip (Wd_some rfl rfl rfl (bw g2 rfl)) rfl (by decide) ?_
    refine WM_skip (Wd_some rfl rfl rfl (bw g2 rfl)) rfl (by decide) ?_
    refine WM_val (fun W hm => rv_pickF rfl g2 rfl) (Wd_none rfl) rfl (by decide) ?_
    refine WM_val (fun W hm => rv_assign rfl) (Wd_none rfl) rfl (by decide) ?_
    refine WM_nil ?_
    refine QM_then ?_
    refine CM_ret ?_
    exact QM_ret1 rfl rfl (fun W hm => ⟨ret_b (show impl_within_m x0 x1 x2 = false from by unfold impl_within_m; exact cond_f g2 (rfl)), hm.below⟩)

def impl_IsCharge_b1 (x0 : DCharge) (k31 : Nat) : Bool ⊕ (Unit) :=
  cond (impl_within_m (gt x0.Tenants k31) 0 3) (cond (impl_within_m (gt x0.Rows k31) 0 x0.Base) (Sum.inr ()) (Sum.inl false)) (Sum.inl false)
def impl_IsCharge_m (x0 : DCharge) : Bool :=
  cond (impl_IsSet_m x0.Ids) (cond (impl_within_m ((x0.Ids.length : Nat) : Int) 1 8) (cond (((x0.Tenants.length : Nat) : Int) != ((x0.Ids.length : Nat) : Int)) false (cond (((x0.Rows.length : Nat) : Int) != ((x0.Ids.length : Nat) : Int)) false (Sum.elim id (fun (s : Unit) => cond (impl_within_m x0.Segment 0 7) (impl_within_m x0.Base 0 4) false) (rng (R := Bool) (fun k (_ : Unit) => impl_IsCharge_b1 x0 k) (x0.Ids.length - 0) 0 ())))) false) false
theorem cb27 : Cb Try.prog 27 := ⟨Try.f27, _, Try.func27, rfl, by decide⟩
set_option maxRecDepth 10000 in
set_option maxHeartbeats 4000000 in
theorem impl_IsCharge_c (w : World) (z0 : List Value) (x0 : DCharge) (r_0 : tyCharge.rd w w.heap.size z0 x0) :
    Calls Try.prog 27 #[.agg z0.toArray] w fun e w' => e = .returned (.bool (impl_IsCharge_m x0)) ∧ Below w.heap.size w w' := by
  obtain ⟨v1, v3, v5, rfl, r2, r4, r6⟩ := tyCharge_rd r_0
  have r11 := r2
  obtain ⟨m7, A8, c9, rfl, q10⟩ := r2
  have r16 := r4
  obtain ⟨m12, A13, c14, rfl, q15⟩ := r4
  have r21 := r6
  obtain ⟨m17, A18, c19, rfl, q20⟩ := r6
  refine call_enterM (L := [(0, .agg #[.int .i64 x0.Segment, .int .i64 x0.Base, .slice A8 x0.Ids.length c9, .slice A13 x0.Tenants.length c14, .slice A18 x0.Rows.length c19])]) (N := 64) Try.func27 rfl rfl (Nat.le_of_ble_eq_true rfl) (argsL_cons rfl argsL_nil) ?_
  refine CM_seq ?_
  refine CM_region ?_
  refine WM_box rfl (Wd_none rfl) (by decide) (fun p22 => ?_)
  refine WM_val (fun W hm => rv_assign rfl) (Wd_none rfl) rfl (by decide) ?_
  refine WM_nil ?_
  refine QM_then ?_
  refine CM_seq ?_
  refine CM_region ?_
  refine WM_val (fun W hm => rv_field Try.underlying37 rfl Try.type32 (by decide) rfl rfl) (Wd_none rfl) rfl (by decide) ?_
  refine WM_val (fun W hm => rv_load Try.underlying32 rfl rfl (hm.boxCell (n := 0) (o := 2) rfl rfl)) (Wd_none rfl) rfl (by decide) ?_
  refine WM_val (fun W hm => rv_len Try.underlying32 rfl) (Wd_none rfl) rfl (by decide) ?_
  refine WM_val (fun W hm => rv_assign rfl) (Wd_none rfl) rfl (by decide) ?_
  refine WM_nil ?_
  refine QM_then ?_
  refine CM_seq ?_
  refine CM_seq ?_
  refine CM_region ?_
  refine WM_val (fun W hm => rv_field Try.underlying37 rfl Try.type32 (by decide) rfl rfl) (Wd_none rfl) rfl (by decide) ?_
  refine WM_val (fun W hm => rv_load Try.underlying32 rfl rfl (hm.boxCell (n := 0) (o := 2) rfl rfl)) (Wd_none rfl) rfl (by decide) ?_
  refine WM_callV (cl_fn cb67 rfl) (fun W hm => impl_IsSet_c W _ x0.Ids (hm.rdS0 r11)) (Wd_none rfl) (by decide) ?_
  refine WM_val (fun W hm => rv_not rfl) (Wd_none rfl) rfl (by decide) ?_
  refine WM_val (fun W hm => rv_move rfl) (Wd_none rfl) rfl (by decide) ?_
  rcases Bool.eq_false_or_eq_true (impl_IsSet_m x0.Ids) with g24 | g24
  ·
    refine WM_val (fun W hm => rv_move rfl) (Wd_some rfl rfl rfl (bw (nt g24) rfl)) rfl (by decide) ?_
    refine WM_callV (cl_fn cb62 rfl) (fun W hm => impl_within_c W ((x0.Ids.length : Nat) : Int) 1 8) (Wd_some rfl rfl rfl (bw (nt g24) rfl)) (by decide) ?_
    refine WM_val (fun W hm => rv_not rfl) (Wd_some rfl rfl rfl (bw (nt g24) rfl)) rfl (by decide) ?_
    refine WM_val (fun W hm => rv_pickF rfl (nt g24) rfl) (Wd_none rfl) rfl (by decide) ?_
    refine WM_val (fun W hm => rv_move rfl) (Wd_none rfl) rfl (by decide) ?_
    rcases Bool.eq_false_or_eq_true (impl_within_m ((x0.Ids.length : Nat) : Int) 1 8) with g26 | g26
    ·
      refine WM_val (fun W hm => rv_field Try.underlying37 rfl Try.type32 (by decide) rfl rfl) (Wd_some rfl rfl rfl (bw (nt g26) rfl)) rfl (by decide) ?_
      refine WM_val (fun W hm => rv_load Try.underlying32 rfl rfl (hm.boxCell (n := 0) (o := 3) rfl rfl)) (Wd_some rfl rfl rfl (bw (nt g26) rfl)) rfl (by decide) ?_
      refine WM_val (fun W hm => rv_len Try.underlying32 rfl) (Wd_some rfl rfl rfl (bw (nt g26) rfl)) rfl (by decide) ?_
      refine WM_val (fun W hm => rv_move rfl) (Wd_some rfl rfl rfl (bw (nt g26) rfl)) rfl (by decide) ?_
      refine WM_val (fun W hm => rv_neq rfl rfl) (Wd_some rfl rfl rfl (bw (nt g26) rfl)) rfl (by decide) ?_
      refine WM_val (fun W hm => rv_pickF rfl (nt g26) rfl) (Wd_none rfl) rfl (by decide) ?_
      refine WM_val (fun W hm => rv_move rfl) (Wd_none rfl) rfl (by decide) ?_
      by_cases h27 : ((x0.Tenants.length : Nat) : Int) = ((x0.Ids.length : Nat) : Int)
      · have g28 : (((x0.Tenants.length : Nat) : Int) != ((x0.Ids.length : Nat) : Int)) = false := by rw [h27]; exact bne_self_eq_false _
        refine WM_val (fun W hm => rv_field Try.underlying37 rfl Try.type32 (by decide) rfl rfl) (Wd_some rfl rfl rfl (bw g28 rfl)) rfl (by decide) ?_
        refine WM_val (fun W hm => rv_load Try.underlying32 rfl rfl (hm.boxCell (n := 0) (o := 4) rfl rfl)) (Wd_some rfl rfl rfl (bw g28 rfl)) rfl (by decide) ?_
        refine WM_val (fun W hm => rv_len Try.underlying32 rfl) (Wd_some rfl rfl rfl (bw g28 rfl)) rfl (by decide) ?_
        refine WM_val (fun W hm => rv_move rfl) (Wd_some rfl rfl rfl (bw g28 rfl)) rfl (by decide) ?_
        refine WM_val (fun W hm => rv_neq rfl rfl) (Wd_some rfl rfl rfl (bw g28 rfl)) rfl (by decide) ?_
        refine WM_val (fun W hm => rv_pickF rfl g28 rfl) (Wd_none rfl) rfl (by decide) ?_
        refine WM_nil ?_
        refine QM_then ?_
        by_cases h29 : ((x0.Rows.length : Nat) : Int) = ((x0.Ids.length : Nat) : Int)
        · have g30 : (((x0.Rows.length : Nat) : Int) != ((x0.Ids.length : Nat) : Int)) = false := by rw [h29]; exact bne_self_eq_false _
          refine CM_condF rfl g30 ?_
          refine CM_skip ?_
          refine QM_then ?_
          refine CM_seq ?_
          refine CM_seq ?_
          refine CM_region ?_
          refine WM_val (fun W hm => rv_field Try.underlying37 rfl Try.type32 (by decide) rfl rfl) (Wd_none rfl) rfl (by decide) ?_
          refine WM_val (fun W hm => rv_load Try.underlying32 rfl rfl (hm.boxCell (n := 0) (o := 2) rfl rfl)) (Wd_none rfl) rfl (by decide) ?_
          refine WM_val (fun W hm => rv_len Try.underlying32 rfl) (Wd_none rfl) rfl (by decide) ?_
          refine WM_val (fun W hm => rv_move rfl) (Wd_none rfl) rfl (by decide) ?_
          refine WM_nil ?_
          refine QM_then ?_
          refine CM_block ?_
          refine CM_loop (σ := Nat × (Unit) × (Unit)) (fun s => [(1, .pointer (some (⟨p22, 0, none⟩ : Addr))), (33, .int .i64 ((x0.Ids.length : Nat) : Int)), (34, .int .i64 ((s.1 : Nat) : Int))]) (fun s => [iBox p22 37 [.int .i64 x0.Segment, .int .i64 x0.Base, .slice A8 x0.Ids.length c9, .slice A13 x0.Tenants.length c14, .slice A18 x0.Rows.length c19]]) (fun s => s.1 ≤ x0.Ids.length ∧ rng (R := Bool) (fun k (_ : Unit) => impl_IsCharge_b1 x0 k) (x0.Ids.length - s.1) s.1 s.2.1 = rng (R := Bool) (fun k (_ : Unit) => impl_IsCharge_b1 x0 k) (x0.Ids.length - 0) 0 ()) (fun s => x0.Ids.length - s.1) (0, (), ()) (subL_cons rfl (subL_cons rfl (subL_cons rfl subL_nil))) (fun W hm => hm) ⟨(by omega), rfl⟩ ?_
          rintro ⟨k31, ⟨⟩, ⟨⟩⟩ H34
          obtain ⟨hk32, hF33⟩ : k31 ≤ x0.Ids.length ∧ rng (R := Bool) (fun k (_ : Unit) => impl_IsCharge_b1 x0 k) (x0.Ids.length - k31) k31 () = rng (R := Bool) (fun k (_ : Unit) => impl_IsCharge_b1 x0 k) (x0.Ids.length - 0) 0 () := H34
          show CM Try.prog 64 _ _ _ _ [(1, .pointer (some (⟨p22, 0, none⟩ : Addr))), (33, .int .i64 ((x0.Ids.length : Nat) : Int)), (34, .int .i64 ((k31 : Nat) : Int))] [iBox p22 37 [.int .i64 x0.Segment, .int .i64 x0.Base, .slice A8 x0.Ids.length c9, .slice A13 x0.Tenants.length c14, .slice A18 x0.Rows.length c19]]
          refine CM_seq ?_
          refine CM_region ?_
          refine WM_val (fun W hm => rv_lss rfl rfl) (Wd_none rfl) rfl (by decide) ?_
          refine WM_nil ?_
          refine QM_then ?_
          refine CM_seq ?_
          by_cases hl35 : k31 < x0.Ids.length
          · have g36 : (decide (((k31 : Nat) : Int) < ((x0.Ids.length : Nat) : Int))) = true := decide_eq_true (by omega)
            refine CM_condT rfl g36 ?_
            refine CM_skip ?_
            refine QM_then ?_
            refine CM_seq ?_
            refine CM_block ?_
            refine CM_seq ?_
            refine CM_region ?_
            refine WM_val (fun W hm => rv_move rfl) (Wd_none rfl) rfl (by decide) ?_
            refine WM_val (fun W hm => rv_assign rfl) (Wd_none rfl) rfl (by decide) ?_
            refine WM_nil ?_
            refine QM_then ?_
            refine CM_seq ?_
            refine CM_regionD (by kernel_rfl) (by kernel_rfl) ?_
            refine QR_val (fun W hm => rv_field Try.underlying37 rfl Try.type32 (by decide) rfl rfl) (Wd_none rfl) rfl (by decide) ?_
            refine QR_val (fun W hm => rv_load Try.underlying32 rfl rfl (hm.boxCell (n := 0) (o := 3) rfl rfl)) (Wd_none rfl) rfl (by decide) ?_
            refine QR_val (fun W hm => rv_move rfl) (Wd_none rfl) rfl (by decide) ?_
            obtain ⟨a37, rfl, hb38, he39⟩ := q15 (by omega)
            refine QR_val (fun W hm => rv_index (sz := 1) (k := k31) Try.underlying32 Try.type3 rfl rfl rfl (by omega)) (Wd_none rfl) rfl (by decide) ?_
            refine QR_val (fun W hm => rv_load Try.underlying3 rfl rfl ((hm.cell0 (show (a37.add (k31 * 1)).block < w.heap.size from by rw [add_block]; exact hb38)).trans (rdS_int he39 k31 (by omega)))) (Wd_none rfl) rfl (by decide) ?_
            refine QR_callV (cl_fn cb62 rfl) (fun W hm => impl_within_c W (gt x0.Tenants k31) 0 3) (Wd_none rfl) (by decide) ?_
            refine QR_val (fun W hm => rv_not rfl) (Wd_none rfl) rfl (by decide) ?_
            refine QR_val (fun W hm => rv_move rfl) (Wd_none rfl) rfl (by decide) ?_
            rcases Bool.eq_false_or_eq_true (impl_within_m (gt x0.Tenants k31) 0 3) with g41 | g41
            ·
              refine QR_val (fun W hm => rv_field Try.underlying37 rfl Try.type32 (by decide) rfl rfl) (Wd_some rfl rfl rfl (bw (nt g41) rfl)) rfl (by decide) ?_
              refine QR_val (fun W hm => rv_load Try.underlying32 rfl rfl (hm.boxCell (n := 0) (o := 4) rfl rfl)) (Wd_some rfl rfl rfl (bw (nt g41) rfl)) rfl (by decide) ?_
              refine QR_val (fun W hm => rv_move rfl) (Wd_some rfl rfl rfl (bw (nt g41) rfl)) rfl (by decide) ?_
              obtain ⟨a42, rfl, hb43, he44⟩ := q20 (by omega)
              refine QR_val (fun W hm => rv_index (sz := 1) (k := k31) Try.underlying32 Try.type3 rfl rfl rfl (by omega)) (Wd_some rfl rfl rfl (bw (nt g41) rfl)) rfl (by decide) ?_
              refine QR_val (fun W hm => rv_load Try.underlying3 rfl rfl ((hm.cell0 (show (a42.add (k31 * 1)).block < w.heap.size from by rw [add_block]; exact hb43)).trans (rdS_int he44 k31 (by omega)))) (Wd_some rfl rfl rfl (bw (nt g41) rfl)) rfl (by decide) ?_
              refine QR_val (fun W hm => rv_field Try.underlying37 rfl Try.type3 (by decide) rfl rfl) (Wd_some rfl rfl rfl (bw (nt g41) rfl)) rfl (by decide) ?_
              refine QR_val (fun W hm => rv_load Try.underlying3 rfl rfl (hm.boxCell (n := 0) (o := 1) rfl rfl)) (Wd_some rfl rfl rfl (bw (nt g41) rfl)) rfl (by decide) ?_
              refine QR_callV (cl_fn cb62 rfl) (fun W hm => impl_within_c W (gt x0.Rows k31) 0 x0.Base) (Wd_some rfl rfl rfl (bw (nt g41) rfl)) (by decide) ?_
              refine QR_val (fun W hm => rv_not rfl) (Wd_some rfl rfl rfl (bw (nt g41) rfl)) rfl (by decide) ?_
              refine QR_val (fun W hm => rv_pickF rfl (nt g41) rfl) (Wd_none rfl) rfl (by decide) ?_
              refine QR_nil ?_
              refine QM_then ?_
              rcases Bool.eq_false_or_eq_true (impl_within_m (gt x0.Rows k31) 0 x0.Base) with g46 | g46
              ·
                refine CM_condF rfl (nt g46) ?_
                refine CM_skip ?_
                refine QM_block_normal ?_
                refine QM_then ?_
                refine CM_region ?_
                refine WM_val (fun W hm => rv_addN (p := k31) (q := 1) rfl rfl (by omega)) (Wd_none rfl) rfl (by decide) ?_
                refine WM_val (fun W hm => rv_move rfl) (Wd_none rfl) rfl (by decide) ?_
                refine WM_nil ?_
                have hn47 := rng_next (R := Bool) (body := (fun k (_ : Unit) => impl_IsCharge_b1 x0 k)) (k := k31) (s := ()) (s' := ()) (show k31 < x0.Ids.length from by omega) (show impl_IsCharge_b1 x0 k31 = Sum.inr () from by unfold impl_IsCharge_b1; exact cond_t g41 (cond_t g46 (rfl))) hF33
                exact QM_round (k31 + 1, (), ()) (subL_cons rfl (subL_cons rfl (subL_cons rfl subL_nil))) (fun W hm => (hm.front (n := 0) rfl)) ⟨(by omega), hn47⟩ (show x0.Ids.length - (k31 + 1) < x0.Ids.length - k31 from by omega)
              ·
                refine CM_condT rfl (nf g46) ?_
                refine CM_seq ?_
                refine CM_region ?_
                refine WM_val (fun W hm => rv_assign rfl) (Wd_none rfl) rfl (by decide) ?_
                refine WM_nil ?_
                refine QM_then ?_
                refine CM_ret ?_
                refine QM_block_ret ?_
                refine QM_then_ret ?_
                refine QM_then_ret ?_
                refine QM_block_ret ?_
                refine QM_then_ret ?_
                exact QM_ret1 rfl rfl (fun W hm => ⟨ret_b (show impl_IsCharge_m x0 = false from by unfold impl_IsCharge_m; exact cond_t g24 (cond_t g26 (cond_f g28 (cond_f g30 (fin_inl (rng_ret (body := (fun k (_ : Unit) => impl_IsCharge_b1 x0 k)) (k := k31) (s := ()) (show k31 < x0.Ids.length from by omega) (show impl_IsCharge_b1 x0 k31 = Sum.inl false from by unfold impl_IsCharge_b1; exact cond_t g41 (cond_f g46 (rfl))) hF33) rfl))))), hm.below⟩)
            ·
              refine QR_skip (Wd_some rfl rfl rfl (bw (nf g41) rfl)) rfl (by decide) ?_
              refine QR_skip (Wd_some rfl rfl rfl (bw (nf g41) rfl)) rfl (by decide) ?_
              refine QR_skip (Wd_some rfl rfl rfl (bw (nf g41) rfl)) rfl (by decide) ?_
              refine QR_skip (Wd_some rfl rfl rfl (bw (nf g41) rfl)) rfl (by decide) ?_
              refine QR_skip (Wd_some rfl rfl rfl (bw (nf g41) rfl)) rfl (by decide) ?_
              refine QR_skip (Wd_some rfl rfl rfl (bw (nf g41) rfl)) rfl (by decide) ?_
              refine QR_skip (Wd_some rfl rfl rfl (bw (nf g41) rfl)) rfl (by decide) ?_
              refine QR_skip (Wd_some rfl rfl rfl (bw (nf g41) rfl)) rfl (by decide) ?_
              refine QR_skip (Wd_some rfl rfl rfl (bw (nf g41) rfl)) rfl (by decide) ?_
              refine QR_val (fun W hm => rv_pickT rfl (nf g41) rfl) (Wd_none rfl) rfl (by decide) ?_
              refine QR_nil ?_
              refine QM_then ?_
              refine CM_condT rfl rfl ?_
              refine CM_seq ?_
              refine CM_region ?_
              refine WM_val (fun W hm => rv_assign rfl) (Wd_none rfl) rfl (by decide) ?_
              refine WM_nil ?_
              refine QM_then ?_
              refine CM_ret ?_
              refine QM_block_ret ?_
              refine QM_then_ret ?_
              refine QM_then_ret ?_
              refine QM_block_ret ?_
              refine QM_then_ret ?_
              exact QM_ret1 rfl rfl (fun W hm => ⟨ret_b (show impl_IsCharge_m x0 = false from by unfold impl_IsCharge_m; exact cond_t g24 (cond_t g26 (cond_f g28 (cond_f g30 (fin_inl (rng_ret (body := (fun k (_ : Unit) => impl_IsCharge_b1 x0 k)) (k := k31) (s := ()) (show k31 < x0.Ids.length from by omega) (show impl_IsCharge_b1 x0 k31 = Sum.inl false from by unfold impl_IsCharge_b1; exact cond_f g41 (rfl)) hF33) rfl))))), hm.below⟩)
          · have g36 : (decide (((k31 : Nat) : Int) < ((x0.Ids.length : Nat) : Int))) = false := decide_eq_false (by omega)
            refine CM_condF rfl g36 ?_
            refine CM_exit ?_
            refine QM_then_exit ?_
            refine QM_then_exit ?_
            have hE48 : rng (R := Bool) (fun k (_ : Unit) => impl_IsCharge_b1 x0 k) (x0.Ids.length - 0) 0 () = Sum.inr () := rng_end hl35 hF33
            refine QM_block_hit ?_
            refine QM_then ?_
            refine CM_seq ?_
            refine CM_region ?_
            refine WM_val (fun W hm => rv_field Try.underlying37 rfl Try.type3 (by decide) rfl rfl) (Wd_none rfl) rfl (by decide) ?_
            refine WM_val (fun W hm => rv_load Try.underlying3 rfl rfl (hm.boxCell (n := 0) (o := 0) rfl rfl)) (Wd_none rfl) rfl (by decide) ?_
            refine WM_callV (cl_fn cb62 rfl) (fun W hm => impl_within_c W x0.Segment 0 7) (Wd_none rfl) (by decide) ?_
            refine WM_val (fun W hm => rv_move rfl) (Wd_none rfl) rfl (by decide) ?_
            rcases Bool.eq_false_or_eq_true (impl_within_m x0.Segment 0 7) with g50 | g50
            ·
              refine WM_val (fun W hm => rv_field Try.underlying37 rfl Try.type3 (by decide) rfl rfl) (Wd_some rfl rfl rfl (bw g50 rfl)) rfl (by decide) ?_
              refine WM_val (fun W hm => rv_load Try.underlying3 rfl rfl (hm.boxCell (n := 0) (o := 1) rfl rfl)) (Wd_some rfl rfl rfl (bw g50 rfl)) rfl (by decide) ?_
              refine WM_callV (cl_fn cb62 rfl) (fun W hm => impl_within_c W x0.Base 0 4) (Wd_some rfl rfl rfl (bw g50 rfl)) (by decide) ?_
              refine WM_val (fun W hm => rv_pickT rfl g50 rfl) (Wd_none rfl) rfl (by decide) ?_
              refine WM_val (fun W hm => rv_assign rfl) (Wd_none rfl) rfl (by decide) ?_
              refine WM_nil ?_
              refine QM_then ?_
              refine CM_ret ?_
              exact QM_ret1 rfl rfl (fun W hm => ⟨ret_b (show impl_IsCharge_m x0 = (impl_within_m x0.Base 0 4) from by unfold impl_IsCharge_m; exact cond_t g24 (cond_t g26 (cond_f g28 (cond_f g30 (fin_inr hE48 (cond_t g50 (rfl))))))), hm.below⟩)
            ·
              refine WM_skip (Wd_some rfl rfl rfl (bw g50 rfl)) rfl (by decide) ?_
              refine WM_skip (Wd_some rfl rfl rfl (bw g50 rfl)) rfl (by decide) ?_
              refine WM_skip (Wd_some rfl rfl rfl (bw g50 rfl)) rfl (by decide) ?_
              refine WM_val (fun W hm => rv_pickF rfl g50 rfl) (Wd_none rfl) rfl (by decide) ?_
              refine WM_val (fun W hm => rv_assign rfl) (Wd_none rfl) rfl (by decide) ?_
              refine WM_nil ?_
              refine QM_then ?_
              refine CM_ret ?_
              exact QM_ret1 rfl rfl (fun W hm => ⟨ret_b (show impl_IsCharge_m x0 = false from by unfold impl_IsCharge_m; exact cond_t g24 (cond_t g26 (cond_f g28 (cond_f g30 (fin_inr hE48 (cond_f g50 (rfl))))))), hm.below⟩)
        · have g30 : (((x0.Rows.length : Nat) : Int) != ((x0.Ids.length : Nat) : Int)) = true := bne_iff_ne.2 h29
          refine CM_condT rfl g30 ?_
          refine CM_seq ?_
          refine CM_region ?_
          refine WM_val (fun W hm => rv_assign rfl) (Wd_none rfl) rfl (by decide) ?_
          refine WM_nil ?_
          refine QM_then ?_
          refine CM_ret ?_
          refine QM_then_ret ?_
          exact QM_ret1 rfl rfl (fun W hm => ⟨ret_b (show impl_IsCharge_m x0 = false from by unfold impl_IsCharge_m; exact cond_t g24 (cond_t g26 (cond_f g28 (cond_t g30 (rfl))))), hm.below⟩)
      · have g28 : (((x0.Tenants.length : Nat) : Int) != ((x0.Ids.length : Nat) : Int)) = true := bne_iff_ne.2 h27
        refine WM_skip (Wd_some rfl rfl rfl (bw g28 rfl)) rfl (by decide) ?_
        refine WM_skip (Wd_some rfl rfl rfl (bw g28 rfl)) rfl (by decide) ?_
        refine WM_skip (Wd_some rfl rfl rfl (bw g28 rfl)) rfl (by decide) ?_
        refine WM_skip (Wd_some rfl rfl rfl (bw g28 rfl)) rfl (by decide) ?_
        refine WM_skip (Wd_some rfl rfl rfl (bw g28 rfl)) rfl (by decide) ?_
        refine WM_val (fun W hm => rv_pickT rfl g28 rfl) (Wd_none rfl) rfl (by decide) ?_
        refine WM_nil ?_
        refine QM_then ?_
        refine CM_condT rfl rfl ?_
        refine CM_seq ?_
        refine CM_region ?_
        refine WM_val (fun W hm => rv_assign rfl) (Wd_none rfl) rfl (by decide) ?_
        refine WM_nil ?_
        refine QM_then ?_
        refine CM_ret ?_
        refine QM_then_ret ?_
        exact QM_ret1 rfl rfl (fun W hm => ⟨ret_b (show impl_IsCharge_m x0 = false from by unfold impl_IsCharge_m; exact cond_t g24 (cond_t g26 (cond_t g28 (rfl)))), hm.below⟩)
    ·
      refine WM_skip (Wd_some rfl rfl rfl (bw (nf g26) rfl)) rfl (by decide) ?_
      refine WM_skip (Wd_some rfl rfl rfl (bw (nf g26) rfl)) rfl (by decide) ?_
      refine WM_skip (Wd_some rfl rfl rfl (bw (nf g26) rfl)) rfl (by decide) ?_
      refine WM_skip (Wd_some rfl rfl rfl (bw (nf g26) rfl)) rfl (by decide) ?_
      refine WM_skip (Wd_some rfl rfl rfl (bw (nf g26) rfl)) rfl (by decide) ?_
      refine WM_val (fun W hm => rv_pickT rfl (nf g26) rfl) (Wd_none rfl) rfl (by decide) ?_
      refine WM_val (fun W hm => rv_move rfl) (Wd_none rfl) rfl (by decide) ?_
      refine WM_skip (Wd_some rfl rfl rfl rfl) rfl (by decide) ?_
      refine WM_skip (Wd_some rfl rfl rfl rfl) rfl (by decide) ?_
      refine WM_skip (Wd_some rfl rfl rfl rfl) rfl (by decide) ?_
      refine WM_skip (Wd_some rfl rfl rfl rfl) rfl (by decide) ?_
      refine WM_skip (Wd_some rfl rfl rfl rfl) rfl (by decide) ?_
      refine WM_val (fun W hm => rv_pickT rfl rfl rfl) (Wd_none rfl) rfl (by decide) ?_
      refine WM_nil ?_
      refine QM_then ?_
      refine CM_condT rfl rfl ?_
      refine CM_seq ?_
      refine CM_region ?_
      refine WM_val (fun W hm => rv_assign rfl) (Wd_none rfl) rfl (by decide) ?_
      refine WM_nil ?_
      refine QM_then ?_
      refine CM_ret ?_
      refine QM_then_ret ?_
      exact QM_ret1 rfl rfl (fun W hm => ⟨ret_b (show impl_IsCharge_m x0 = false from by unfold impl_IsCharge_m; exact cond_t g24 (cond_f g26 (rfl))), hm.below⟩)
  ·
    refine WM_skip (Wd_some rfl rfl rfl (bw (nf g24) rfl)) rfl (by decide) ?_
    refine WM_skip (Wd_some rfl rfl rfl (bw (nf g24) rfl)) rfl (by decide) ?_
    refine WM_skip (Wd_some rfl rfl rfl (bw (nf g24) rfl)) rfl (by decide) ?_
    refine WM_val (fun W hm => rv_pickT rfl (nf g24) rfl) (Wd_none rfl) rfl (by decide) ?_
    refine WM_val (fun W hm => rv_move rfl) (Wd_none rfl) rfl (by decide) ?_
    refine WM_skip (Wd_some rfl rfl rfl rfl) rfl (by decide) ?_
    refine WM_skip (Wd_some rfl rfl rfl rfl) rfl (by decide) ?_
    refine WM_skip (Wd_some rfl rfl rfl rfl) rfl (by decide) ?_
    refine WM_skip (Wd_some rfl rfl rfl rfl) rfl (by decide) ?_
    refine WM_skip (Wd_some rfl rfl rfl rfl) rfl (by decide) ?_
    refine WM_val (fun W hm => rv_pickT rfl rfl rfl) (Wd_none rfl) rfl (by decide) ?_
    refine WM_val (fun W hm => rv_move rfl) (Wd_none rfl) rfl (by decide) ?_
    refine WM_skip (Wd_some rfl rfl rfl rfl) rfl (by decide) ?_
    refine WM_skip (Wd_some rfl rfl rfl rfl) rfl (by decide) ?_
    refine WM_skip (Wd_some rfl rfl rfl rfl) rfl (by decide) ?_
    refine WM_skip (Wd_some rfl rfl rfl rfl) rfl (by decide) ?_
    refine WM_skip (Wd_some rfl rfl rfl rfl) rfl (by decide) ?_
    refine WM_val (fun W hm => rv_pickT rfl rfl rfl) (Wd_none rfl) rfl (by decide) ?_
    refine WM_nil ?_
    refine QM_then ?_
    refine CM_condT rfl rfl ?_
    refine CM_seq ?_
    refine CM_region ?_
    refine WM_val (fun W hm => rv_assign rfl) (Wd_none rfl) rfl (by decide) ?_
    refine WM_nil ?_
    refine QM_then ?_
    refine CM_ret ?_
    refine QM_then_ret ?_
    exact QM_ret1 rfl rfl (fun W hm => ⟨ret_b (show impl_IsCharge_m x0 = false from by unfold impl_IsCharge_m; exact cond_f g24 (rfl)), hm.below⟩)

theorem impl_IsCharge_fact {x : DCharge} (h : impl_IsCharge_m x = true) : 1 ≤ x.Ids.length ∧ x.Tenants.length = x.Ids.length ∧ x.Rows.length = x.Ids.length := by
  unfold impl_IsCharge_m impl_within_m at h
  cases h1 : impl_IsSet_m x.Ids <;> rw [h1] at h
  · cases h
  by_cases h2 : 1 ≤ ((x.Ids.length : Nat) : Int)
  · by_cases h3 : ((x.Tenants.length : Nat) : Int) = ((x.Ids.length : Nat) : Int)
    · by_cases h4 : ((x.Rows.length : Nat) : Int) = ((x.Ids.length : Nat) : Int)
      · omega
      · rw [bne_iff_ne.2 h4] at h
        revert h
        cases decide (1 ≤ ((x.Ids.length : Nat) : Int)) <;> cases decide (((x.Ids.length : Nat) : Int) ≤ 8) <;> cases (((x.Tenants.length : Nat) : Int) != ((x.Ids.length : Nat) : Int)) <;> intro h <;> cases h
    · rw [bne_iff_ne.2 h3] at h
      revert h
      cases decide (1 ≤ ((x.Ids.length : Nat) : Int)) <;> cases decide (((x.Ids.length : Nat) : Int) ≤ 8) <;> intro h <;> cases h
  · rw [decide_eq_false h2] at h
    cases h

def impl_SharesOf_b1 (x0 : DCharge) (k30 : Nat) (d31 : (List Int)) : (List Int) ⊕ ((List Int)) :=
  cond (decide (((k30 : Nat) : Int) < (Int.tmod x0.Base ((x0.Ids.length : Nat) : Int)))) (Sum.inr (d31 ++ [(IntKind.i64.wrap ((IntKind.i64.wrap ((gt x0.Rows k30) + (IntKind.i64.wrap (Int.tdiv x0.Base ((x0.Ids.length : Nat) : Int))))) + 1))])) (Sum.inr (d31 ++ [(IntKind.i64.wrap ((gt x0.Rows k30) + (IntKind.i64.wrap (Int.tdiv x0.Base ((x0.Ids.length : Nat) : Int)))))]))
def impl_SharesOf_m (x0 : DCharge) : (List Int) :=
  cond (impl_IsCharge_m x0) (Sum.elim id (fun (s : (List Int)) => s) (rng (R := (List Int)) (fun k (s : (List Int)) => impl_SharesOf_b1 x0 k s) (x0.Rows.length - 0) 0 [])) []
theorem cb44 : Cb Try.prog 44 := ⟨Try.f44, _, Try.func44, rfl, by decide⟩
set_option maxRecDepth 10000 in
set_option maxHeartbeats 4000000 in
theorem impl_SharesOf_c (w : World) (z0 : List Value) (x0 : DCharge) (r_0 : tyCharge.rd w w.heap.size z0 x0) (s_0 : smCharge 68719476736 x0) :
    Calls Try.prog 44 #[.agg z0.toArray] w fun e w' => ∃ v : Value, e = .returned (v) ∧ Mem w.heap.size w [iOwn (tSl tInt 3) [v] (impl_SharesOf_m x0)] w' := by
  obtain ⟨v1, v3, v5, rfl, r2, r4, r6⟩ := tyCharge_rd r_0
  have r11 := r2
  obtain ⟨m7, A8, c9, rfl, q10⟩ := r2
  have r16 := r4
  obtain ⟨m12, A13, c14, rfl, q15⟩ := r4
  have r21 := r6
  obtain ⟨m17, A18, c19, rfl, q20⟩ := r6
  have l22 : x0.Ids.length ≤ 68719476736 := s_0.1
  have l23 : x0.Tenants.length ≤ 68719476736 := s_0.2.1
  have l24 : x0.Rows.length ≤ 68719476736 := s_0.2.2
  refine call_enterM (L := [(0, .agg #[.int .i64 x0.Segment, .int .i64 x0.Base, .slice A8 x0.Ids.length c9, .slice A13 x0.Tenants.length c14, .slice A18 x0.Rows.length c19])]) (N := 44) Try.func44 rfl rfl (Nat.le_of_ble_eq_true rfl) (argsL_cons rfl argsL_nil) ?_
  refine CM_seq ?_
  refine CM_region ?_
  refine WM_box rfl (Wd_none rfl) (by decide) (fun p25 => ?_)
  refine WM_val (fun W hm => rv_assign rfl) (Wd_none rfl) rfl (by decide) ?_
  refine WM_nil ?_
  refine QM_then ?_
  refine CM_seq ?_
  refine CM_region ?_
  refine WM_build0 (E := tInt) Try.underlying32 Try.type3 (Wd_none rfl) (by decide) (fun p26 => ?_)
  refine WM_val (fun W hm => rv_assign rfl) (Wd_none rfl) rfl (by decide) ?_
  refine WM_nil ?_
  refine QM_then ?_
  refine CM_seq ?_
  refine CM_seq ?_
  refine CM_region ?_
  refine WM_val (fun W hm => rv_loadN (cs := [.int .i64 x0.Segment, .int .i64 x0.Base, .slice A8 x0.Ids.length c9, .slice A13 x0.Tenants.length c14, .slice A18 x0.Rows.length c19]) Try.underlying37 Try.type37 rfl rfl (hm.boxCells (n := 1) rfl)) (Wd_none rfl) rfl (by decide) ?_
  refine WM_callV (cl_fn cb27 rfl) (fun W hm => impl_IsCharge_c W _ x0 (tyCharge_mk (hm.rdS0 r11) (hm.rdS0 r16) (hm.rdS0 r21))) (Wd_none rfl) (by decide) ?_
  refine WM_val (fun W hm => rv_not rfl) (Wd_none rfl) rfl (by decide) ?_
  refine WM_nil ?_
  refine QM_then ?_
  rcases Bool.eq_false_or_eq_true (impl_IsCharge_m x0) with g29 | g29
  ·
    obtain ⟨hq1, hq2, hq3⟩ := impl_IsCharge_fact g29
    refine CM_condF rfl (nt g29) ?_
    refine CM_skip ?_
    refine QM_then ?_
    refine CM_seq ?_
    refine CM_region ?_
    refine WM_val (fun W hm => rv_field Try.underlying37 rfl Try.type32 (by decide) rfl rfl) (Wd_none rfl) rfl (by decide) ?_
    refine WM_val (fun W hm => rv_load Try.underlying32 rfl rfl (hm.boxCell (n := 1) (o := 2) rfl rfl)) (Wd_none rfl) rfl (by decide) ?_
    refine WM_val (fun W hm => rv_len Try.underlying32 rfl) (Wd_none rfl) rfl (by decide) ?_
    refine WM_val (fun W hm => rv_assign rfl) (Wd_none rfl) rfl (by decide) ?_
    refine WM_nil ?_
    refine QM_then ?_
    refine CM_seq ?_
    refine CM_seq ?_
    refine CM_region ?_
    refine WM_val (fun W hm => rv_field Try.underlying37 rfl Try.type32 (by decide) rfl rfl) (Wd_none rfl) rfl (by decide) ?_
    refine WM_val (fun W hm => rv_load Try.underlying32 rfl rfl (hm.boxCell (n := 1) (o := 4) rfl rfl)) (Wd_none rfl) rfl (by decide) ?_
    refine WM_val (fun W hm => rv_len Try.underlying32 rfl) (Wd_none rfl) rfl (by decide) ?_
    refine WM_val (fun W hm => rv_move rfl) (Wd_none rfl) rfl (by decide) ?_
    refine WM_nil ?_
    refine QM_then ?_
    refine CM_block ?_
    refine CM_loop (σ := Nat × ((List Int)) × (Option Addr × Nat)) (fun s => [(1, .pointer (some (⟨p25, 0, none⟩ : Addr))), (3, .slice s.2.2.1 s.2.1.length s.2.2.2), (4, .int .i64 ((x0.Ids.length : Nat) : Int)), (17, .slice A18 x0.Rows.length c19), (18, .int .i64 ((x0.Rows.length : Nat) : Int)), (19, .int .i64 ((s.1 : Nat) : Int))]) (fun s => [iOwn (tSl tInt 3) [.slice s.2.2.1 s.2.1.length s.2.2.2] s.2.1, iBox p25 37 [.int .i64 x0.Segment, .int .i64 x0.Base, .slice A8 x0.Ids.length c9, .slice A13 x0.Tenants.length c14, .slice A18 x0.Rows.length c19]]) (fun s => s.1 ≤ x0.Rows.length ∧ rng (R := (List Int)) (fun k (s : (List Int)) => impl_SharesOf_b1 x0 k s) (x0.Rows.length - s.1) s.1 s.2.1 = rng (R := (List Int)) (fun k (s : (List Int)) => impl_SharesOf_b1 x0 k s) (x0.Rows.length - 0) 0 [] ∧ s.2.1.length ≤ 0 + s.1) (fun s => x0.Rows.length - s.1) (0, [], ((some ⟨p26, 0, none⟩), 0)) (subL_cons rfl (subL_cons rfl (subL_cons rfl (subL_cons rfl (subL_cons rfl (subL_cons rfl subL_nil)))))) (fun W hm => hm) ⟨(by omega), rfl, Nat.le_refl _⟩ ?_
    rintro ⟨k30, d31, ⟨A32, c33⟩⟩ H36
    obtain ⟨hk34, hF35, hi37⟩ : k30 ≤ x0.Rows.length ∧ rng (R := (List Int)) (fun k (s : (List Int)) => impl_SharesOf_b1 x0 k s) (x0.Rows.length - k30) k30 d31 = rng (R := (List Int)) (fun k (s : (List Int)) => impl_SharesOf_b1 x0 k s) (x0.Rows.length - 0) 0 [] ∧ d31.length ≤ 0 + k30 := H36
    show CM Try.prog 44 _ _ _ _ [(1, .pointer (some (⟨p25, 0, none⟩ : Addr))), (3, .slice A32 d31.length c33), (4, .int .i64 ((x0.Ids.length : Nat) : Int)), (17, .slice A18 x0.Rows.length c19), (18, .int .i64 ((x0.Rows.length : Nat) : Int)), (19, .int .i64 ((k30 : Nat) : Int))] [iOwn (tSl tInt 3) [.slice A32 d31.length c33] d31, iBox p25 37 [.int .i64 x0.Segment, .int .i64 x0.Base, .slice A8 x0.Ids.length c9, .slice A13 x0.Tenants.length c14, .slice A18 x0.Rows.length c19]]
    refine CM_seq ?_
    refine CM_region ?_
    refine WM_val (fun W hm => rv_lss rfl rfl) (Wd_none rfl) rfl (by decide) ?_
    refine WM_nil ?_
    refine QM_then ?_
    refine CM_seq ?_
    by_cases hl38 : k30 < x0.Rows.length
    · have g39 : (decide (((k30 : Nat) : Int) < ((x0.Rows.length : Nat) : Int))) = true := decide_eq_true (by omega)
      refine CM_condT rfl g39 ?_
      refine CM_skip ?_
      refine QM_then ?_
      refine CM_seq ?_
      refine CM_block ?_
      refine CM_seq ?_
      refine CM_region ?_
      refine WM_val (fun W hm => rv_move rfl) (Wd_none rfl) rfl (by decide) ?_
      obtain ⟨a40, rfl, hb41, he42⟩ := q20 (by omega)
      refine WM_val (fun W hm => rv_index (sz := 1) (k := k30) Try.underlying32 Try.type3 rfl rfl rfl (by omega)) (Wd_none rfl) rfl (by decide) ?_
      refine WM_val (fun W hm => rv_load Try.underlying3 rfl rfl ((hm.cell0 (show (a40.add (k30 * 1)).block < w.heap.size from by rw [add_block]; exact hb41)).trans (rdS_int he42 k30 (by omega)))) (Wd_none rfl) rfl (by decide) ?_
      refine WM_val (fun W hm => rv_assign rfl) (Wd_none rfl) rfl (by decide) ?_
      refine WM_val (fun W hm => rv_assign rfl) (Wd_none rfl) rfl (by decide) ?_
      refine WM_nil ?_
      refine QM_then ?_
      refine CM_seq ?_
      refine CM_region ?_
      refine WM_val (fun W hm => rv_move rfl) (Wd_none rfl) rfl (by decide) ?_
      refine WM_val (fun W hm => rv_field Try.underlying37 rfl Try.type3 (by decide) rfl rfl) (Wd_none rfl) rfl (by decide) ?_
      refine WM_val (fun W hm => rv_load Try.underlying3 rfl rfl (hm.boxCell (n := 1) (o := 1) rfl rfl)) (Wd_none rfl) rfl (by decide) ?_
      refine WM_val (fun W hm => rv_move rfl) (Wd_none rfl) rfl (by decide) ?_
      refine WM_val (fun W hm => rv_quo rfl rfl (by omega)) (Wd_none rfl) rfl (by decide) ?_
      refine WM_val (fun W hm => rv_add rfl rfl) (Wd_none rfl) rfl (by decide) ?_
      refine WM_val (fun W hm => rv_assign rfl) (Wd_none rfl) rfl (by decide) ?_
      refine WM_nil ?_
      refine QM_then ?_
      refine CM_seq ?_
      refine CM_seq ?_
      refine CM_region ?_
      refine WM_val (fun W hm => rv_move rfl) (Wd_none rfl) rfl (by decide) ?_
      refine WM_val (fun W hm => rv_field Try.underlying37 rfl Try.type3 (by decide) rfl rfl) (Wd_none rfl) rfl (by decide) ?_
      refine WM_val (fun W hm => rv_load Try.underlying3 rfl rfl (hm.boxCell (n := 1) (o := 1) rfl rfl)) (Wd_none rfl) rfl (by decide) ?_
      refine WM_val (fun W hm => rv_move rfl) (Wd_none rfl) rfl (by decide) ?_
      refine WM_val (fun W hm => rv_rem rfl rfl (by omega)) (Wd_none rfl) rfl (by decide) ?_
      refine WM_val (fun W hm => rv_lss rfl rfl) (Wd_none rfl) rfl (by decide) ?_
      refine WM_nil ?_
      refine QM_then ?_
      by_cases h43 : ((k30 : Nat) : Int) < (Int.tmod x0.Base ((x0.Ids.length : Nat) : Int))
      · have g44 : (decide (((k30 : Nat) : Int) < (Int.tmod x0.Base ((x0.Ids.length : Nat) : Int)))) = true := decide_eq_true h43
        refine CM_condT rfl g44 ?_
        refine CM_region ?_
        refine WM_val (fun W hm => rv_move rfl) (Wd_none rfl) rfl (by decide) ?_
        refine WM_val (fun W hm => rv_add rfl rfl) (Wd_none rfl) rfl (by decide) ?_
        refine WM_val (fun W hm => rv_assign rfl) (Wd_none rfl) rfl (by decide) ?_
        refine WM_nil ?_
        refine QM_then ?_
        refine CM_region ?_
        refine WM_val (fun W hm => rv_move rfl) (Wd_none rfl) rfl (by decide) ?_
        refine WM_val (fun W hm => rv_move rfl) (Wd_none rfl) rfl (by decide) ?_
        refine WM_build (cs := [.int .i64 (IntKind.i64.wrap ((IntKind.i64.wrap ((gt x0.Rows k30) + (IntKind.i64.wrap (Int.tdiv x0.Base ((x0.Ids.length : Nat) : Int))))) + 1))]) Try.underlying32 Try.type3 rfl (by decide) (by decide) rfl (by kernel_rfl) (Wd_none rfl) (by decide) (fun p45 => ?_)
        refine WM_append (E := tInt) (e := 3) (v := .slice A32 d31.length c33) (p := p45) (q := 1) (xs := d31) (ys := [(IntKind.i64.wrap ((IntKind.i64.wrap ((gt x0.Rows k30) + (IntKind.i64.wrap (Int.tdiv x0.Base ((x0.Ids.length : Nat) : Int))))) + 1))]) (eis := []) (js := [iBox p25 37 [.int .i64 x0.Segment, .int .i64 x0.Base, .slice A8 x0.Ids.length c9, .slice A13 x0.Tenants.length c14, .slice (some a40) x0.Rows.length c19]]) (news := [.int .i64 (IntKind.i64.wrap ((IntKind.i64.wrap ((gt x0.Rows k30) + (IntKind.i64.wrap (Int.tdiv x0.Base ((x0.Ids.length : Nat) : Int))))) + 1))]) (fun W hm => ((hm.front (n := 1) rfl).front (n := 1) rfl)) (fun _ _ hs => by cases (Sep.nil hs); exact (els_cons tInt_own els_nil)) Try.underlying32 Try.type3 rfl rfl rfl (by decide) rfl rfl rfl (show (d31.length + 1) * 8 ≤ 140737488355328 from by omega) (show d31.length + 1 ≤ 9223372036854775807 from by omega) (Wd_none rfl) (by decide) (fun v46 => ?_)
        refine WM_form (n := 0) rfl ?_
        rintro A47 c48 rfl m49
        refine WM_val (fun W hm => rv_assign rfl) (Wd_none rfl) rfl (by decide) ?_
        refine WM_nil ?_
        refine QM_block_normal ?_
        refine QM_then ?_
        refine CM_region ?_
        refine WM_val (fun W hm => rv_addN (p := k30) (q := 1) rfl rfl (by omega)) (Wd_none rfl) rfl (by decide) ?_
        refine WM_val (fun W hm => rv_move rfl) (Wd_none rfl) rfl (by decide) ?_
        refine WM_nil ?_
        have hn51 := rng_next (R := (List Int)) (body := (fun k (s : (List Int)) => impl_SharesOf_b1 x0 k s)) (k := k30) (s := d31) (s' := (d31 ++ [(IntKind.i64.wrap ((IntKind.i64.wrap ((gt x0.Rows k30) + (IntKind.i64.wrap (Int.tdiv x0.Base ((x0.Ids.length : Nat) : Int))))) + 1))])) (show k30 < x0.Rows.length from by omega) (show impl_SharesOf_b1 x0 k30 d31 = Sum.inr (d31 ++ [(IntKind.i64.wrap ((IntKind.i64.wrap ((gt x0.Rows k30) + (IntKind.i64.wrap (Int.tdiv x0.Base ((x0.Ids.length : Nat) : Int))))) + 1))]) from by unfold impl_SharesOf_b1; exact cond_t g44 (rfl)) hF35
        exact QM_round (k30 + 1, (d31 ++ [(IntKind.i64.wrap ((IntKind.i64.wrap ((gt x0.Rows k30) + (IntKind.i64.wrap (Int.tdiv x0.Base ((x0.Ids.length : Nat) : Int))))) + 1))]), (A47, c48)) (subL_cons rfl (subL_cons rfl (subL_cons rfl (subL_cons rfl (subL_cons rfl (subL_cons rfl subL_nil)))))) (fun W hm => ((hm.front (n := 1) rfl).front (n := 1) rfl)) ⟨(by omega), hn51, (show (d31 ++ [(IntKind.i64.wrap ((IntKind.i64.wrap ((gt x0.Rows k30) + (IntKind.i64.wrap (Int.tdiv x0.Base ((x0.Ids.length : Nat) : Int))))) + 1))]).length ≤ 0 + (k30 + 1) from by first | omega | (simp only [List.length_append, List.length_cons, List.length_nil] at *; omega))⟩ (show x0.Rows.length - (k30 + 1) < x0.Rows.length - k30 from by omega)
      · have g44 : (decide (((k30 : Nat) : Int) < (Int.tmod x0.Base ((x0.Ids.length : Nat) : Int)))) = false := decide_eq_false h43
        refine CM_condF rfl g44 ?_
        refine CM_skip ?_
        refine QM_then ?_
        refine CM_region ?_
        refine WM_val (fun W hm => rv_move rfl) (Wd_none rfl) rfl (by decide) ?_
        refine WM_val (fun W hm => rv_move rfl) (Wd_none rfl) rfl (by decide) ?_
        refine WM_build (cs := [.int .i64 (IntKind.i64.wrap ((gt x0.Rows k30) + (IntKind.i64.wrap (Int.tdiv x0.Base ((x0.Ids.length : Nat) : Int)))))]) Try.underlying32 Try.type3 rfl (by decide) (by decide) rfl (by kernel_rfl) (Wd_none rfl) (by decide) (fun p52 => ?_)
        refine WM_append (E := tInt) (e := 3) (v := .slice A32 d31.length c33) (p := p52) (q := 1) (xs := d31) (ys := [(IntKind.i64.wrap ((gt x0.Rows k30) + (IntKind.i64.wrap (Int.tdiv x0.Base ((x0.Ids.length : Nat) : Int)))))]) (eis := []) (js := [iBox p25 37 [.int .i64 x0.Segment, .int .i64 x0.Base, .slice A8 x0.Ids.length c9, .slice A13 x0.Tenants.length c14, .slice (some a40) x0.Rows.length c19]]) (news := [.int .i64 (IntKind.i64.wrap ((gt x0.Rows k30) + (IntKind.i64.wrap (Int.tdiv x0.Base ((x0.Ids.length : Nat) : Int)))))]) (fun W hm => ((hm.front (n := 1) rfl).front (n := 1) rfl)) (fun _ _ hs => by cases (Sep.nil hs); exact (els_cons tInt_own els_nil)) Try.underlying32 Try.type3 rfl rfl rfl (by decide) rfl rfl rfl (show (d31.length + 1) * 8 ≤ 140737488355328 from by omega) (show d31.length + 1 ≤ 9223372036854775807 from by omega) (Wd_none rfl) (by decide) (fun v53 => ?_)
        refine WM_form (n := 0) rfl ?_
        rintro A54 c55 rfl m56
        refine WM_val (fun W hm => rv_assign rfl) (Wd_none rfl) rfl (by decide) ?_
        refine WM_nil ?_
        refine QM_block_normal ?_
        refine QM_then ?_
        refine CM_region ?_
        refine WM_val (fun W hm => rv_addN (p := k30) (q := 1) rfl rfl (by omega)) (Wd_none rfl) rfl (by decide) ?_
        refine WM_val (fun W hm => rv_move rfl) (Wd_none rfl) rfl (by decide) ?_
        refine WM_nil ?_
        have hn58 := rng_next (R := (List Int)) (body := (fun k (s : (List Int)) => impl_SharesOf_b1 x0 k s)) (k := k30) (s := d31) (s' := (d31 ++ [(IntKind.i64.wrap ((gt x0.Rows k30) + (IntKind.i64.wrap (Int.tdiv x0.Base ((x0.Ids.length : Nat) : Int)))))])) (show k30 < x0.Rows.length from by omega) (show impl_SharesOf_b1 x0 k30 d31 = Sum.inr (d31 ++ [(IntKind.i64.wrap ((gt x0.Rows k30) + (IntKind.i64.wrap (Int.tdiv x0.Base ((x0.Ids.length : Nat) : Int)))))]) from by unfold impl_SharesOf_b1; exact cond_f g44 (rfl)) hF35
        exact QM_round (k30 + 1, (d31 ++ [(IntKind.i64.wrap ((gt x0.Rows k30) + (IntKind.i64.wrap (Int.tdiv x0.Base ((x0.Ids.length : Nat) : Int)))))]), (A54, c55)) (subL_cons rfl (subL_cons rfl (subL_cons rfl (subL_cons rfl (subL_cons rfl (subL_cons rfl subL_nil)))))) (fun W hm => ((hm.front (n := 1) rfl).front (n := 1) rfl)) ⟨(by omega), hn58, (show (d31 ++ [(IntKind.i64.wrap ((gt x0.Rows k30) + (IntKind.i64.wrap (Int.tdiv x0.Base ((x0.Ids.length : Nat) : Int)))))]).length ≤ 0 + (k30 + 1) from by first | omega | (simp only [List.length_append, List.length_cons, List.length_nil] at *; omega))⟩ (show x0.Rows.length - (k30 + 1) < x0.Rows.length - k30 from by omega)
    · have g39 : (decide (((k30 : Nat) : Int) < ((x0.Rows.length : Nat) : Int))) = false := decide_eq_false (by omega)
      refine CM_condF rfl g39 ?_
      refine CM_exit ?_
      refine QM_then_exit ?_
      refine QM_then_exit ?_
      have hE59 : rng (R := (List Int)) (fun k (s : (List Int)) => impl_SharesOf_b1 x0 k s) (x0.Rows.length - 0) 0 [] = Sum.inr d31 := rng_end hl38 hF35
      refine QM_block_hit ?_
      refine QM_then ?_
      refine CM_seq ?_
      refine CM_region ?_
      refine WM_val (fun W hm => rv_move rfl) (Wd_none rfl) rfl (by decide) ?_
      refine WM_val (fun W hm => rv_assign rfl) (Wd_none rfl) rfl (by decide) ?_
      refine WM_nil ?_
      refine QM_then ?_
      refine CM_ret ?_
      refine QM_r1 rfl (RR_tmp rfl) (fun W hm => ⟨.slice A32 d31.length c33, ?_, ?_⟩)
      · first | rw [(show impl_SharesOf_m x0 = d31 from by unfold impl_SharesOf_m; exact cond_t g29 (fin_inr hE59 (rfl)))] | rfl
      · rw [(show impl_SharesOf_m x0 = d31 from by unfold impl_SharesOf_m; exact cond_t g29 (fin_inr hE59 (rfl)))]; exact ((hm.front (n := 0) rfl).front (n := 1) rfl).tail
  ·
    refine CM_condT rfl (nf g29) ?_
    refine CM_seq ?_
    refine CM_region ?_
    refine WM_val (fun W hm => rv_move rfl) (Wd_none rfl) rfl (by decide) ?_
    refine WM_val (fun W hm => rv_assign rfl) (Wd_none rfl) rfl (by decide) ?_
    refine WM_nil ?_
    refine QM_then ?_
    refine CM_ret ?_
    refine QM_then_ret ?_
    refine QM_r1 rfl (RR_tmp rfl) (fun W hm => ⟨.slice (some ⟨p26, 0, none⟩) 0 0, ?_, ?_⟩)
    · first | rw [(show impl_SharesOf_m x0 = [] from by unfold impl_SharesOf_m; exact cond_f g29 (rfl))] | rfl
    · rw [(show impl_SharesOf_m x0 = [] from by unfold impl_SharesOf_m; exact cond_f g29 (rfl))]; exact ((hm.front (n := 0) rfl).front (n := 1) rfl).tail

theorem rng_le {R : Type} {n : Nat} {b : Nat → List Int → R ⊕ List Int} (h : ∀ j s, (∃ s', b j s = .inr s' ∧ s'.length ≤ s.length + 1)) : ∀ m k s, ∃ s', rng b m k s = .inr s' ∧ s'.length ≤ s.length + m
  | 0, _, s => ⟨s, rfl, by omega⟩
  | m + 1, k, s => by
    obtain ⟨s', h1, h2⟩ := h k s
    obtain ⟨s'', h3, h4⟩ := rng_le (n := n) h m (k + 1) s'
    exact ⟨s'', by rw [rng, h1]; exact h3, by omega⟩
theorem impl_SharesOf_len (x : DCharge) : (impl_SharesOf_m x).length ≤ x.Tenants.length := by
  unfold impl_SharesOf_m
  cases h : impl_IsCharge_m x with
  | false => exact Nat.zero_le _
  | true =>
    obtain ⟨_, h2, h3⟩ := impl_IsCharge_fact h
    obtain ⟨s', h4, h5⟩ := rng_le (n := 0) (b := fun k s => impl_SharesOf_b1 x k s) (fun j s => by
      unfold impl_SharesOf_b1
      cases decide (((j : Nat) : Int) < (Int.tmod x.Base ((x.Ids.length : Nat) : Int))) <;> exact ⟨_, rfl, by simp⟩) (x.Rows.length - 0) 0 []
    rw [h4]
    show s'.length ≤ _
    simp at h5
    omega

def laws_eqIntS_b1 (x0 : (List Int)) (x1 : (List Int)) (k13 : Nat) : Bool ⊕ (Unit) :=
  cond ((gt x0 k13) != (gt x1 k13)) (Sum.inl false) (Sum.inr ())
def laws_eqIntS_m (x0 : (List Int)) (x1 : (List Int)) : Bool :=
  cond (((x0.length : Nat) : Int) != ((x1.length : Nat) : Int)) false (Sum.elim id (fun (s : Unit) => true) (rng (R := Bool) (fun k (_ : Unit) => laws_eqIntS_b1 x0 x1 k) (x0.length - 0) 0 ()))
theorem cb45 : Cb Try.prog 45 := ⟨Try.f45, _, Try.func45, rfl, by decide⟩
set_option maxRecDepth 10000 in
set_option maxHeartbeats 4000000 in
theorem laws_eqIntS_c (w : World) (z0 : Value) (x0 : (List Int)) (z1 : Value) (x1 : (List Int)) (r_0 : rdS tInt w w.heap.size z0 x0) (r_1 : rdS tInt w w.heap.size z1 x1) :
    Calls Try.prog 45 #[z0, z1] w fun e w' => e = .returned (.bool (laws_eqIntS_m x0 x1)) ∧ Below w.heap.size w w' := by
  have r5 := r_0
  obtain ⟨m1, A2, c3, rfl, q4⟩ := r_0
  have r10 := r_1
  obtain ⟨m6, A7, c8, rfl, q9⟩ := r_1
  refine call_enterM (L := [(0, .slice A2 x0.length c3), (1, .slice A7 x1.length c8)]) (N := 26) Try.func45 rfl rfl (Nat.le_of_ble_eq_true rfl) (argsL_cons rfl (argsL_cons rfl argsL_nil)) ?_
  refine CM_seq ?_
  refine CM_region ?_
  refine WM_val (fun W hm => rv_assign rfl) (Wd_none rfl) rfl (by decide) ?_
  refine WM_nil ?_
  refine QM_then ?_
  refine CM_seq ?_
  refine CM_seq ?_
  refine CM_region ?_
  refine WM_val (fun W hm => rv_move rfl) (Wd_none rfl) rfl (by decide) ?_
  refine WM_val (fun W hm => rv_len Try.underlying32 rfl) (Wd_none rfl) rfl (by decide) ?_
  refine WM_val (fun W hm => rv_move rfl) (Wd_none rfl) rfl (by decide) ?_
  refine WM_val (fun W hm => rv_len Try.underlying32 rfl) (Wd_none rfl) rfl (by decide) ?_
  refine WM_val (fun W hm => rv_neq rfl rfl) (Wd_none rfl) rfl (by decide) ?_
  refine WM_nil ?_
  refine QM_then ?_
  by_cases h11 : ((x0.length : Nat) : Int) = ((x1.length : Nat) : Int)
  · have g12 : (((x0.length : Nat) : Int) != ((x1.length : Nat) : Int)) = false := by rw [h11]; exact bne_self_eq_false _
    refine CM_condF rfl g12 ?_
    refine CM_skip ?_
    refine QM_then ?_
    refine CM_seq ?_
    refine CM_seq ?_
    refine CM_region ?_
    refine WM_val (fun W hm => rv_assign rfl) (Wd_none rfl) rfl (by decide) ?_
    refine WM_nil ?_
    refine QM_then ?_
    refine CM_block ?_
    refine CM_loop (σ := Nat × (Unit) × (Unit)) (fun s => [(0, .slice A2 x0.length c3), (1, .slice A7 x1.length c8), (5, .int .i64 ((s.1 : Nat) : Int))]) (fun s => []) (fun s => s.1 ≤ x0.length ∧ rng (R := Bool) (fun k (_ : Unit) => laws_eqIntS_b1 x0 x1 k) (x0.length - s.1) s.1 s.2.1 = rng (R := Bool) (fun k (_ : Unit) => laws_eqIntS_b1 x0 x1 k) (x0.length - 0) 0 ()) (fun s => x0.length - s.1) (0, (), ()) (subL_cons rfl (subL_cons rfl (subL_cons rfl subL_nil))) (fun W hm => hm) ⟨(by omega), rfl⟩ ?_
    rintro ⟨k13, ⟨⟩, ⟨⟩⟩ H16
    obtain ⟨hk14, hF15⟩ : k13 ≤ x0.length ∧ rng (R := Bool) (fun k (_ : Unit) => laws_eqIntS_b1 x0 x1 k) (x0.length - k13) k13 () = rng (R := Bool) (fun k (_ : Unit) => laws_eqIntS_b1 x0 x1 k) (x0.length - 0) 0 () := H16
    show CM Try.prog 26 _ _ _ _ [(0, .slice A2 x0.length c3), (1, .slice A7 x1.length c8), (5, .int .i64 ((k13 : Nat) : Int))] []
    refine CM_seq ?_
    refine CM_seq ?_
    refine CM_region ?_
    refine WM_val (fun W hm => rv_move rfl) (Wd_none rfl) rfl (by decide) ?_
    refine WM_val (fun W hm => rv_move rfl) (Wd_none rfl) rfl (by decide) ?_
    refine WM_val (fun W hm => rv_len Try.underlying32 rfl) (Wd_none rfl) rfl (by decide) ?_
    refine WM_val (fun W hm => rv_lss rfl rfl) (Wd_none rfl) rfl (by decide) ?_
    refine WM_nil ?_
    refine QM_then ?_
    by_cases hl17 : k13 < x0.length
    · have g18 : (decide (((k13 : Nat) : Int) < ((x0.length : Nat) : Int))) = true := decide_eq_true (by omega)
      refine CM_condT rfl g18 ?_
      refine CM_skip ?_
      refine QM_then ?_
      refine CM_seq ?_
      refine CM_block ?_
      refine CM_seq ?_
      refine CM_regionD (by kernel_rfl) (by kernel_rfl) ?_
      refine QR_val (fun W hm => rv_move rfl) (Wd_none rfl) rfl (by decide) ?_
      refine QR_val (fun W hm => rv_move rfl) (Wd_none rfl) rfl (by decide) ?_
      obtain ⟨a19, rfl, hb20, he21⟩ := q4 (by omega)
      refine QR_val (fun W hm => rv_index (sz := 1) (k := k13) Try.underlying32 Try.type3 rfl rfl rfl (by omega)) (Wd_none rfl) rfl (by decide) ?_
      refine QR_val (fun W hm => rv_load Try.underlying3 rfl rfl ((hm.cell0 (show (a19.add (k13 * 1)).block < w.heap.size from by rw [add_block]; exact hb20)).trans (rdS_int he21 k13 (by omega)))) (Wd_none rfl) rfl (by decide) ?_
      refine QR_val (fun W hm => rv_move rfl) (Wd_none rfl) rfl (by decide) ?_
      refine QR_val (fun W hm => rv_move rfl) (Wd_none rfl) rfl (by decide) ?_
      obtain ⟨a22, rfl, hb23, he24⟩ := q9 (by omega)
      refine QR_val (fun W hm => rv_index (sz := 1) (k := k13) Try.underlying32 Try.type3 rfl rfl rfl (by omega)) (Wd_none rfl) rfl (by decide) ?_
      refine QR_val (fun W hm => rv_load Try.underlying3 rfl rfl ((hm.cell0 (show (a22.add (k13 * 1)).block < w.heap.size from by rw [add_block]; exact hb23)).trans (rdS_int he24 k13 (by omega)))) (Wd_none rfl) rfl (by decide) ?_
      refine QR_val (fun W hm => rv_neq rfl rfl) (Wd_none rfl) rfl (by decide) ?_
      refine QR_nil ?_
      refine QM_then ?_
      by_cases h25 : (gt x0 k13) = (gt x1 k13)
      · have g26 : ((gt x0 k13) != (gt x1 k13)) = false := by rw [h25]; exact bne_self_eq_false _
        refine CM_condF rfl g26 ?_
        refine CM_skip ?_
        refine QM_block_normal ?_
        refine QM_then ?_
        refine CM_region ?_
        refine WM_val (fun W hm => rv_move rfl) (Wd_none rfl) rfl (by decide) ?_
        refine WM_val (fun W hm => rv_addN (p := k13) (q := 1) rfl rfl (by omega)) (Wd_none rfl) rfl (by decide) ?_
        refine WM_val (fun W hm => rv_assign rfl) (Wd_none rfl) rfl (by decide) ?_
        refine WM_nil ?_
        have hn27 := rng_next (R := Bool) (body := (fun k (_ : Unit) => laws_eqIntS_b1 x0 x1 k)) (k := k13) (s := ()) (s' := ()) (show k13 < x0.length from by omega) (show laws_eqIntS_b1 x0 x1 k13 = Sum.inr () from by unfold laws_eqIntS_b1; exact cond_f g26 (rfl)) hF15
        exact QM_round (k13 + 1, (), ()) (subL_cons rfl (subL_cons rfl (subL_cons rfl subL_nil))) (fun W hm => hm) ⟨(by omega), hn27⟩ (show x0.length - (k13 + 1) < x0.length - k13 from by omega)
      · have g26 : ((gt x0 k13) != (gt x1 k13)) = true := bne_iff_ne.2 h25
        refine CM_condT rfl g26 ?_
        refine CM_seq ?_
        refine CM_region ?_
        refine WM_val (fun W hm => rv_assign rfl) (Wd_none rfl) rfl (by decide) ?_
        refine WM_nil ?_
        refine QM_then ?_
        refine CM_ret ?_
        refine QM_block_ret ?_
        refine QM_then_ret ?_
        refine QM_then_ret ?_
        refine QM_block_ret ?_
        refine QM_then_ret ?_
        exact QM_ret1 rfl rfl (fun W hm => ⟨ret_b (show laws_eqIntS_m x0 x1 = false from by unfold laws_eqIntS_m; exact cond_f g12 (fin_inl (rng_ret (body := (fun k (_ : Unit) => laws_eqIntS_b1 x0 x1 k)) (k := k13) (s := ()) (show k13 < x0.length from by omega) (show laws_eqIntS_b1 x0 x1 k13 = Sum.inl false from by unfold laws_eqIntS_b1; exact cond_t g26 (rfl)) hF15) rfl)), hm.below⟩)
    · have g18 : (decide (((k13 : Nat) : Int) < ((x0.length : Nat) : Int))) = false := decide_eq_false (by omega)
      refine CM_condF rfl g18 ?_
      refine CM_exit ?_
      refine QM_then_exit ?_
      refine QM_then_exit ?_
      have hE28 : rng (R := Bool) (fun k (_ : Unit) => laws_eqIntS_b1 x0 x1 k) (x0.length - 0) 0 () = Sum.inr () := rng_end hl17 hF15
      refine QM_block_hit ?_
      refine QM_then ?_
      refine CM_seq ?_
      refine CM_region ?_
      refine WM_val (fun W hm => rv_assign rfl) (Wd_none rfl) rfl (by decide) ?_
      refine WM_nil ?_
      refine QM_then ?_
      refine CM_ret ?_
      exact QM_ret1 rfl rfl (fun W hm => ⟨ret_b (show laws_eqIntS_m x0 x1 = true from by unfold laws_eqIntS_m; exact cond_f g12 (fin_inr hE28 (rfl))), hm.below⟩)
  · have g12 : (((x0.length : Nat) : Int) != ((x1.length : Nat) : Int)) = true := bne_iff_ne.2 h11
    refine CM_condT rfl g12 ?_
    refine CM_seq ?_
    refine CM_region ?_
    refine WM_val (fun W hm => rv_assign rfl) (Wd_none rfl) rfl (by decide) ?_
    refine WM_nil ?_
    refine QM_then ?_
    refine CM_ret ?_
    refine QM_then_ret ?_
    exact QM_ret1 rfl rfl (fun W hm => ⟨ret_b (show laws_eqIntS_m x0 x1 = false from by unfold laws_eqIntS_m; exact cond_t g12 (rfl)), hm.below⟩)

def laws_eqCharge_m (x0 : DCharge) (x1 : DCharge) : Bool :=
  cond (x0.Segment != x1.Segment) false (cond (x0.Base != x1.Base) false (cond (laws_eqIntS_m x0.Ids x1.Ids) (cond (laws_eqIntS_m x0.Tenants x1.Tenants) (cond (laws_eqIntS_m x0.Rows x1.Rows) true false) false) false))
theorem cb28 : Cb Try.prog 28 := ⟨Try.f28, _, Try.func28, rfl, by decide⟩
set_option maxRecDepth 10000 in
set_option maxHeartbeats 4000000 in
theorem laws_eqCharge_c (w : World) (z0 : List Value) (x0 : DCharge) (z1 : List Value) (x1 : DCharge) (r_0 : tyCharge.rd w w.heap.size z0 x0) (r_1 : tyCharge.rd w w.heap.size z1 x1) :
    Calls Try.prog 28 #[.agg z0.toArray, .agg z1.toArray] w fun e w' => e = .returned (.bool (laws_eqCharge_m x0 x1)) ∧ Below w.heap.size w w' := by
  obtain ⟨v1, v3, v5, rfl, r2, r4, r6⟩ := tyCharge_rd r_0
  have r11 := r2
  obtain ⟨m7, A8, c9, rfl, q10⟩ := r2
  have r16 := r4
  obtain ⟨m12, A13, c14, rfl, q15⟩ := r4
  have r21 := r6
  obtain ⟨m17, A18, c19, rfl, q20⟩ := r6
  obtain ⟨v22, v24, v26, rfl, r23, r25, r27⟩ := tyCharge_rd r_1
  have r32 := r23
  obtain ⟨m28, A29, c30, rfl, q31⟩ := r23
  have r37 := r25
  obtain ⟨m33, A34, c35, rfl, q36⟩ := r25
  have r42 := r27
  obtain ⟨m38, A39, c40, rfl, q41⟩ := r27
  refine call_enterM (L := [(0, .agg #[.int .i64 x0.Segment, .int .i64 x0.Base, .slice A8 x0.Ids.length c9, .slice A13 x0.Tenants.length c14, .slice A18 x0.Rows.length c19]), (1, .agg #[.int .i64 x1.Segment, .int .i64 x1.Base, .slice A29 x1.Ids.length c30, .slice A34 x1.Tenants.length c35, .slice A39 x1.Rows.length c40])]) (N := 33) Try.func28 rfl rfl (Nat.le_of_ble_eq_true rfl) (argsL_cons rfl (argsL_cons rfl argsL_nil)) ?_
  refine CM_seq ?_
  refine CM_region ?_
  refine WM_box rfl (Wd_none rfl) (by decide) (fun p43 => ?_)
  refine WM_box rfl (Wd_none rfl) (by decide) (fun p44 => ?_)
  refine WM_val (fun W hm => rv_assign rfl) (Wd_none rfl) rfl (by decide) ?_
  refine WM_nil ?_
  refine QM_then ?_
  refine CM_seq ?_
  refine CM_seq ?_
  refine CM_region ?_
  refine WM_val (fun W hm => rv_field Try.underlying37 rfl Try.type3 (by decide) rfl rfl) (Wd_none rfl) rfl (by decide) ?_
  refine WM_val (fun W hm => rv_load Try.underlying3 rfl rfl (hm.boxCell (n := 1) (o := 0) rfl rfl)) (Wd_none rfl) rfl (by decide) ?_
  refine WM_val (fun W hm => rv_field Try.underlying37 rfl Try.type3 (by decide) rfl rfl) (Wd_none rfl) rfl (by decide) ?_
  refine WM_val (fun W hm => rv_load Try.underlying3 rfl rfl (hm.boxCell (n := 0) (o := 0) rfl rfl)) (Wd_none rfl) rfl (by decide) ?_
  refine WM_val (fun W hm => rv_neq rfl rfl) (Wd_none rfl) rfl (by decide) ?_
  refine WM_nil ?_
  refine QM_then ?_
  by_cases h45 : x0.Segment = x1.Segment
  · have g46 : (x0.Segment != x1.Segment) = false := by rw [h45]; exact bne_self_eq_false _
    refine CM_condF rfl g46 ?_
    refine CM_skip ?_
    refine QM_then ?_
    refine CM_seq ?_
    refine CM_seq ?_
    refine CM_region ?_
    refine WM_val (fun W hm => rv_field Try.underlying37 rfl Try.type3 (by decide) rfl rfl) (Wd_none rfl) rfl (by decide) ?_
    refine WM_val (fun W hm => rv_load Try.underlying3 rfl rfl (hm.boxCell (n := 1) (o := 1) rfl rfl)) (Wd_none rfl) rfl (by decide) ?_
    refine WM_val (fun W hm => rv_field Try.underlying37 rfl Try.type3 (by decide) rfl rfl) (Wd_none rfl) rfl (by decide) ?_
    refine WM_val (fun W hm => rv_load Try.underlying3 rfl rfl (hm.boxCell (n := 0) (o := 1) rfl rfl)) (Wd_none rfl) rfl (by decide) ?_
    refine WM_val (fun W hm => rv_neq rfl rfl) (Wd_none rfl) rfl (by decide) ?_
    refine WM_nil ?_
    refine QM_then ?_
    by_cases h47 : x0.Base = x1.Base
    · have g48 : (x0.Base != x1.Base) = false := by rw [h47]; exact bne_self_eq_false _
      refine CM_condF rfl g48 ?_
      refine CM_skip ?_
      refine QM_then ?_
      refine CM_seq ?_
      refine CM_seq ?_
      refine CM_region ?_
      refine WM_val (fun W hm => rv_field Try.underlying37 rfl Try.type32 (by decide) rfl rfl) (Wd_none rfl) rfl (by decide) ?_
      refine WM_val (fun W hm => rv_load Try.underlying32 rfl rfl (hm.boxCell (n := 1) (o := 2) rfl rfl)) (Wd_none rfl) rfl (by decide) ?_
      refine WM_val (fun W hm => rv_field Try.underlying37 rfl Try.type32 (by decide) rfl rfl) (Wd_none rfl) rfl (by decide) ?_
      refine WM_val (fun W hm => rv_load Try.underlying32 rfl rfl (hm.boxCell (n := 0) (o := 2) rfl rfl)) (Wd_none rfl) rfl (by decide) ?_
      refine WM_callV (cl_fn cb45 rfl) (fun W hm => laws_eqIntS_c W _ x0.Ids _ x1.Ids (hm.rdS0 r11) (hm.rdS0 r32)) (Wd_none rfl) (by decide) ?_
      refine WM_val (fun W hm => rv_not rfl) (Wd_none rfl) rfl (by decide) ?_
      refine WM_nil ?_
      refine QM_then ?_
      rcases Bool.eq_false_or_eq_true (laws_eqIntS_m x0.Ids x1.Ids) with g50 | g50
      ·
        refine CM_condF rfl (nt g50) ?_
        refine CM_skip ?_
        refine QM_then ?_
        refine CM_seq ?_
        refine CM_seq ?_
        refine CM_region ?_
        refine WM_val (fun W hm => rv_field Try.underlying37 rfl Try.type32 (by decide) rfl rfl) (Wd_none rfl) rfl (by decide) ?_
        refine WM_val (fun W hm => rv_load Try.underlying32 rfl rfl (hm.boxCell (n := 1) (o := 3) rfl rfl)) (Wd_none rfl) rfl (by decide) ?_
        refine WM_val (fun W hm => rv_field Try.underlying37 rfl Try.type32 (by decide) rfl rfl) (Wd_none rfl) rfl (by decide) ?_
        refine WM_val (fun W hm => rv_load Try.underlying32 rfl rfl (hm.boxCell (n := 0) (o := 3) rfl rfl)) (Wd_none rfl) rfl (by decide) ?_
        refine WM_callV (cl_fn cb45 rfl) (fun W hm => laws_eqIntS_c W _ x0.Tenants _ x1.Tenants (hm.rdS0 r16) (hm.rdS0 r37)) (Wd_none rfl) (by decide) ?_
        refine WM_val (fun W hm => rv_not rfl) (Wd_none rfl) rfl (by decide) ?_
        refine WM_nil ?_
        refine QM_then ?_
        rcases Bool.eq_false_or_eq_true (laws_eqIntS_m x0.Tenants x1.Tenants) with g52 | g52
        ·
          refine CM_condF rfl (nt g52) ?_
          refine CM_skip ?_
          refine QM_then ?_
          refine CM_seq ?_
          refine CM_seq ?_
          refine CM_region ?_
          refine WM_val (fun W hm => rv_field Try.underlying37 rfl Try.type32 (by decide) rfl rfl) (Wd_none rfl) rfl (by decide) ?_
          refine WM_val (fun W hm => rv_load Try.underlying32 rfl rfl (hm.boxCell (n := 1) (o := 4) rfl rfl)) (Wd_none rfl) rfl (by decide) ?_
          refine WM_val (fun W hm => rv_field Try.underlying37 rfl Try.type32 (by decide) rfl rfl) (Wd_none rfl) rfl (by decide) ?_
          refine WM_val (fun W hm => rv_load Try.underlying32 rfl rfl (hm.boxCell (n := 0) (o := 4) rfl rfl)) (Wd_none rfl) rfl (by decide) ?_
          refine WM_callV (cl_fn cb45 rfl) (fun W hm => laws_eqIntS_c W _ x0.Rows _ x1.Rows (hm.rdS0 r21) (hm.rdS0 r42)) (Wd_none rfl) (by decide) ?_
          refine WM_val (fun W hm => rv_not rfl) (Wd_none rfl) rfl (by decide) ?_
          refine WM_nil ?_
          refine QM_then ?_
          rcases Bool.eq_false_or_eq_true (laws_eqIntS_m x0.Rows x1.Rows) with g54 | g54
          ·
            refine CM_condF rfl (nt g54) ?_
            refine CM_skip ?_
            refine QM_then ?_
            refine CM_seq ?_
            refine CM_region ?_
            refine WM_val (fun W hm => rv_assign rfl) (Wd_none rfl) rfl (by decide) ?_
            refine WM_nil ?_
            refine QM_then ?_
            refine CM_ret ?_
            exact QM_ret1 rfl rfl (fun W hm => ⟨ret_b (show laws_eqCharge_m x0 x1 = true from by unfold laws_eqCharge_m; exact cond_f g46 (cond_f g48 (cond_t g50 (cond_t g52 (cond_t g54 (rfl)))))), hm.below⟩)
          ·
            refine CM_condT rfl (nf g54) ?_
            refine CM_seq ?_
            refine CM_region ?_
            refine WM_val (fun W hm => rv_assign rfl) (Wd_none rfl) rfl (by decide) ?_
            refine WM_nil ?_
            refine QM_then ?_
            refine CM_ret ?_
            refine QM_then_ret ?_
            exact QM_ret1 rfl rfl (fun W hm => ⟨ret_b (show laws_eqCharge_m x0 x1 = false from by unfold laws_eqCharge_m; exact cond_f g46 (cond_f g48 (cond_t g50 (cond_t g52 (cond_f g54 (rfl)))))), hm.below⟩)
        ·
          refine CM_condT rfl (nf g52) ?_
          refine CM_seq ?_
          refine CM_region ?_
          refine WM_val (fun W hm => rv_assign rfl) (Wd_none rfl) rfl (by decide) ?_
          refine WM_nil ?_
          refine QM_then ?_
          refine CM_ret ?_
          refine QM_then_ret ?_
          exact QM_ret1 rfl rfl (fun W hm => ⟨ret_b (show laws_eqCharge_m x0 x1 = false from by unfold laws_eqCharge_m; exact cond_f g46 (cond_f g48 (cond_t g50 (cond_f g52 (rfl))))), hm.below⟩)
      ·
        refine CM_condT rfl (nf g50) ?_
        refine CM_seq ?_
        refine CM_region ?_
        refine WM_val (fun W hm => rv_assign rfl) (Wd_none rfl) rfl (by decide) ?_
        refine WM_nil ?_
        refine QM_then ?_
        refine CM_ret ?_
        refine QM_then_ret ?_
        exact QM_ret1 rfl rfl (fun W hm => ⟨ret_b (show laws_eqCharge_m x0 x1 = false from by unfold laws_eqCharge_m; exact cond_f g46 (cond_f g48 (cond_f g50 (rfl)))), hm.below⟩)
    · have g48 : (x0.Base != x1.Base) = true := bne_iff_ne.2 h47
      refine CM_condT rfl g48 ?_
      refine CM_seq ?_
      refine CM_region ?_
      refine WM_val (fun W hm => rv_assign rfl) (Wd_none rfl) rfl (by decide) ?_
      refine WM_nil ?_
      refine QM_then ?_
      refine CM_ret ?_
      refine QM_then_ret ?_
      exact QM_ret1 rfl rfl (fun W hm => ⟨ret_b (show laws_eqCharge_m x0 x1 = false from by unfold laws_eqCharge_m; exact cond_f g46 (cond_t g48 (rfl))), hm.below⟩)
  · have g46 : (x0.Segment != x1.Segment) = true := bne_iff_ne.2 h45
    refine CM_condT rfl g46 ?_
    refine CM_seq ?_
    refine CM_region ?_
    refine WM_val (fun W hm => rv_assign rfl) (Wd_none rfl) rfl (by decide) ?_
    refine WM_nil ?_
    refine QM_then ?_
    refine CM_ret ?_
    refine QM_then_ret ?_
    exact QM_ret1 rfl rfl (fun W hm => ⟨ret_b (show laws_eqCharge_m x0 x1 = false from by unfold laws_eqCharge_m; exact cond_t g46 (rfl)), hm.below⟩)

def laws_markIntS_b1 (k5 : Nat) (s6 : Int) (d7 : (List Int)) : (Int × (List Int)) ⊕ (Int × (List Int)) :=
  Sum.inr ((IntKind.i64.wrap (s6 + 1)), (d7.set k5 s6))
def laws_markIntS_m (x0 : (List Int)) (x1 : Int) : (Int × (List Int)) :=
  Sum.elim id (fun (s : Int × (List Int)) => (s.1, s.2)) (rng (R := (Int × (List Int))) (fun k (s : Int × (List Int)) => laws_markIntS_b1 k s.1 s.2) (x0.length - 0) 0 (x1, x0))
theorem cb47 : Cb Try.prog 47 := ⟨Try.f47, _, Try.func47, rfl, by decide⟩
set_option maxRecDepth 10000 in
set_option maxHeartbeats 4000000 in
theorem laws_markIntS_c (B : Nat) (w0 : World) (is : List It) (w : World) (z0 : Value) (x0 : (List Int)) (x1 : Int) (hm : Mem B w0 (iOwn (tSl tInt 3) [z0] x0 :: is) w) :
    Calls Try.prog 47 #[z0, .int .i64 x1] w fun e w' => e = .returned (.int .i64 (laws_markIntS_m x0 x1).1) ∧ Mem B w0 (iOwn (tSl tInt 3) [z0] (laws_markIntS_m x0 x1).2 :: is) w' := by
  refine call_enterW (L := [(0, z0), (1, .int .i64 x1)]) (N := 19) Try.func47 rfl rfl (Nat.le_of_ble_eq_true rfl) (argsL_cons rfl (argsL_cons rfl argsL_nil)) hm ?_
  refine CM_form (n := 0) rfl ?_
  rintro A1 c2 rfl m3
  refine CM_seq ?_
  refine CM_region ?_
  refine WM_val (fun W hm => rv_assign rfl) (Wd_none rfl) rfl (by decide) ?_
  refine WM_nil ?_
  refine QM_then ?_
  refine CM_seq ?_
  refine CM_seq ?_
  refine CM_region ?_
  refine WM_val (fun W hm => rv_assign rfl) (Wd_none rfl) rfl (by decide) ?_
  refine WM_nil ?_
  refine QM_then ?_
  refine CM_block ?_
  refine CM_loop (σ := Nat × (Int × (List Int)) × (Unit)) (fun s => [(0, .slice A1 x0.length c2), (1, .int .i64 s.2.1.1), (5, .int .i64 ((s.1 : Nat) : Int))]) (fun s => (iOwn (tSl tInt 3) [.slice A1 x0.length c2] s.2.1.2 :: is)) (fun s => s.1 ≤ x0.length ∧ rng (R := (Int × (List Int))) (fun k (s : Int × (List Int)) => laws_markIntS_b1 k s.1 s.2) (x0.length - s.1) s.1 s.2.1 = rng (R := (Int × (List Int))) (fun k (s : Int × (List Int)) => laws_markIntS_b1 k s.1 s.2) (x0.length - 0) 0 (x1, x0)) (fun s => x0.length - s.1) (0, (x1, x0), ()) (subL_cons rfl (subL_cons rfl (subL_cons rfl subL_nil))) (fun W hm => hm) ⟨(by omega), rfl⟩ ?_
  rintro ⟨k5, ⟨s6, d7⟩, ⟨⟩⟩ H10
  obtain ⟨hk8, hF9⟩ : k5 ≤ x0.length ∧ rng (R := (Int × (List Int))) (fun k (s : Int × (List Int)) => laws_markIntS_b1 k s.1 s.2) (x0.length - k5) k5 (s6, d7) = rng (R := (Int × (List Int))) (fun k (s : Int × (List Int)) => laws_markIntS_b1 k s.1 s.2) (x0.length - 0) 0 (x1, x0) := H10
  show CM Try.prog 19 _ _ _ _ [(0, .slice A1 x0.length c2), (1, .int .i64 s6), (5, .int .i64 ((k5 : Nat) : Int))] (iOwn (tSl tInt 3) [.slice A1 x0.length c2] d7 :: is)
  refine CM_seq ?_
  refine CM_seq ?_
  refine CM_region ?_
  refine WM_val (fun W hm => rv_move rfl) (Wd_none rfl) rfl (by decide) ?_
  refine WM_val (fun W hm => rv_move rfl) (Wd_none rfl) rfl (by decide) ?_
  refine WM_val (fun W hm => rv_len Try.underlying32 rfl) (Wd_none rfl) rfl (by decide) ?_
  refine WM_val (fun W hm => rv_lss rfl rfl) (Wd_none rfl) rfl (by decide) ?_
  refine WM_nil ?_
  refine QM_then ?_
  by_cases hl11 : k5 < x0.length
  · have g12 : (decide (((k5 : Nat) : Int) < ((x0.length : Nat) : Int))) = true := decide_eq_true (by omega)
    refine CM_condT rfl g12 ?_
    refine CM_skip ?_
    refine QM_then ?_
    refine CM_seq ?_
    refine CM_block ?_
    refine CM_seq ?_
    refine CM_region ?_
    refine WM_val (fun W hm => rv_move rfl) (Wd_none rfl) rfl (by decide) ?_
    refine WM_val (fun W hm => rv_move rfl) (Wd_none rfl) rfl (by decide) ?_
    refine WM_val (fun W hm => rv_move rfl) (Wd_none rfl) rfl (by decide) ?_
    refine WM_formO (n := 0) rfl (by omega) ?_
    rintro g13 rfl
    refine WM_val (fun W hm => rv_index (sz := 1) (k := k5) Try.underlying32 Try.type3 rfl rfl rfl (by omega)) (Wd_none rfl) rfl (by decide) ?_
    refine WM_setEl (E := tInt) (e := 3) (u := .int .i64 s6) (k := k5) (p := g13) (n := x0.length) (xs := d7) (eis := []) (js := (is)) (yv := s6) (fun W hm => (hm.front (n := 0) rfl)) (fun _ _ hs => (Sep.nil hs ▸ tInt_own)) rfl Try.type3 rfl (by omega) rfl rfl (Wd_none rfl) ?_
    refine WM_nil ?_
    refine QM_then ?_
    refine CM_region ?_
    refine WM_val (fun W hm => rv_move rfl) (Wd_none rfl) rfl (by decide) ?_
    refine WM_val (fun W hm => rv_add rfl rfl) (Wd_none rfl) rfl (by decide) ?_
    refine WM_val (fun W hm => rv_assign rfl) (Wd_none rfl) rfl (by decide) ?_
    refine WM_nil ?_
    refine QM_block_normal ?_
    refine QM_then ?_
    refine CM_region ?_
    refine WM_val (fun W hm => rv_move rfl) (Wd_none rfl) rfl (by decide) ?_
    refine WM_val (fun W hm => rv_addN (p := k5) (q := 1) rfl rfl (by omega)) (Wd_none rfl) rfl (by decide) ?_
    refine WM_val (fun W hm => rv_assign rfl) (Wd_none rfl) rfl (by decide) ?_
    refine WM_nil ?_
    have hn14 := rng_next (R := (Int × (List Int))) (body := (fun k (s : Int × (List Int)) => laws_markIntS_b1 k s.1 s.2)) (k := k5) (s := (s6, d7)) (s' := ((IntKind.i64.wrap (s6 + 1)), (d7.set k5 s6))) (show k5 < x0.length from by omega) (show laws_markIntS_b1 k5 s6 d7 = Sum.inr ((IntKind.i64.wrap (s6 + 1)), (d7.set k5 s6)) from by unfold laws_markIntS_b1; exact rfl) hF9
    exact QM_round (k5 + 1, ((IntKind.i64.wrap (s6 + 1)), (d7.set k5 s6)), ()) (subL_cons rfl (subL_cons rfl (subL_cons rfl subL_nil))) (fun W hm => (hm.front (n := 0) rfl)) ⟨(by omega), hn14⟩ (show x0.length - (k5 + 1) < x0.length - k5 from by omega)
  · have g12 : (decide (((k5 : Nat) : Int) < ((x0.length : Nat) : Int))) = false := decide_eq_false (by omega)
    refine CM_condF rfl g12 ?_
    refine CM_exit ?_
    refine QM_then_exit ?_
    refine QM_then_exit ?_
    have hE15 : rng (R := (Int × (List Int))) (fun k (s : Int × (List Int)) => laws_markIntS_b1 k s.1 s.2) (x0.length - 0) 0 (x1, x0) = Sum.inr (s6, d7) := rng_end hl11 hF9
    refine QM_block_hit ?_
    refine QM_then ?_
    refine CM_seq ?_
    refine CM_region ?_
    refine WM_val (fun W hm => rv_move rfl) (Wd_none rfl) rfl (by decide) ?_
    refine WM_val (fun W hm => rv_assign rfl) (Wd_none rfl) rfl (by decide) ?_
    refine WM_nil ?_
    refine QM_then ?_
    refine CM_ret ?_
    refine QM_rW rfl rfl (fun W hm => ⟨?_, ?_⟩)
    · rw [(show laws_markIntS_m x0 x1 = (s6, d7) from by unfold laws_markIntS_m; exact fin_inr hE15 (rfl))]
    · rw [(show laws_markIntS_m x0 x1 = (s6, d7) from by unfold laws_markIntS_m; exact fin_inr hE15 (rfl))]; exact (hm.front (n := 0) rfl)

def laws_markCharge_m (x0 : DCharge) (x1 : Int) : (Int × DCharge) :=
  ((laws_markIntS_m x0.Rows ((laws_markIntS_m x0.Tenants ((laws_markIntS_m x0.Ids x1).1)).1)).1, ⟨x0.Segment, x0.Base, (laws_markIntS_m x0.Ids x1).2, (laws_markIntS_m x0.Tenants ((laws_markIntS_m x0.Ids x1).1)).2, (laws_markIntS_m x0.Rows ((laws_markIntS_m x0.Tenants ((laws_markIntS_m x0.Ids x1).1)).1)).2⟩)
theorem cb46 : Cb Try.prog 46 := ⟨Try.f46, _, Try.func46, rfl, by decide⟩
set_option maxRecDepth 10000 in
set_option maxHeartbeats 4000000 in
theorem laws_markCharge_c (B : Nat) (w0 : World) (is : List It) (w : World) (z0 : List Value) (x0 : DCharge) (x1 : Int) (hm : Mem B w0 (iOwn tyCharge z0 x0 :: is) w) :
    Calls Try.prog 46 #[.agg z0.toArray, .int .i64 x1] w fun e w' => e = .returned (.int .i64 (laws_markCharge_m x0 x1).1) ∧ Mem B w0 (iOwn tyCharge z0 (laws_markCharge_m x0 x1).2 :: is) w' := by
  refine call_enterW (L := [(0, .agg z0.toArray), (1, .int .i64 x1)]) (N := 18) Try.func46 rfl rfl (Nat.le_of_ble_eq_true rfl) (argsL_cons rfl (argsL_cons rfl argsL_nil)) hm ?_
  refine CM_split (γ := Value × Value × Value) (js := fun g => [iOwn (tSl tInt 3) [g.1] x0.Ids, iOwn (tSl tInt 3) [g.2.1] x0.Tenants, iOwn (tSl tInt 3) [g.2.2] x0.Rows]) (C := fun g => z0 = [.int .i64 x0.Segment, .int .i64 x0.Base, g.1, g.2.1, g.2.2]) (fun _ _ h => tyCharge_split h) ?_
  rintro ⟨v1, v2, v3⟩ rfl
  refine CM_form (n := 0) rfl ?_
  rintro A4 c5 rfl m6
  refine CM_form (n := 1) rfl ?_
  rintro A8 c9 rfl m10
  refine CM_form (n := 2) rfl ?_
  rintro A12 c13 rfl m14
  refine CM_seq ?_
  refine CM_region ?_
  refine WM_box rfl (Wd_none rfl) (by decide) (fun p16 => ?_)
  refine WM_val (fun W hm => rv_assign rfl) (Wd_none rfl) rfl (by decide) ?_
  refine WM_nil ?_
  refine QM_then ?_
  refine CM_seq ?_
  refine CM_region ?_
  refine WM_val (fun W hm => rv_field Try.underlying37 rfl Try.type32 (by decide) rfl rfl) (Wd_none rfl) rfl (by decide) ?_
  refine WM_val (fun W hm => rv_load Try.underlying32 rfl rfl (hm.boxCell (n := 0) (o := 2) rfl rfl)) (Wd_none rfl) rfl (by decide) ?_
  refine WM_val (fun W hm => rv_move rfl) (Wd_none rfl) rfl (by decide) ?_
  refine WM_callW (χ := Unit) (val := fun _ => .int .i64 (laws_markIntS_m x0.Ids x1).1) (js := fun _ => (iOwn (tSl tInt 3) [.slice A4 x0.Ids.length c5] (laws_markIntS_m x0.Ids x1).2 :: (iBox p16 37 [.int .i64 x0.Segment, .int .i64 x0.Base, .slice A4 x0.Ids.length c5, .slice A8 x0.Tenants.length c9, .slice A12 x0.Rows.length c13] :: iOwn (tSl tInt 3) [.slice A8 x0.Tenants.length c9] x0.Tenants :: iOwn (tSl tInt 3) [.slice A12 x0.Rows.length c13] x0.Rows :: is))) (cl_fn cb47 rfl) (fun W hm => (laws_markIntS_c B w0 (iBox p16 37 [.int .i64 x0.Segment, .int .i64 x0.Base, .slice A4 x0.Ids.length c5, .slice A8 x0.Tenants.length c9, .slice A12 x0.Rows.length c13] :: iOwn (tSl tInt 3) [.slice A8 x0.Tenants.length c9] x0.Tenants :: iOwn (tSl tInt 3) [.slice A12 x0.Rows.length c13] x0.Rows :: is) W (.slice A4 x0.Ids.length c5) x0.Ids x1 (hm.front (n := 1) rfl)).mono (fun _ _ h => ⟨(), h.1, h.2⟩)) (Wd_none rfl) (by decide) (fun _ => ?_)
  refine WM_val (fun W hm => rv_assign rfl) (Wd_none rfl) rfl (by decide) ?_
  refine WM_nil ?_
  refine QM_then ?_
  refine CM_seq ?_
  refine CM_region ?_
  refine WM_val (fun W hm => rv_field Try.underlying37 rfl Try.type32 (by decide) rfl rfl) (Wd_none rfl) rfl (by decide) ?_
  refine WM_val (fun W hm => rv_load Try.underlying32 rfl rfl (hm.boxCell (n := 1) (o := 3) rfl rfl)) (Wd_none rfl) rfl (by decide) ?_
  refine WM_val (fun W hm => rv_move rfl) (Wd_none rfl) rfl (by decide) ?_
  refine WM_callW (χ := Unit) (val := fun _ => .int .i64 (laws_markIntS_m x0.Tenants ((laws_markIntS_m x0.Ids x1).1)).1) (js := fun _ => (iOwn (tSl tInt 3) [.slice A8 x0.Tenants.length c9] (laws_markIntS_m x0.Tenants ((laws_markIntS_m x0.Ids x1).1)).2 :: (iOwn (tSl tInt 3) [.slice A4 x0.Ids.length c5] ((laws_markIntS_m x0.Ids x1).2) :: iBox p16 37 [.int .i64 x0.Segment, .int .i64 x0.Base, .slice A4 x0.Ids.length c5, .slice A8 x0.Tenants.length c9, .slice A12 x0.Rows.length c13] :: iOwn (tSl tInt 3) [.slice A12 x0.Rows.length c13] x0.Rows :: is))) (cl_fn cb47 rfl) (fun W hm => (laws_markIntS_c B w0 (iOwn (tSl tInt 3) [.slice A4 x0.Ids.length c5] ((laws_markIntS_m x0.Ids x1).2) :: iBox p16 37 [.int .i64 x0.Segment, .int .i64 x0.Base, .slice A4 x0.Ids.length c5, .slice A8 x0.Tenants.length c9, .slice A12 x0.Rows.length c13] :: iOwn (tSl tInt 3) [.slice A12 x0.Rows.length c13] x0.Rows :: is) W (.slice A8 x0.Tenants.length c9) x0.Tenants ((laws_markIntS_m x0.Ids x1).1) (hm.front (n := 2) rfl)).mono (fun _ _ h => ⟨(), h.1, h.2⟩)) (Wd_none rfl) (by decide) (fun _ => ?_)
  refine WM_val (fun W hm => rv_assign rfl) (Wd_none rfl) rfl (by decide) ?_
  refine WM_nil ?_
  refine QM_then ?_
  refine CM_seq ?_
  refine CM_region ?_
  refine WM_val (fun W hm => rv_field Try.underlying37 rfl Try.type32 (by decide) rfl rfl) (Wd_none rfl) rfl (by decide) ?_
  refine WM_val (fun W hm => rv_load Try.underlying32 rfl rfl (hm.boxCell (n := 2) (o := 4) rfl rfl)) (Wd_none rfl) rfl (by decide) ?_
  refine WM_val (fun W hm => rv_move rfl) (Wd_none rfl) rfl (by decide) ?_
  refine WM_callW (χ := Unit) (val := fun _ => .int .i64 (laws_markIntS_m x0.Rows ((laws_markIntS_m x0.Tenants ((laws_markIntS_m x0.Ids x1).1)).1)).1) (js := fun _ => (iOwn (tSl tInt 3) [.slice A12 x0.Rows.length c13] (laws_markIntS_m x0.Rows ((laws_markIntS_m x0.Tenants ((laws_markIntS_m x0.Ids x1).1)).1)).2 :: (iOwn (tSl tInt 3) [.slice A8 x0.Tenants.length c9] ((laws_markIntS_m x0.Tenants ((laws_markIntS_m x0.Ids x1).1)).2) :: iOwn (tSl tInt 3) [.slice A4 x0.Ids.length c5] ((laws_markIntS_m x0.Ids x1).2) :: iBox p16 37 [.int .i64 x0.Segment, .int .i64 x0.Base, .slice A4 x0.Ids.length c5, .slice A8 x0.Tenants.length c9, .slice A12 x0.Rows.length c13] :: is))) (cl_fn cb47 rfl) (fun W hm => (laws_markIntS_c B w0 (iOwn (tSl tInt 3) [.slice A8 x0.Tenants.length c9] ((laws_markIntS_m x0.Tenants ((laws_markIntS_m x0.Ids x1).1)).2) :: iOwn (tSl tInt 3) [.slice A4 x0.Ids.length c5] ((laws_markIntS_m x0.Ids x1).2) :: iBox p16 37 [.int .i64 x0.Segment, .int .i64 x0.Base, .slice A4 x0.Ids.length c5, .slice A8 x0.Tenants.length c9, .slice A12 x0.Rows.length c13] :: is) W (.slice A12 x0.Rows.length c13) x0.Rows ((laws_markIntS_m x0.Tenants ((laws_markIntS_m x0.Ids x1).1)).1) (hm.front (n := 3) rfl)).mono (fun _ _ h => ⟨(), h.1, h.2⟩)) (Wd_none rfl) (by decide) (fun _ => ?_)
  refine WM_val (fun W hm => rv_assign rfl) (Wd_none rfl) rfl (by decide) ?_
  refine WM_nil ?_
  refine QM_then ?_
  refine CM_seq ?_
  refine CM_region ?_
  refine WM_val (fun W hm => rv_move rfl) (Wd_none rfl) rfl (by decide) ?_
  refine WM_val (fun W hm => rv_assign rfl) (Wd_none rfl) rfl (by decide) ?_
  refine WM_nil ?_
  refine QM_then ?_
  refine CM_ret ?_
  refine QM_rW rfl rfl (fun W hm => ⟨?_, ?_⟩)
  · rw [(show laws_markCharge_m x0 x1 = ((laws_markIntS_m x0.Rows ((laws_markIntS_m x0.Tenants ((laws_markIntS_m x0.Ids x1).1)).1)).1, ⟨x0.Segment, x0.Base, (laws_markIntS_m x0.Ids x1).2, (laws_markIntS_m x0.Tenants ((laws_markIntS_m x0.Ids x1).1)).2, (laws_markIntS_m x0.Rows ((laws_markIntS_m x0.Tenants ((laws_markIntS_m x0.Ids x1).1)).1)).2⟩) from by unfold laws_markCharge_m; exact rfl)]
  · rw [(show laws_markCharge_m x0 x1 = ((laws_markIntS_m x0.Rows ((laws_markIntS_m x0.Tenants ((laws_markIntS_m x0.Ids x1).1)).1)).1, ⟨x0.Segment, x0.Base, (laws_markIntS_m x0.Ids x1).2, (laws_markIntS_m x0.Tenants ((laws_markIntS_m x0.Ids x1).1)).2, (laws_markIntS_m x0.Rows ((laws_markIntS_m x0.Tenants ((laws_markIntS_m x0.Ids x1).1)).1)).2⟩) from by unfold laws_markCharge_m; exact rfl)]; exact Mem.join (is := [iOwn (tSl tInt 3) [.slice A4 x0.Ids.length c5] ((laws_markIntS_m x0.Ids x1).2), iOwn (tSl tInt 3) [.slice A8 x0.Tenants.length c9] ((laws_markIntS_m x0.Tenants ((laws_markIntS_m x0.Ids x1).1)).2), iOwn (tSl tInt 3) [.slice A12 x0.Rows.length c13] ((laws_markIntS_m x0.Rows ((laws_markIntS_m x0.Tenants ((laws_markIntS_m x0.Ids x1).1)).1)).2)]) (js := is) (fun _ _ hs => tyCharge_join (x := (⟨x0.Segment, x0.Base, (laws_markIntS_m x0.Ids x1).2, (laws_markIntS_m x0.Tenants ((laws_markIntS_m x0.Ids x1).1)).2, (laws_markIntS_m x0.Rows ((laws_markIntS_m x0.Tenants ((laws_markIntS_m x0.Ids x1).1)).1)).2⟩ : DCharge)) hs) ((((hm.front (n := 0) rfl).front (n := 1) rfl).front (n := 2) rfl).front (n := 3) rfl).tail

def laws_heldIntS_b1 (x0 : (List Int)) (k6 : Nat) (s7 : Int) : Int ⊕ (Int) :=
  cond ((gt x0 k6) != s7) (Sum.inl (-1)) (Sum.inr (IntKind.i64.wrap (s7 + 1)))
def laws_heldIntS_m (x0 : (List Int)) (x1 : Int) : Int :=
  Sum.elim id (fun (s : Int) => s) (rng (R := Int) (fun k (s : Int) => laws_heldIntS_b1 x0 k s) (x0.length - 0) 0 x1)
theorem cb48 : Cb Try.prog 48 := ⟨Try.f48, _, Try.func48, rfl, by decide⟩
set_option maxRecDepth 10000 in
set_option maxHeartbeats 4000000 in
theorem laws_heldIntS_c (w : World) (z0 : Value) (x0 : (List Int)) (x1 : Int) (r_0 : rdS tInt w w.heap.size z0 x0) :
    Calls Try.prog 48 #[z0, .int .i64 x1] w fun e w' => e = .returned (.int .i64 (laws_heldIntS_m x0 x1)) ∧ Below w.heap.size w w' := by
  have r5 := r_0
  obtain ⟨m1, A2, c3, rfl, q4⟩ := r_0
  refine call_enterM (L := [(0, .slice A2 x0.length c3), (1, .int .i64 x1)]) (N := 21) Try.func48 rfl rfl (Nat.le_of_ble_eq_true rfl) (argsL_cons rfl (argsL_cons rfl argsL_nil)) ?_
  refine CM_seq ?_
  refine CM_region ?_
  refine WM_val (fun W hm => rv_assign rfl) (Wd_none rfl) rfl (by decide) ?_
  refine WM_nil ?_
  refine QM_then ?_
  refine CM_seq ?_
  refine CM_seq ?_
  refine CM_region ?_
  refine WM_val (fun W hm => rv_assign rfl) (Wd_none rfl) rfl (by decide) ?_
  refine WM_nil ?_
  refine QM_then ?_
  refine CM_block ?_
  refine CM_loop (σ := Nat × (Int) × (Unit)) (fun s => [(0, .slice A2 x0.length c3), (1, .int .i64 s.2.1), (5, .int .i64 ((s.1 : Nat) : Int))]) (fun s => []) (fun s => s.1 ≤ x0.length ∧ rng (R := Int) (fun k (s : Int) => laws_heldIntS_b1 x0 k s) (x0.length - s.1) s.1 s.2.1 = rng (R := Int) (fun k (s : Int) => laws_heldIntS_b1 x0 k s) (x0.length - 0) 0 x1) (fun s => x0.length - s.1) (0, x1, ()) (subL_cons rfl (subL_cons rfl (subL_cons rfl subL_nil))) (fun W hm => hm) ⟨(by omega), rfl⟩ ?_
  rintro ⟨k6, s7, ⟨⟩⟩ H10
  obtain ⟨hk8, hF9⟩ : k6 ≤ x0.length ∧ rng (R := Int) (fun k (s : Int) => laws_heldIntS_b1 x0 k s) (x0.length - k6) k6 s7 = rng (R := Int) (fun k (s : Int) => laws_heldIntS_b1 x0 k s) (x0.length - 0) 0 x1 := H10
  show CM Try.prog 21 _ _ _ _ [(0, .slice A2 x0.length c3), (1, .int .i64 s7), (5, .int .i64 ((k6 : Nat) : Int))] []
  refine CM_seq ?_
  refine CM_seq ?_
  refine CM_region ?_
  refine WM_val (fun W hm => rv_move rfl) (Wd_none rfl) rfl (by decide) ?_
  refine WM_val (fun W hm => rv_move rfl) (Wd_none rfl) rfl (by decide) ?_
  refine WM_val (fun W hm => rv_len Try.underlying32 rfl) (Wd_none rfl) rfl (by decide) ?_
  refine WM_val (fun W hm => rv_lss rfl rfl) (Wd_none rfl) rfl (by decide) ?_
  refine WM_nil ?_
  refine QM_then ?_
  by_cases hl11 : k6 < x0.length
  · have g12 : (decide (((k6 : Nat) : Int) < ((x0.length : Nat) : Int))) = true := decide_eq_true (by omega)
    refine CM_condT rfl g12 ?_
    refine CM_skip ?_
    refine QM_then ?_
    refine CM_seq ?_
    refine CM_block ?_
    refine CM_seq ?_
    refine CM_seq ?_
    refine CM_region ?_
    refine WM_val (fun W hm => rv_move rfl) (Wd_none rfl) rfl (by decide) ?_
    refine WM_val (fun W hm => rv_move rfl) (Wd_none rfl) rfl (by decide) ?_
    obtain ⟨a13, rfl, hb14, he15⟩ := q4 (by omega)
    refine WM_val (fun W hm => rv_index (sz := 1) (k := k6) Try.underlying32 Try.type3 rfl rfl rfl (by omega)) (Wd_none rfl) rfl (by decide) ?_
    refine WM_val (fun W hm => rv_load Try.underlying3 rfl rfl ((hm.cell0 (show (a13.add (k6 * 1)).block < w.heap.size from by rw [add_block]; exact hb14)).trans (rdS_int he15 k6 (by omega)))) (Wd_none rfl) rfl (by decide) ?_
    refine WM_val (fun W hm => rv_move rfl) (Wd_none rfl) rfl (by decide) ?_
    refine WM_val (fun W hm => rv_neq rfl rfl) (Wd_none rfl) rfl (by decide) ?_
    refine WM_nil ?_
    refine QM_then ?_
    by_cases h16 : (gt x0 k6) = s7
    · have g17 : ((gt x0 k6) != s7) = false := by rw [h16]; exact bne_self_eq_false _
      refine CM_condF rfl g17 ?_
      refine CM_skip ?_
      refine QM_then ?_
      refine CM_region ?_
      refine WM_val (fun W hm => rv_move rfl) (Wd_none rfl) rfl (by decide) ?_
      refine WM_val (fun W hm => rv_add rfl rfl) (Wd_none rfl) rfl (by decide) ?_
      refine WM_val (fun W hm => rv_assign rfl) (Wd_none rfl) rfl (by decide) ?_
      refine WM_nil ?_
      refine QM_block_normal ?_
      refine QM_then ?_
      refine CM_region ?_
      refine WM_val (fun W hm => rv_move rfl) (Wd_none rfl) rfl (by decide) ?_
      refine WM_val (fun W hm => rv_addN (p := k6) (q := 1) rfl rfl (by omega)) (Wd_none rfl) rfl (by decide) ?_
      refine WM_val (fun W hm => rv_assign rfl) (Wd_none rfl) rfl (by decide) ?_
      refine WM_nil ?_
      have hn18 := rng_next (R := Int) (body := (fun k (s : Int) => laws_heldIntS_b1 x0 k s)) (k := k6) (s := s7) (s' := (IntKind.i64.wrap (s7 + 1))) (show k6 < x0.length from by omega) (show laws_heldIntS_b1 x0 k6 s7 = Sum.inr (IntKind.i64.wrap (s7 + 1)) from by unfold laws_heldIntS_b1; exact cond_f g17 (rfl)) hF9
      exact QM_round (k6 + 1, (IntKind.i64.wrap (s7 + 1)), ()) (subL_cons rfl (subL_cons rfl (subL_cons rfl subL_nil))) (fun W hm => hm) ⟨(by omega), hn18⟩ (show x0.length - (k6 + 1) < x0.length - k6 from by omega)
    · have g17 : ((gt x0 k6) != s7) = true := bne_iff_ne.2 h16
      refine CM_condT rfl g17 ?_
      refine CM_seq ?_
      refine CM_region ?_
      refine WM_val (fun W hm => rv_assign rfl) (Wd_none rfl) rfl (by decide) ?_
      refine WM_nil ?_
      refine QM_then ?_
      refine CM_ret ?_
      refine QM_then_ret ?_
      refine QM_block_ret ?_
      refine QM_then_ret ?_
      refine QM_then_ret ?_
      refine QM_block_ret ?_
      refine QM_then_ret ?_
      exact QM_ret1 rfl rfl (fun W hm => ⟨ret_i (show laws_heldIntS_m x0 x1 = (-1) from by unfold laws_heldIntS_m; exact fin_inl (rng_ret (body := (fun k (s : Int) => laws_heldIntS_b1 x0 k s)) (k := k6) (s := s7) (show k6 < x0.length from by omega) (show laws_heldIntS_b1 x0 k6 s7 = Sum.inl (-1) from by unfold laws_heldIntS_b1; exact cond_t g17 (rfl)) hF9) rfl), hm.below⟩)
  · have g12 : (decide (((k6 : Nat) : Int) < ((x0.length : Nat) : Int))) = false := decide_eq_false (by omega)
    refine CM_condF rfl g12 ?_
    refine CM_exit ?_
    refine QM_then_exit ?_
    refine QM_then_exit ?_
    have hE19 : rng (R := Int) (fun k (s : Int) => laws_heldIntS_b1 x0 k s) (x0.length - 0) 0 x1 = Sum.inr s7 := rng_end hl11 hF9
    refine QM_block_hit ?_
    refine QM_then ?_
    refine CM_seq ?_
    refine CM_region ?_
    refine WM_val (fun W hm => rv_move rfl) (Wd_none rfl) rfl (by decide) ?_
    refine WM_val (fun W hm => rv_assign rfl) (Wd_none rfl) rfl (by decide) ?_
    refine WM_nil ?_
    refine QM_then ?_
    refine CM_ret ?_
    exact QM_ret1 rfl rfl (fun W hm => ⟨ret_i (show laws_heldIntS_m x0 x1 = s7 from by unfold laws_heldIntS_m; exact fin_inr hE19 (rfl)), hm.below⟩)

end Go.Proofs.Ytlpgopanikikkaa
