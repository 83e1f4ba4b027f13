/-
  Contracts of functions, printed by a program of ours.
-/
import Derived.Test.YtlpgopanikikkaaDat
namespace Go.Proofs.Ytlpgopanikikkaa
open Go.RowKit
def laws_szIntS_m (x0 : (List Int)) (x1 : Int) : Int :=
  cond (decide ((IntKind.i64.wrap (x1 - ((x0.length : Nat) : Int))) < 0)) (-1) (IntKind.i64.wrap (x1 - ((x0.length : Nat) : Int)))
theorem cb65 : Cb Try.prog 65 := ⟨Try.f65, _, Try.func65, rfl, by decide⟩
set_option maxRecDepth 10000 in
theorem laws_szIntS_c (w : World) (z0 : Value) (x0 : (List Int)) (x1 : Int) (r_0 : rdS tInt w w.heap.size z0 x0) :
    Calls Try.prog 65 #[z0, .int .i64 x1] w fun e w' => e = .returned (.int .i64 (laws_szIntS_m x0 x1)) ∧ Below w.heap.size w w' := by
  have r5 := r_0
  obtain ⟨m1, A2, c3, rfl, q4⟩ := r_0
  refine call_enterM (L := [(0, .slice A2 x0.length c3), (1, .int .i64 x1)]) (N := 12) Try.func65 rfl rfl (Nat.le_of_ble_eq_true rfl) (argsL_cons rfl (argsL_cons rfl argsL_nil)) ?_
  refine CM_seq ?_
  refine CM_region ?_
  refine WM_val (fun W hm => rv_assign rfl) (Wd_none rfl) rfl (by decide) ?_
  refine WM_nil ?_
  refine QM_then ?_
  refine CM_seq ?_
  refine CM_region ?_
  refine WM_val (fun W hm => rv_move rfl) (Wd_none rfl) rfl (by decide) ?_
  refine WM_val (fun W hm => rv_move rfl) (Wd_none rfl) rfl (by decide) ?_
  refine WM_val (fun W hm => rv_len Try.underlying32 rfl) (Wd_none rfl) rfl (by decide) ?_
  refine WM_val (fun W hm => rv_sub rfl rfl) (Wd_none rfl) rfl (by decide) ?_
  refine WM_val (fun W hm => rv_assign rfl) (Wd_none rfl) rfl (by decide) ?_
  refine WM_nil ?_
  refine QM_then ?_
  refine CM_seq ?_
  refine CM_seq ?_
  refine CM_region ?_
  refine WM_val (fun W hm => rv_move rfl) (Wd_none rfl) rfl (by decide) ?_
  refine WM_val (fun W hm => rv_lss rfl rfl) (Wd_none rfl) rfl (by decide) ?_
  refine WM_nil ?_
  refine QM_then ?_
  by_cases h6 : (IntKind.i64.wrap (x1 - ((x0.length : Nat) : Int))) < 0
  · have g7 : (decide ((IntKind.i64.wrap (x1 - ((x0.length : Nat) : Int))) < 0)) = true := decide_eq_true h6
    refine CM_condT rfl g7 ?_
    refine CM_seq ?_
    refine CM_region ?_
    refine WM_val (fun W hm => rv_assign rfl) (Wd_none rfl) rfl (by decide) ?_
    refine WM_nil ?_
    refine QM_then ?_
    refine CM_ret ?_
    refine QM_then_ret ?_
    exact QM_ret1 rfl rfl (fun W hm => ⟨ret_i (show laws_szIntS_m x0 x1 = (-1) from by unfold laws_szIntS_m; exact cond_t g7 (rfl)), hm.below⟩)
  · have g7 : (decide ((IntKind.i64.wrap (x1 - ((x0.length : Nat) : Int))) < 0)) = false := decide_eq_false h6
    refine CM_condF rfl g7 ?_
    refine CM_skip ?_
    refine QM_then ?_
    refine CM_seq ?_
    refine CM_region ?_
    refine WM_val (fun W hm => rv_move rfl) (Wd_none rfl) rfl (by decide) ?_
    refine WM_val (fun W hm => rv_assign rfl) (Wd_none rfl) rfl (by decide) ?_
    refine WM_nil ?_
    refine QM_then ?_
    refine CM_ret ?_
    exact QM_ret1 rfl rfl (fun W hm => ⟨ret_i (show laws_szIntS_m x0 x1 = (IntKind.i64.wrap (x1 - ((x0.length : Nat) : Int))) from by unfold laws_szIntS_m; exact cond_f g7 (rfl)), hm.below⟩)

def laws_szRow_m (x0 : DRow) (x1 : Int) : Int :=
  cond (decide ((laws_szIntS_m x0.Values x1) < 0)) (-1) (laws_szIntS_m x0.Values x1)
theorem cb71 : Cb Try.prog 71 := ⟨Try.f71, _, Try.func71, rfl, by decide⟩
set_option maxRecDepth 10000 in
theorem laws_szRow_c (w : World) (z0 : List Value) (x0 : DRow) (x1 : Int) (r_0 : tyLRow.rd w w.heap.size z0 x0) :
    Calls Try.prog 71 #[.agg z0.toArray, .int .i64 x1] w fun e w' => e = .returned (.int .i64 (laws_szRow_m x0 x1)) ∧ Below w.heap.size w w' := by
  obtain ⟨v1, rfl, r2⟩ := tyLRow_rd r_0
  have r7 := r2
  obtain ⟨m3, A4, c5, rfl, q6⟩ := r2
  refine call_enterM (L := [(0, .agg #[.int .i64 x0.Id, .slice A4 x0.Values.length c5]), (1, .int .i64 x1)]) (N := 12) Try.func71 rfl rfl (Nat.le_of_ble_eq_true rfl) (argsL_cons rfl (argsL_cons rfl argsL_nil)) ?_
  refine CM_seq ?_
  refine CM_region ?_
  refine WM_box rfl (Wd_none rfl) (by decide) (fun p8 => ?_)
  refine WM_val (fun W hm => rv_assign rfl) (Wd_none rfl) rfl (by decide) ?_
  refine WM_nil ?_
  refine QM_then ?_
  refine CM_seq ?_
  refine CM_region ?_
  refine WM_val (fun W hm => rv_field Try.underlying49 rfl Try.type32 (by decide) rfl rfl) (Wd_none rfl) rfl (by decide) ?_
  refine WM_val (fun W hm => rv_load Try.underlying32 rfl rfl (hm.boxCell (n := 0) (o := 1) rfl rfl)) (Wd_none rfl) rfl (by decide) ?_
  refine WM_val (fun W hm => rv_move rfl) (Wd_none rfl) rfl (by decide) ?_
  refine WM_callV cb65 rfl (fun W hm => laws_szIntS_c W _ x0.Values x1 (hm.rdS0 r7)) (Wd_none rfl) (by decide) ?_
  refine WM_val (fun W hm => rv_assign rfl) (Wd_none rfl) rfl (by decide) ?_
  refine WM_nil ?_
  refine QM_then ?_
  refine CM_seq ?_
  refine CM_seq ?_
  refine CM_region ?_
  refine WM_val (fun W hm => rv_move rfl) (Wd_none rfl) rfl (by decide) ?_
  refine WM_val (fun W hm => rv_lss rfl rfl) (Wd_none rfl) rfl (by decide) ?_
  refine WM_nil ?_
  refine QM_then ?_
  by_cases h9 : (laws_szIntS_m x0.Values x1) < 0
  · have g10 : (decide ((laws_szIntS_m x0.Values x1) < 0)) = true := decide_eq_true h9
    refine CM_condT rfl g10 ?_
    refine CM_seq ?_
    refine CM_region ?_
    refine WM_val (fun W hm => rv_assign rfl) (Wd_none rfl) rfl (by decide) ?_
    refine WM_nil ?_
    refine QM_then ?_
    refine CM_ret ?_
    refine QM_then_ret ?_
    exact QM_ret1 rfl rfl (fun W hm => ⟨ret_i (show laws_szRow_m x0 x1 = (-1) from by unfold laws_szRow_m; exact cond_t g10 (rfl)), hm.below⟩)
  · have g10 : (decide ((laws_szIntS_m x0.Values x1) < 0)) = false := decide_eq_false h9
    refine CM_condF rfl g10 ?_
    refine CM_skip ?_
    refine QM_then ?_
    refine CM_seq ?_
    refine CM_region ?_
    refine WM_val (fun W hm => rv_move rfl) (Wd_none rfl) rfl (by decide) ?_
    refine WM_val (fun W hm => rv_assign rfl) (Wd_none rfl) rfl (by decide) ?_
    refine WM_nil ?_
    refine QM_then ?_
    refine CM_ret ?_
    exact QM_ret1 rfl rfl (fun W hm => ⟨ret_i (show laws_szRow_m x0 x1 = (laws_szIntS_m x0.Values x1) from by unfold laws_szRow_m; exact cond_f g10 (rfl)), hm.below⟩)

def laws_szAnnotated_m (x0 : DAnnotated) (x1 : Int) : Int :=
  cond (decide ((laws_szRow_m x0.Row x1) < 0)) (-1) (cond (decide ((laws_szIntS_m x0.Set (laws_szRow_m x0.Row x1)) < 0)) (-1) (laws_szIntS_m x0.Set (laws_szRow_m x0.Row x1)))
theorem cb68 : Cb Try.prog 68 := ⟨Try.f68, _, Try.func68, rfl, by decide⟩
set_option maxRecDepth 10000 in
theorem laws_szAnnotated_c (w : World) (z0 : List Value) (x0 : DAnnotated) (x1 : Int) (r_0 : tyLAnnotated.rd w w.heap.size z0 x0) :
    Calls Try.prog 68 #[.agg z0.toArray, .int .i64 x1] w fun e w' => e = .returned (.int .i64 (laws_szAnnotated_m x0 x1)) ∧ Below w.heap.size w w' := by
  obtain ⟨v1, v3, rfl, r2, r4⟩ := tyLAnnotated_rd r_0
  have r9 := r2
  obtain ⟨m5, A6, c7, rfl, q8⟩ := r2
  have r14 := r4
  obtain ⟨m10, A11, c12, rfl, q13⟩ := r4
  refine call_enterM (L := [(0, .agg #[.int .i64 x0.Row.Id, .slice A6 x0.Row.Values.length c7, .slice A11 x0.Set.length c12]), (1, .int .i64 x1)]) (N := 18) Try.func68 rfl rfl (Nat.le_of_ble_eq_true rfl) (argsL_cons rfl (argsL_cons rfl argsL_nil)) ?_
  refine CM_seq ?_
  refine CM_region ?_
  refine WM_box rfl (Wd_none rfl) (by decide) (fun p15 => ?_)
  refine WM_val (fun W hm => rv_assign rfl) (Wd_none rfl) rfl (by decide) ?_
  refine WM_nil ?_
  refine QM_then ?_
  refine CM_seq ?_
  refine CM_region ?_
  refine WM_val (fun W hm => rv_field Try.underlying87 rfl Try.type49 (by decide) rfl rfl) (Wd_none rfl) rfl (by decide) ?_
  refine WM_val (fun W hm => rv_loadN (cs := [.int .i64 x0.Row.Id, .slice A6 x0.Row.Values.length c7]) Try.underlying49 Try.type49 rfl rfl (hm.boxPart (n := 0) rfl rfl)) (Wd_none rfl) rfl (by decide) ?_
  refine WM_val (fun W hm => rv_move rfl) (Wd_none rfl) rfl (by decide) ?_
  refine WM_callV cb71 rfl (fun W hm => laws_szRow_c W _ x0.Row x1 (tyLRow_mk (hm.rdS0 r9))) (Wd_none rfl) (by decide) ?_
  refine WM_val (fun W hm => rv_assign rfl) (Wd_none rfl) rfl (by decide) ?_
  refine WM_nil ?_
  refine QM_then ?_
  refine CM_seq ?_
  refine CM_seq ?_
  refine CM_region ?_
  refine WM_val (fun W hm => rv_move rfl) (Wd_none rfl) rfl (by decide) ?_
  refine WM_val (fun W hm => rv_lss rfl rfl) (Wd_none rfl) rfl (by decide) ?_
  refine WM_nil ?_
  refine QM_then ?_
  by_cases h16 : (laws_szRow_m x0.Row x1) < 0
  · have g17 : (decide ((laws_szRow_m x0.Row x1) < 0)) = true := decide_eq_true h16
    refine CM_condT rfl g17 ?_
    refine CM_seq ?_
    refine CM_region ?_
    refine WM_val (fun W hm => rv_assign rfl) (Wd_none rfl) rfl (by decide) ?_
    refine WM_nil ?_
    refine QM_then ?_
    refine CM_ret ?_
    refine QM_then_ret ?_
    exact QM_ret1 rfl rfl (fun W hm => ⟨ret_i (show laws_szAnnotated_m x0 x1 = (-1) from by unfold laws_szAnnotated_m; exact cond_t g17 (rfl)), hm.below⟩)
  · have g17 : (decide ((laws_szRow_m x0.Row x1) < 0)) = false := decide_eq_false h16
    refine CM_condF rfl g17 ?_
    refine CM_skip ?_
    refine QM_then ?_
    refine CM_seq ?_
    refine CM_region ?_
    refine WM_val (fun W hm => rv_field Try.underlying87 rfl Try.type32 (by decide) rfl rfl) (Wd_none rfl) rfl (by decide) ?_
    refine WM_val (fun W hm => rv_load Try.underlying32 rfl rfl (hm.boxCell (n := 0) (o := 2) rfl rfl)) (Wd_none rfl) rfl (by decide) ?_
    refine WM_val (fun W hm => rv_move rfl) (Wd_none rfl) rfl (by decide) ?_
    refine WM_callV cb65 rfl (fun W hm => laws_szIntS_c W _ x0.Set (laws_szRow_m x0.Row x1) (hm.rdS0 r14)) (Wd_none rfl) (by decide) ?_
    refine WM_val (fun W hm => rv_assign rfl) (Wd_none rfl) rfl (by decide) ?_
    refine WM_nil ?_
    refine QM_then ?_
    refine CM_seq ?_
    refine CM_seq ?_
    refine CM_region ?_
    refine WM_val (fun W hm => rv_move rfl) (Wd_none rfl) rfl (by decide) ?_
    refine WM_val (fun W hm => rv_lss rfl rfl) (Wd_none rfl) rfl (by decide) ?_
    refine WM_nil ?_
    refine QM_then ?_
    by_cases h18 : (laws_szIntS_m x0.Set (laws_szRow_m x0.Row x1)) < 0
    · have g19 : (decide ((laws_szIntS_m x0.Set (laws_szRow_m x0.Row x1)) < 0)) = true := decide_eq_true h18
      refine CM_condT rfl g19 ?_
      refine CM_seq ?_
      refine CM_region ?_
      refine WM_val (fun W hm => rv_assign rfl) (Wd_none rfl) rfl (by decide) ?_
      refine WM_nil ?_
      refine QM_then ?_
      refine CM_ret ?_
      refine QM_then_ret ?_
      exact QM_ret1 rfl rfl (fun W hm => ⟨ret_i (show laws_szAnnotated_m x0 x1 = (-1) from by unfold laws_szAnnotated_m; exact cond_f g17 (cond_t g19 (rfl))), hm.below⟩)
    · have g19 : (decide ((laws_szIntS_m x0.Set (laws_szRow_m x0.Row x1)) < 0)) = false := decide_eq_false h18
      refine CM_condF rfl g19 ?_
      refine CM_skip ?_
      refine QM_then ?_
      refine CM_seq ?_
      refine CM_region ?_
      refine WM_val (fun W hm => rv_move rfl) (Wd_none rfl) rfl (by decide) ?_
      refine WM_val (fun W hm => rv_assign rfl) (Wd_none rfl) rfl (by decide) ?_
      refine WM_nil ?_
      refine QM_then ?_
      refine CM_ret ?_
      exact QM_ret1 rfl rfl (fun W hm => ⟨ret_i (show laws_szAnnotated_m x0 x1 = (laws_szIntS_m x0.Set (laws_szRow_m x0.Row x1)) from by unfold laws_szAnnotated_m; exact cond_f g17 (cond_f g19 (rfl))), hm.below⟩)

def laws_szAnnotatedS_b1 (x0 : (List DAnnotated)) (k8 : Nat) (s9 : Int) : Int ⊕ (Int) :=
  cond (decide ((laws_szAnnotated_m (gt x0 k8) s9) < 0)) (Sum.inl (-1)) (Sum.inr (laws_szAnnotated_m (gt x0 k8) s9))
def laws_szAnnotatedS_m (x0 : (List DAnnotated)) (x1 : Int) : Int :=
  cond (decide ((IntKind.i64.wrap (x1 - ((x0.length : Nat) : Int))) < 0)) (-1) (Sum.elim id (fun (s : Int) => s) (rng (R := Int) (fun k (s : Int) => laws_szAnnotatedS_b1 x0 k s) (x0.length - 0) 0 (IntKind.i64.wrap (x1 - ((x0.length : Nat) : Int)))))
theorem cb29 : Cb Try.prog 29 := ⟨Try.f29, _, Try.func29, rfl, by decide⟩
set_option maxRecDepth 10000 in
theorem laws_szAnnotatedS_c (w : World) (z0 : Value) (x0 : (List DAnnotated)) (x1 : Int) (r_0 : rdS tyLAnnotated w w.heap.size z0 x0) :
    Calls Try.prog 29 #[z0, .int .i64 x1] w fun e w' => e = .returned (.int .i64 (laws_szAnnotatedS_m x0 x1)) ∧ Below w.heap.size w w' := by
  have r5 := r_0
  obtain ⟨m1, A2, c3, rfl, q4⟩ := r_0
  refine call_enterM (L := [(0, .slice A2 x0.length c3), (1, .int .i64 x1)]) (N := 27) Try.func29 rfl rfl (Nat.le_of_ble_eq_true rfl) (argsL_cons rfl (argsL_cons rfl argsL_nil)) ?_
  refine CM_seq ?_
  refine CM_region ?_
  refine WM_val (fun W hm => rv_assign rfl) (Wd_none rfl) rfl (by decide) ?_
  refine WM_nil ?_
  refine QM_then ?_
  refine CM_seq ?_
  refine CM_region ?_
  refine WM_val (fun W hm => rv_move rfl) (Wd_none rfl) rfl (by decide) ?_
  refine WM_val (fun W hm => rv_move rfl) (Wd_none rfl) rfl (by decide) ?_
  refine WM_val (fun W hm => rv_len Try.underlying41 rfl) (Wd_none rfl) rfl (by decide) ?_
  refine WM_val (fun W hm => rv_sub rfl rfl) (Wd_none rfl) rfl (by decide) ?_
  refine WM_val (fun W hm => rv_assign rfl) (Wd_none rfl) rfl (by decide) ?_
  refine WM_nil ?_
  refine QM_then ?_
  refine CM_seq ?_
  refine CM_seq ?_
  refine CM_region ?_
  refine WM_val (fun W hm => rv_move rfl) (Wd_none rfl) rfl (by decide) ?_
  refine WM_val (fun W hm => rv_lss rfl rfl) (Wd_none rfl) rfl (by decide) ?_
  refine WM_nil ?_
  refine QM_then ?_
  by_cases h6 : (IntKind.i64.wrap (x1 - ((x0.length : Nat) : Int))) < 0
  · have g7 : (decide ((IntKind.i64.wrap (x1 - ((x0.length : Nat) : Int))) < 0)) = true := decide_eq_true h6
    refine CM_condT rfl g7 ?_
    refine CM_seq ?_
    refine CM_region ?_
    refine WM_val (fun W hm => rv_assign rfl) (Wd_none rfl) rfl (by decide) ?_
    refine WM_nil ?_
    refine QM_then ?_
    refine CM_ret ?_
    refine QM_then_ret ?_
    exact QM_ret1 rfl rfl (fun W hm => ⟨ret_i (show laws_szAnnotatedS_m x0 x1 = (-1) from by unfold laws_szAnnotatedS_m; exact cond_t g7 (rfl)), hm.below⟩)
  · have g7 : (decide ((IntKind.i64.wrap (x1 - ((x0.length : Nat) : Int))) < 0)) = false := decide_eq_false h6
    refine CM_condF rfl g7 ?_
    refine CM_skip ?_
    refine QM_then ?_
    refine CM_seq ?_
    refine CM_seq ?_
    refine CM_region ?_
    refine WM_val (fun W hm => rv_assign rfl) (Wd_none rfl) rfl (by decide) ?_
    refine WM_nil ?_
    refine QM_then ?_
    refine CM_block ?_
    refine CM_loop (σ := Nat × (Int) × (Unit)) (fun s => [(0, .slice A2 x0.length c3), (1, .int .i64 s.2.1), (5, .int .i64 ((s.1 : Nat) : Int))]) (fun s => []) (fun s => s.1 ≤ x0.length ∧ rng (R := Int) (fun k (s : Int) => laws_szAnnotatedS_b1 x0 k s) (x0.length - s.1) s.1 s.2.1 = rng (R := Int) (fun k (s : Int) => laws_szAnnotatedS_b1 x0 k s) (x0.length - 0) 0 (IntKind.i64.wrap (x1 - ((x0.length : Nat) : Int)))) (fun s => x0.length - s.1) (0, (IntKind.i64.wrap (x1 - ((x0.length : Nat) : Int))), ()) (subL_cons rfl (subL_cons rfl (subL_cons rfl subL_nil))) (fun W hm => hm) ⟨(by omega), rfl⟩ ?_
    rintro ⟨k8, s9, ⟨⟩⟩ H12
    obtain ⟨hk10, hF11⟩ : k8 ≤ x0.length ∧ rng (R := Int) (fun k (s : Int) => laws_szAnnotatedS_b1 x0 k s) (x0.length - k8) k8 s9 = rng (R := Int) (fun k (s : Int) => laws_szAnnotatedS_b1 x0 k s) (x0.length - 0) 0 (IntKind.i64.wrap (x1 - ((x0.length : Nat) : Int))) := H12
    show CM Try.prog 27 _ _ _ _ [(0, .slice A2 x0.length c3), (1, .int .i64 s9), (5, .int .i64 ((k8 : Nat) : Int))] []
    refine CM_seq ?_
    refine CM_seq ?_
    refine CM_region ?_
    refine WM_val (fun W hm => rv_move rfl) (Wd_none rfl) rfl (by decide) ?_
    refine WM_val (fun W hm => rv_move rfl) (Wd_none rfl) rfl (by decide) ?_
    refine WM_val (fun W hm => rv_len Try.underlying41 rfl) (Wd_none rfl) rfl (by decide) ?_
    refine WM_val (fun W hm => rv_lss rfl rfl) (Wd_none rfl) rfl (by decide) ?_
    refine WM_nil ?_
    refine QM_then ?_
    by_cases hl13 : k8 < x0.length
    · have g14 : (decide (((k8 : Nat) : Int) < ((x0.length : Nat) : Int))) = true := decide_eq_true (by omega)
      refine CM_condT rfl g14 ?_
      refine CM_skip ?_
      refine QM_then ?_
      refine CM_seq ?_
      refine CM_block ?_
      refine CM_seq ?_
      refine CM_region ?_
      refine WM_val (fun W hm => rv_move rfl) (Wd_none rfl) rfl (by decide) ?_
      refine WM_val (fun W hm => rv_move rfl) (Wd_none rfl) rfl (by decide) ?_
      obtain ⟨a15, rfl, hb16, he17⟩ := q4 (by omega)
      refine WM_val (fun W hm => rv_index (sz := 3) (k := k8) Try.underlying41 Try.type87 rfl rfl rfl (by omega)) (Wd_none rfl) rfl (by decide) ?_
      obtain ⟨_, e23, hc18⟩ := he17 k8 _ (gt_some (show k8 < x0.length from by omega))
      obtain ⟨v19, v21, rfl, r20, r22⟩ := tyLAnnotated_rd e23
      have r28 := r20
      obtain ⟨m24, A25, c26, rfl, q27⟩ := r20
      have r33 := r22
      obtain ⟨m29, A30, c31, rfl, q32⟩ := r22
      refine WM_val (fun W hm => rv_loadN (cs := [.int .i64 ((gt x0 k8).Row.Id), .slice A25 ((gt x0 k8).Row.Values).length c26, .slice A30 ((gt x0 k8).Set).length c31]) Try.underlying87 Try.type87 rfl rfl (hm.elCells (show (a15.add (k8 * 3)).block < w.heap.size from by rw [add_block]; exact hb16) hc18)) (Wd_none rfl) rfl (by decide) ?_
      refine WM_val (fun W hm => rv_move rfl) (Wd_none rfl) rfl (by decide) ?_
      refine WM_callV cb68 rfl (fun W hm => laws_szAnnotated_c W _ (gt x0 k8) s9 (tyLAnnotated_mk (hm.rdS0 r28) (hm.rdS0 r33))) (Wd_none rfl) (by decide) ?_
      refine WM_val (fun W hm => rv_assign rfl) (Wd_none rfl) rfl (by decide) ?_
      refine WM_nil ?_
      refine QM_then ?_
      refine CM_seq ?_
      refine CM_region ?_
      refine WM_val (fun W hm => rv_move rfl) (Wd_none rfl) rfl (by decide) ?_
      refine WM_val (fun W hm => rv_lss rfl rfl) (Wd_none rfl) rfl (by decide) ?_
      refine WM_nil ?_
      refine QM_then ?_
      by_cases h34 : (laws_szAnnotated_m (gt x0 k8) s9) < 0
      · have g35 : (decide ((laws_szAnnotated_m (gt x0 k8) s9) < 0)) = true := decide_eq_true h34
        refine CM_condT rfl g35 ?_
        refine CM_seq ?_
        refine CM_region ?_
        refine WM_val (fun W hm => rv_assign rfl) (Wd_none rfl) rfl (by decide) ?_
        refine WM_nil ?_
        refine QM_then ?_
        refine CM_ret ?_
        refine QM_block_ret ?_
        refine QM_then_ret ?_
        refine QM_then_ret ?_
        refine QM_block_ret ?_
        refine QM_then_ret ?_
        exact QM_ret1 rfl rfl (fun W hm => ⟨ret_i (show laws_szAnnotatedS_m x0 x1 = (-1) from by unfold laws_szAnnotatedS_m; exact cond_f g7 (fin_inl (rng_ret (body := (fun k (s : Int) => laws_szAnnotatedS_b1 x0 k s)) (k := k8) (s := s9) (show k8 < x0.length from by omega) (show laws_szAnnotatedS_b1 x0 k8 s9 = Sum.inl (-1) from by unfold laws_szAnnotatedS_b1; exact cond_t g35 (rfl)) hF11) rfl)), hm.below⟩)
      · have g35 : (decide ((laws_szAnnotated_m (gt x0 k8) s9) < 0)) = false := decide_eq_false h34
        refine CM_condF rfl g35 ?_
        refine CM_skip ?_
        refine QM_block_normal ?_
        refine QM_then ?_
        refine CM_region ?_
        refine WM_val (fun W hm => rv_move rfl) (Wd_none rfl) rfl (by decide) ?_
        refine WM_val (fun W hm => rv_addN (p := k8) (q := 1) rfl rfl (by omega)) (Wd_none rfl) rfl (by decide) ?_
        refine WM_val (fun W hm => rv_assign rfl) (Wd_none rfl) rfl (by decide) ?_
        refine WM_nil ?_
        have hn36 := rng_next (R := Int) (body := (fun k (s : Int) => laws_szAnnotatedS_b1 x0 k s)) (k := k8) (s := s9) (s' := (laws_szAnnotated_m (gt x0 k8) s9)) (show k8 < x0.length from by omega) (show laws_szAnnotatedS_b1 x0 k8 s9 = Sum.inr (laws_szAnnotated_m (gt x0 k8) s9) from by unfold laws_szAnnotatedS_b1; exact cond_f g35 (rfl)) hF11
        exact QM_round (k8 + 1, (laws_szAnnotated_m (gt x0 k8) s9), ()) (subL_cons rfl (subL_cons rfl (subL_cons rfl subL_nil))) (fun W hm => hm) ⟨(by omega), hn36⟩ (show x0.length - (k8 + 1) < x0.length - k8 from by omega)
    · have g14 : (decide (((k8 : Nat) : Int) < ((x0.length : Nat) : Int))) = false := decide_eq_false (by omega)
      refine CM_condF rfl g14 ?_
      refine CM_exit ?_
      refine QM_then_exit ?_
      refine QM_then_exit ?_
      have hE37 : rng (R := Int) (fun k (s : Int) => laws_szAnnotatedS_b1 x0 k s) (x0.length - 0) 0 (IntKind.i64.wrap (x1 - ((x0.length : Nat) : Int))) = Sum.inr s9 := rng_end hl13 hF11
      refine QM_block_hit ?_
      refine QM_then ?_
      refine CM_seq ?_
      refine CM_region ?_
      refine WM_val (fun W hm => rv_move rfl) (Wd_none rfl) rfl (by decide) ?_
      refine WM_val (fun W hm => rv_assign rfl) (Wd_none rfl) rfl (by decide) ?_
      refine WM_nil ?_
      refine QM_then ?_
      refine CM_ret ?_
      exact QM_ret1 rfl rfl (fun W hm => ⟨ret_i (show laws_szAnnotatedS_m x0 x1 = s9 from by unfold laws_szAnnotatedS_m; exact cond_f g7 (fin_inr hE37 (rfl))), hm.below⟩)

def laws_toIntS_b1 (x0 : (List Int)) (k9 : Nat) (d10 : (List Int)) : (List Int) ⊕ ((List Int)) :=
  Sum.inr (d10.set k9 (gt x0 k9))
def laws_toIntS_m (x0 : (List Int)) : (List Int) :=
  Sum.elim id (fun (s : (List Int)) => s) (rng (R := (List Int)) (fun k (s : (List Int)) => laws_toIntS_b1 x0 k s) (x0.length - 0) 0 (List.replicate x0.length (0 : Int)))
theorem cb59 : Cb Try.prog 59 := ⟨Try.f59, _, Try.func59, rfl, by decide⟩
set_option maxRecDepth 10000 in
theorem laws_toIntS_c (w : World) (z0 : Value) (x0 : (List Int)) (r_0 : rdS tInt w w.heap.size z0 x0) (s_0 : x0.length ≤ 68719476736) :
    Calls Try.prog 59 #[z0] w fun e w' => ∃ v : Value, e = .returned (v) ∧ Mem w.heap.size w [iOwn (tSl tInt 3) [v] (laws_toIntS_m x0)] w' := by
  have r5 := r_0
  obtain ⟨m1, A2, c3, rfl, q4⟩ := r_0
  have l6 : x0.length ≤ 68719476736 := s_0
  refine call_enterM (L := [(0, .slice A2 x0.length c3)]) (N := 22) Try.func59 rfl rfl (Nat.le_of_ble_eq_true rfl) (argsL_cons rfl argsL_nil) ?_
  refine CM_seq ?_
  refine CM_region ?_
  refine WM_val (fun W hm => rv_assign rfl) (Wd_none rfl) rfl (by decide) ?_
  refine WM_nil ?_
  refine QM_then ?_
  refine CM_seq ?_
  refine CM_region ?_
  refine WM_val (fun W hm => rv_move rfl) (Wd_none rfl) rfl (by decide) ?_
  refine WM_val (fun W hm => rv_len Try.underlying32 rfl) (Wd_none rfl) rfl (by decide) ?_
  refine WM_make (E := tInt) (n := x0.length) (x0 := (0 : Int)) Try.underlying32 Try.type3 rfl rfl rfl (fun _ => tInt_own) rfl rfl (show x0.length * 8 ≤ 281474976710656 from by omega) (by omega) (Wd_none rfl) (by decide) (fun p7 => ?_)
  refine WM_val (fun W hm => rv_assign rfl) (Wd_none rfl) rfl (by decide) ?_
  refine WM_nil ?_
  refine QM_then ?_
  refine CM_seq ?_
  refine CM_seq ?_
  refine CM_region ?_
  refine WM_val (fun W hm => rv_assign rfl) (Wd_none rfl) rfl (by decide) ?_
  refine WM_nil ?_
  refine QM_then ?_
  refine CM_block ?_
  refine CM_loop (σ := Nat × ((List Int)) × (Unit)) (fun s => [(0, .slice A2 x0.length c3), (3, .slice (some ⟨p7, 0, none⟩) x0.length x0.length), (4, .int .i64 ((s.1 : Nat) : Int))]) (fun s => [iOwn (tSl tInt 3) [.slice (some ⟨p7, 0, none⟩) x0.length x0.length] s.2.1]) (fun s => s.1 ≤ x0.length ∧ rng (R := (List Int)) (fun k (s : (List Int)) => laws_toIntS_b1 x0 k s) (x0.length - s.1) s.1 s.2.1 = rng (R := (List Int)) (fun k (s : (List Int)) => laws_toIntS_b1 x0 k s) (x0.length - 0) 0 (List.replicate x0.length (0 : Int))) (fun s => x0.length - s.1) (0, (List.replicate x0.length (0 : Int)), ()) (subL_cons rfl (subL_cons rfl (subL_cons rfl subL_nil))) (fun W hm => hm) ⟨(by omega), rfl⟩ ?_
  rintro ⟨k9, d10, ⟨⟩⟩ H13
  obtain ⟨hk11, hF12⟩ : k9 ≤ x0.length ∧ rng (R := (List Int)) (fun k (s : (List Int)) => laws_toIntS_b1 x0 k s) (x0.length - k9) k9 d10 = rng (R := (List Int)) (fun k (s : (List Int)) => laws_toIntS_b1 x0 k s) (x0.length - 0) 0 (List.replicate x0.length (0 : Int)) := H13
  show CM Try.prog 22 _ _ _ _ [(0, .slice A2 x0.length c3), (3, .slice (some ⟨p7, 0, none⟩) x0.length x0.length), (4, .int .i64 ((k9 : Nat) : Int))] [iOwn (tSl tInt 3) [.slice (some ⟨p7, 0, none⟩) x0.length x0.length] d10]
  refine CM_seq ?_
  refine CM_seq ?_
  refine CM_region ?_
  refine WM_val (fun W hm => rv_move rfl) (Wd_none rfl) rfl (by decide) ?_
  refine WM_val (fun W hm => rv_move rfl) (Wd_none rfl) rfl (by decide) ?_
  refine WM_val (fun W hm => rv_len Try.underlying32 rfl) (Wd_none rfl) rfl (by decide) ?_
  refine WM_val (fun W hm => rv_lss rfl rfl) (Wd_none rfl) rfl (by decide) ?_
  refine WM_nil ?_
  refine QM_then ?_
  by_cases hl14 : k9 < x0.length
  · have g15 : (decide (((k9 : Nat) : Int) < ((x0.length : Nat) : Int))) = true := decide_eq_true (by omega)
    refine CM_condT rfl g15 ?_
    refine CM_skip ?_
    refine QM_then ?_
    refine CM_seq ?_
    refine CM_block ?_
    refine CM_region ?_
    refine WM_val (fun W hm => rv_move rfl) (Wd_none rfl) rfl (by decide) ?_
    refine WM_val (fun W hm => rv_move rfl) (Wd_none rfl) rfl (by decide) ?_
    refine WM_val (fun W hm => rv_move rfl) (Wd_none rfl) rfl (by decide) ?_
    refine WM_val (fun W hm => rv_move rfl) (Wd_none rfl) rfl (by decide) ?_
    obtain ⟨a16, rfl, hb17, he18⟩ := q4 (by omega)
    refine WM_val (fun W hm => rv_index (sz := 1) (k := k9) Try.underlying32 Try.type3 rfl rfl rfl (by omega)) (Wd_none rfl) rfl (by decide) ?_
    refine WM_val (fun W hm => rv_load Try.underlying3 rfl rfl ((hm.cell0 (show (a16.add (k9 * 1)).block < w.heap.size from by rw [add_block]; exact hb17)).trans (rdS_int he18 k9 (by omega)))) (Wd_none rfl) rfl (by decide) ?_
    refine WM_val (fun W hm => rv_index (sz := 1) (k := k9) Try.underlying32 Try.type3 rfl rfl rfl (by omega)) (Wd_none rfl) rfl (by decide) ?_
    refine WM_setEl (E := tInt) (e := 3) (u := .int .i64 (gt x0 k9)) (k := k9) (p := p7) (n := x0.length) (xs := d10) (eis := []) (js := []) (yv := (gt x0 k9)) (fun W hm => (hm.front (n := 0) rfl)) (fun _ _ hs => (Sep.nil hs ▸ tInt_own)) rfl Try.type3 rfl (by omega) rfl rfl (Wd_none rfl) ?_
    refine WM_nil ?_
    refine QM_block_normal ?_
    refine QM_then ?_
    refine CM_region ?_
    refine WM_val (fun W hm => rv_move rfl) (Wd_none rfl) rfl (by decide) ?_
    refine WM_val (fun W hm => rv_addN (p := k9) (q := 1) rfl rfl (by omega)) (Wd_none rfl) rfl (by decide) ?_
    refine WM_val (fun W hm => rv_assign rfl) (Wd_none rfl) rfl (by decide) ?_
    refine WM_nil ?_
    have hn19 := rng_next (R := (List Int)) (body := (fun k (s : (List Int)) => laws_toIntS_b1 x0 k s)) (k := k9) (s := d10) (s' := (d10.set k9 (gt x0 k9))) (show k9 < x0.length from by omega) (show laws_toIntS_b1 x0 k9 d10 = Sum.inr (d10.set k9 (gt x0 k9)) from by unfold laws_toIntS_b1; exact rfl) hF12
    exact QM_round (k9 + 1, (d10.set k9 (gt x0 k9)), ()) (subL_cons rfl (subL_cons rfl (subL_cons rfl subL_nil))) (fun W hm => (hm.front (n := 0) rfl)) ⟨(by omega), hn19⟩ (show x0.length - (k9 + 1) < x0.length - k9 from by omega)
  · have g15 : (decide (((k9 : Nat) : Int) < ((x0.length : Nat) : Int))) = false := decide_eq_false (by omega)
    refine CM_condF rfl g15 ?_
    refine CM_exit ?_
    refine QM_then_exit ?_
    refine QM_then_exit ?_
    have hE20 : rng (R := (List Int)) (fun k (s : (List Int)) => laws_toIntS_b1 x0 k s) (x0.length - 0) 0 (List.replicate x0.length (0 : Int)) = Sum.inr d10 := rng_end hl14 hF12
    refine QM_block_hit ?_
    refine QM_then ?_
    refine CM_seq ?_
    refine CM_region ?_
    refine WM_val (fun W hm => rv_move rfl) (Wd_none rfl) rfl (by decide) ?_
    refine WM_val (fun W hm => rv_assign rfl) (Wd_none rfl) rfl (by decide) ?_
    refine WM_nil ?_
    refine QM_then ?_
    refine CM_ret ?_
    refine QM_r1 rfl (RR_tmp rfl) (fun W hm => ⟨.slice (some ⟨p7, 0, none⟩) x0.length x0.length, ?_, ?_⟩)
    · first | rw [(show laws_toIntS_m x0 = d10 from by unfold laws_toIntS_m; exact fin_inr hE20 (rfl))] | rfl
    · rw [(show laws_toIntS_m x0 = d10 from by unfold laws_toIntS_m; exact fin_inr hE20 (rfl))]; exact (hm.front (n := 0) rfl)

def laws_toRow_m (x0 : DRow) : DRow :=
  ⟨x0.Id, (laws_toIntS_m x0.Values)⟩
theorem cb73 : Cb Try.prog 73 := ⟨Try.f73, _, Try.func73, rfl, by decide⟩
set_option maxRecDepth 10000 in
theorem laws_toRow_c (w : World) (z0 : List Value) (x0 : DRow) (r_0 : tyLRow.rd w w.heap.size z0 x0) (s_0 : smRow 68719476736 x0) :
    Calls Try.prog 73 #[.agg z0.toArray] w fun e w' => ∃ v : List Value, e = .returned (.agg v.toArray) ∧ Mem w.heap.size w [iOwn tyRow v (laws_toRow_m x0)] w' := by
  obtain ⟨v1, rfl, r2⟩ := tyLRow_rd r_0
  have r7 := r2
  obtain ⟨m3, A4, c5, rfl, q6⟩ := r2
  have l8 : x0.Values.length ≤ 68719476736 := s_0
  refine call_enterM (L := [(0, .agg #[.int .i64 x0.Id, .slice A4 x0.Values.length c5])]) (N := 12) Try.func73 rfl rfl (Nat.le_of_ble_eq_true rfl) (argsL_cons rfl argsL_nil) ?_
  refine CM_seq ?_
  refine CM_region ?_
  refine WM_box rfl (Wd_none rfl) (by decide) (fun p9 => ?_)
  refine WM_alloc Try.type54 rfl (Wd_none rfl) (by decide) (fun p10 => ?_)
  refine WM_nil ?_
  refine QM_then ?_
  refine CM_seq ?_
  refine CM_region ?_
  refine WM_alloc Try.type54 rfl (Wd_none rfl) (by decide) (fun p11 => ?_)
  refine WM_nil ?_
  refine QM_then ?_
  refine CM_seq ?_
  refine CM_region ?_
  refine WM_val (fun W hm => rv_field Try.underlying49 rfl Try.type3 (by decide) rfl rfl) (Wd_none rfl) rfl (by decide) ?_
  refine WM_val (fun W hm => rv_load Try.underlying3 rfl rfl (hm.boxCell (n := 2) (o := 0) rfl rfl)) (Wd_none rfl) rfl (by decide) ?_
  refine WM_val (fun W hm => rv_field Try.underlying54 rfl Try.type3 (by decide) rfl rfl) (Wd_none rfl) rfl (by decide) ?_
  refine WM_storeBox (p := p11) (o := 0) (cs := [.int .i64 0, .slice none 0 0]) (cs' := [.int .i64 x0.Id, .slice none 0 0]) (fun w hm => hm.front (n := 0) rfl) Try.type3 rfl (Nat.le_of_ble_eq_true rfl) rfl rfl rfl rfl (Wd_none rfl) ?_
  refine WM_nil ?_
  refine QM_then ?_
  refine CM_seq ?_
  refine CM_region ?_
  refine WM_val (fun W hm => rv_field Try.underlying49 rfl Try.type32 (by decide) rfl rfl) (Wd_none rfl) rfl (by decide) ?_
  refine WM_val (fun W hm => rv_load Try.underlying32 rfl rfl (hm.boxCell (n := 2) (o := 1) rfl rfl)) (Wd_none rfl) rfl (by decide) ?_
  refine WM_call (χ := Value) (val := fun x => x) (js := fun x => [iOwn (tSl tInt 3) [x] (laws_toIntS_m x0.Values)]) cb59 rfl (fun W hm => laws_toIntS_c W _ x0.Values (hm.rdS0 r7) s_0) (Wd_none rfl) (by decide) (fun z12 => ?_)
  refine WM_form (n := 0) rfl ?_
  rintro A13 c14 rfl m15
  refine WM_val (fun W hm => rv_field Try.underlying54 rfl Try.type32 (by decide) rfl rfl) (Wd_none rfl) rfl (by decide) ?_
  refine WM_storeBox (p := p11) (o := 1) (cs := [.int .i64 x0.Id, .slice none 0 0]) (cs' := [.int .i64 x0.Id, .slice A13 (laws_toIntS_m x0.Values).length c14]) (fun w hm => hm.front (n := 1) rfl) Try.type32 rfl (Nat.le_of_ble_eq_true rfl) rfl rfl rfl rfl (Wd_none rfl) ?_
  refine WM_nil ?_
  refine QM_then ?_
  refine CM_seq ?_
  refine CM_region ?_
  refine WM_val (fun W hm => rv_loadN (cs := [.int .i64 x0.Id, .slice A13 (laws_toIntS_m x0.Values).length c14]) Try.underlying54 Try.type54 rfl rfl (hm.boxCells (n := 0) rfl)) (Wd_none rfl) rfl (by decide) ?_
  refine WM_storeBox (p := p10) (o := 0) (cs := [.int .i64 0, .slice none 0 0]) (cs' := [.int .i64 x0.Id, .slice A13 (laws_toIntS_m x0.Values).length c14]) (fun w hm => hm.front (n := 2) rfl) Try.type54 rfl (Nat.le_of_ble_eq_true rfl) rfl rfl rfl rfl (Wd_none rfl) ?_
  refine WM_nil ?_
  refine QM_then ?_
  refine CM_ret ?_
  refine QM_r1 rfl (RR_cell (n := 0) rfl rfl Try.underlying54 Try.type54 rfl) (fun W hm => ⟨[.int .i64 x0.Id, .slice A13 (laws_toIntS_m x0.Values).length c14], ?_, ?_⟩)
  · first | rw [(show laws_toRow_m x0 = ⟨x0.Id, (laws_toIntS_m x0.Values)⟩ from by unfold laws_toRow_m; exact rfl)] | rfl
  · rw [(show laws_toRow_m x0 = ⟨x0.Id, (laws_toIntS_m x0.Values)⟩ from by unfold laws_toRow_m; exact rfl)]; exact Mem.join (is := [iOwn (tSl tInt 3) [.slice A13 (laws_toIntS_m x0.Values).length c14] (laws_toIntS_m x0.Values)]) (js := []) (fun _ _ hs => tyRow_join (x := (⟨x0.Id, (laws_toIntS_m x0.Values)⟩ : DRow)) hs) ((((hm.front (n := 2) rfl).front (n := 1) rfl).tail.front (n := 1) rfl).tail.front (n := 1) rfl).tail

def laws_toAnnotated_m (x0 : DAnnotated) : DAnnotated :=
  ⟨(laws_toRow_m x0.Row), (laws_toIntS_m x0.Set)⟩
theorem cb69 : Cb Try.prog 69 := ⟨Try.f69, _, Try.func69, rfl, by decide⟩
set_option maxRecDepth 10000 in
theorem laws_toAnnotated_c (w : World) (z0 : List Value) (x0 : DAnnotated) (r_0 : tyLAnnotated.rd w w.heap.size z0 x0) (s_0 : smAnnotated 68719476736 x0) :
    Calls Try.prog 69 #[.agg z0.toArray] w fun e w' => ∃ v : List Value, e = .returned (.agg v.toArray) ∧ Mem w.heap.size w [iOwn tyAnnotated v (laws_toAnnotated_m x0)] w' := by
  obtain ⟨v1, v3, rfl, r2, r4⟩ := tyLAnnotated_rd r_0
  have r9 := r2
  obtain ⟨m5, A6, c7, rfl, q8⟩ := r2
  have r14 := r4
  obtain ⟨m10, A11, c12, rfl, q13⟩ := r4
  have l15 : x0.Row.Values.length ≤ 68719476736 := s_0.1
  have l16 : x0.Set.length ≤ 68719476736 := s_0.2
  refine call_enterM (L := [(0, .agg #[.int .i64 x0.Row.Id, .slice A6 x0.Row.Values.length c7, .slice A11 x0.Set.length c12])]) (N := 13) Try.func69 rfl rfl (Nat.le_of_ble_eq_true rfl) (argsL_cons rfl argsL_nil) ?_
  refine CM_seq ?_
  refine CM_region ?_
  refine WM_box rfl (Wd_none rfl) (by decide) (fun p17 => ?_)
  refine WM_alloc Try.type89 rfl (Wd_none rfl) (by decide) (fun p18 => ?_)
  refine WM_nil ?_
  refine QM_then ?_
  refine CM_seq ?_
  refine CM_region ?_
  refine WM_alloc Try.type89 rfl (Wd_none rfl) (by decide) (fun p19 => ?_)
  refine WM_nil ?_
  refine QM_then ?_
  refine CM_seq ?_
  refine CM_region ?_
  refine WM_val (fun W hm => rv_field Try.underlying87 rfl Try.type49 (by decide) rfl rfl) (Wd_none rfl) rfl (by decide) ?_
  refine WM_val (fun W hm => rv_loadN (cs := [.int .i64 x0.Row.Id, .slice A6 x0.Row.Values.length c7]) Try.underlying49 Try.type49 rfl rfl (hm.boxPart (n := 2) rfl rfl)) (Wd_none rfl) rfl (by decide) ?_
  refine WM_call (χ := List Value) (val := fun x => .agg x.toArray) (js := fun x => [iOwn tyRow x (laws_toRow_m x0.Row)]) cb73 rfl (fun W hm => laws_toRow_c W _ x0.Row (tyLRow_mk (hm.rdS0 r9)) s_0.1) (Wd_none rfl) (by decide) (fun z20 => ?_)
  refine WM_split (γ := Value) (js := fun g => [iOwn (tSl tInt 3) [g] ((laws_toRow_m x0.Row).Values)]) (C := fun g => z20 = [.int .i64 ((laws_toRow_m x0.Row).Id), g]) (fun _ _ h => tyRow_split h) ?_
  rintro v21 rfl
  refine WM_form (n := 0) rfl ?_
  rintro A22 c23 rfl m24
  refine WM_val (fun W hm => rv_field Try.underlying89 rfl Try.type54 (by decide) rfl rfl) (Wd_none rfl) rfl (by decide) ?_
  refine WM_storeBox (p := p19) (o := 0) (cs := [.int .i64 0, .slice none 0 0, .slice none 0 0]) (cs' := [.int .i64 ((laws_toRow_m x0.Row).Id), .slice A22 ((laws_toRow_m x0.Row).Values).length c23, .slice none 0 0]) (fun w hm => hm.front (n := 1) rfl) Try.type54 rfl (Nat.le_of_ble_eq_true rfl) rfl rfl rfl rfl (Wd_none rfl) ?_
  refine WM_nil ?_
  refine QM_then ?_
  refine CM_seq ?_
  refine CM_region ?_
  refine WM_val (fun W hm => rv_field Try.underlying87 rfl Try.type32 (by decide) rfl rfl) (Wd_none rfl) rfl (by decide) ?_
  refine WM_val (fun W hm => rv_load Try.underlying32 rfl rfl (hm.boxCell (n := 3) (o := 2) rfl rfl)) (Wd_none rfl) rfl (by decide) ?_
  refine WM_call (χ := Value) (val := fun x => x) (js := fun x => [iOwn (tSl tInt 3) [x] (laws_toIntS_m x0.Set)]) cb59 rfl (fun W hm => laws_toIntS_c W _ x0.Set (hm.rdS0 r14) s_0.2) (Wd_none rfl) (by decide) (fun z26 => ?_)
  refine WM_form (n := 0) rfl ?_
  rintro A27 c28 rfl m29
  refine WM_val (fun W hm => rv_field Try.underlying89 rfl Try.type32 (by decide) rfl rfl) (Wd_none rfl) rfl (by decide) ?_
  refine WM_storeBox (p := p19) (o := 2) (cs := [.int .i64 ((laws_toRow_m x0.Row).Id), .slice A22 ((laws_toRow_m x0.Row).Values).length c23, .slice none 0 0]) (cs' := [.int .i64 ((laws_toRow_m x0.Row).Id), .slice A22 ((laws_toRow_m x0.Row).Values).length c23, .slice A27 (laws_toIntS_m x0.Set).length c28]) (fun w hm => hm.front (n := 1) rfl) Try.type32 rfl (Nat.le_of_ble_eq_true rfl) rfl rfl rfl rfl (Wd_none rfl) ?_
  refine WM_nil ?_
  refine QM_then ?_
  refine CM_seq ?_
  refine CM_region ?_
  refine WM_val (fun W hm => rv_loadN (cs := [.int .i64 ((laws_toRow_m x0.Row).Id), .slice A22 ((laws_toRow_m x0.Row).Values).length c23, .slice A27 (laws_toIntS_m x0.Set).length c28]) Try.underlying89 Try.type89 rfl rfl (hm.boxCells (n := 0) rfl)) (Wd_none rfl) rfl (by decide) ?_
  refine WM_storeBox (p := p18) (o := 0) (cs := [.int .i64 0, .slice none 0 0, .slice none 0 0]) (cs' := [.int .i64 ((laws_toRow_m x0.Row).Id), .slice A22 ((laws_toRow_m x0.Row).Values).length c23, .slice A27 (laws_toIntS_m x0.Set).length c28]) (fun w hm => hm.front (n := 3) rfl) Try.type89 rfl (Nat.le_of_ble_eq_true rfl) rfl rfl rfl rfl (Wd_none rfl) ?_
  refine WM_nil ?_
  refine QM_then ?_
  refine CM_ret ?_
  refine QM_r1 rfl (RR_cell (n := 0) rfl rfl Try.underlying89 Try.type89 rfl) (fun W hm => ⟨[.int .i64 ((laws_toRow_m x0.Row).Id), .slice A22 ((laws_toRow_m x0.Row).Values).length c23, .slice A27 (laws_toIntS_m x0.Set).length c28], ?_, ?_⟩)
  · first | rw [(show laws_toAnnotated_m x0 = ⟨(laws_toRow_m x0.Row), (laws_toIntS_m x0.Set)⟩ from by unfold laws_toAnnotated_m; exact rfl)] | rfl
  · rw [(show laws_toAnnotated_m x0 = ⟨(laws_toRow_m x0.Row), (laws_toIntS_m x0.Set)⟩ from by unfold laws_toAnnotated_m; exact rfl)]; exact Mem.join (is := [iOwn (tSl tInt 3) [.slice A22 ((laws_toRow_m x0.Row).Values).length c23] ((laws_toRow_m x0.Row).Values), iOwn (tSl tInt 3) [.slice A27 (laws_toIntS_m x0.Set).length c28] (laws_toIntS_m x0.Set)]) (js := []) (fun _ _ hs => tyAnnotated_join (x := (⟨(laws_toRow_m x0.Row), (laws_toIntS_m x0.Set)⟩ : DAnnotated)) hs) (((((hm.front (n := 2) rfl).front (n := 3) rfl).front (n := 2) rfl).tail.front (n := 2) rfl).tail.front (n := 2) rfl).tail

def laws_toAnnotatedS_b1 (x0 : (List DAnnotated)) (k9 : Nat) (d10 : (List DAnnotated)) : (List DAnnotated) ⊕ ((List DAnnotated)) :=
  Sum.inr (d10.set k9 (laws_toAnnotated_m (gt x0 k9)))
def laws_toAnnotatedS_m (x0 : (List DAnnotated)) : (List DAnnotated) :=
  Sum.elim id (fun (s : (List DAnnotated)) => s) (rng (R := (List DAnnotated)) (fun k (s : (List DAnnotated)) => laws_toAnnotatedS_b1 x0 k s) (x0.length - 0) 0 (List.replicate x0.length (⟨(⟨(0 : Int), []⟩ : DRow), []⟩ : DAnnotated)))
theorem cb31 : Cb Try.prog 31 := ⟨Try.f31, _, Try.func31, rfl, by decide⟩
set_option maxRecDepth 10000 in
theorem laws_toAnnotatedS_c (w : World) (z0 : Value) (x0 : (List DAnnotated)) (r_0 : rdS tyLAnnotated w w.heap.size z0 x0) (s_0 : (x0.length ≤ 68719476736 ∧ ∀ y ∈ x0, smAnnotated 68719476736 y)) :
    Calls Try.prog 31 #[z0] w fun e w' => ∃ v : Value, e = .returned (v) ∧ Mem w.heap.size w [iOwn (tSl tyAnnotated 89) [v] (laws_toAnnotatedS_m x0)] w' := by
  have r5 := r_0
  obtain ⟨m1, A2, c3, rfl, q4⟩ := r_0
  have l6 : x0.length ≤ 68719476736 := s_0.1
  refine call_enterM (L := [(0, .slice A2 x0.length c3)]) (N := 23) Try.func31 rfl rfl (Nat.le_of_ble_eq_true rfl) (argsL_cons rfl argsL_nil) ?_
  refine CM_seq ?_
  refine CM_region ?_
  refine WM_val (fun W hm => rv_assign rfl) (Wd_none rfl) rfl (by decide) ?_
  refine WM_nil ?_
  refine QM_then ?_
  refine CM_seq ?_
  refine CM_region ?_
  refine WM_val (fun W hm => rv_move rfl) (Wd_none rfl) rfl (by decide) ?_
  refine WM_val (fun W hm => rv_len Try.underlying41 rfl) (Wd_none rfl) rfl (by decide) ?_
  refine WM_make (E := tyAnnotated) (n := x0.length) (x0 := (⟨(⟨(0 : Int), []⟩ : DRow), []⟩ : DAnnotated)) Try.underlying44 Try.type89 rfl rfl rfl (fun _ => ⟨[], [], _, _, rfl, rfl, ⟨[], [], _, _, rfl, rfl, tInt_own, own_nil⟩, own_nil⟩) rfl rfl (show x0.length * 56 ≤ 281474976710656 from by omega) (by omega) (Wd_none rfl) (by decide) (fun p7 => ?_)
  refine WM_val (fun W hm => rv_assign rfl) (Wd_none rfl) rfl (by decide) ?_
  refine WM_nil ?_
  refine QM_then ?_
  refine CM_seq ?_
  refine CM_seq ?_
  refine CM_region ?_
  refine WM_val (fun W hm => rv_assign rfl) (Wd_none rfl) rfl (by decide) ?_
  refine WM_nil ?_
  refine QM_then ?_
  refine CM_block ?_
  refine CM_loop (σ := Nat × ((List DAnnotated)) × (Unit)) (fun s => [(0, .slice A2 x0.length c3), (3, .slice (some ⟨p7, 0, none⟩) x0.length x0.length), (4, .int .i64 ((s.1 : Nat) : Int))]) (fun s => [iOwn (tSl tyAnnotated 89) [.slice (some ⟨p7, 0, none⟩) x0.length x0.length] s.2.1]) (fun s => s.1 ≤ x0.length ∧ rng (R := (List DAnnotated)) (fun k (s : (List DAnnotated)) => laws_toAnnotatedS_b1 x0 k s) (x0.length - s.1) s.1 s.2.1 = rng (R := (List DAnnotated)) (fun k (s : (List DAnnotated)) => laws_toAnnotatedS_b1 x0 k s) (x0.length - 0) 0 (List.replicate x0.length (⟨(⟨(0 : Int), []⟩ : DRow), []⟩ : DAnnotated))) (fun s => x0.length - s.1) (0, (List.replicate x0.length (⟨(⟨(0 : Int), []⟩ : DRow), []⟩ : DAnnotated)), ()) (subL_cons rfl (subL_cons rfl (subL_cons rfl subL_nil))) (fun W hm => hm) ⟨(by omega), rfl⟩ ?_
  rintro ⟨k9, d10, ⟨⟩⟩ H13
  obtain ⟨hk11, hF12⟩ : k9 ≤ x0.length ∧ rng (R := (List DAnnotated)) (fun k (s : (List DAnnotated)) => laws_toAnnotatedS_b1 x0 k s) (x0.length - k9) k9 d10 = rng (R := (List DAnnotated)) (fun k (s : (List DAnnotated)) => laws_toAnnotatedS_b1 x0 k s) (x0.length - 0) 0 (List.replicate x0.length (⟨(⟨(0 : Int), []⟩ : DRow), []⟩ : DAnnotated)) := H13
  show CM Try.prog 23 _ _ _ _ [(0, .slice A2 x0.length c3), (3, .slice (some ⟨p7, 0, none⟩) x0.length x0.length), (4, .int .i64 ((k9 : Nat) : Int))] [iOwn (tSl tyAnnotated 89) [.slice (some ⟨p7, 0, none⟩) x0.length x0.length] d10]
  refine CM_seq ?_
  refine CM_seq ?_
  refine CM_region ?_
  refine WM_val (fun W hm => rv_move rfl) (Wd_none rfl) rfl (by decide) ?_
  refine WM_val (fun W hm => rv_move rfl) (Wd_none rfl) rfl (by decide) ?_
  refine WM_val (fun W hm => rv_len Try.underlying41 rfl) (Wd_none rfl) rfl (by decide) ?_
  refine WM_val (fun W hm => rv_lss rfl rfl) (Wd_none rfl) rfl (by decide) ?_
  refine WM_nil ?_
  refine QM_then ?_
  by_cases hl14 : k9 < x0.length
  · have g15 : (decide (((k9 : Nat) : Int) < ((x0.length : Nat) : Int))) = true := decide_eq_true (by omega)
    refine CM_condT rfl g15 ?_
    refine CM_skip ?_
    refine QM_then ?_
    refine CM_seq ?_
    refine CM_block ?_
    refine CM_region ?_
    refine WM_val (fun W hm => rv_move rfl) (Wd_none rfl) rfl (by decide) ?_
    refine WM_val (fun W hm => rv_move rfl) (Wd_none rfl) rfl (by decide) ?_
    refine WM_val (fun W hm => rv_move rfl) (Wd_none rfl) rfl (by decide) ?_
    refine WM_val (fun W hm => rv_move rfl) (Wd_none rfl) rfl (by decide) ?_
    obtain ⟨a16, rfl, hb17, he18⟩ := q4 (by omega)
    refine WM_val (fun W hm => rv_index (sz := 3) (k := k9) Try.underlying41 Try.type87 rfl rfl rfl (by omega)) (Wd_none rfl) rfl (by decide) ?_
    obtain ⟨_, e24, hc19⟩ := he18 k9 _ (gt_some (show k9 < x0.length from by omega))
    obtain ⟨v20, v22, rfl, r21, r23⟩ := tyLAnnotated_rd e24
    have l25 : ((gt x0 k9).Row.Values).length ≤ 68719476736 := (s_0.2 _ (gt_mem (show k9 < x0.length from by omega))).1
    have l26 : ((gt x0 k9).Set).length ≤ 68719476736 := (s_0.2 _ (gt_mem (show k9 < x0.length from by omega))).2
    have r31 := r21
    obtain ⟨m27, A28, c29, rfl, q30⟩ := r21
    have r36 := r23
    obtain ⟨m32, A33, c34, rfl, q35⟩ := r23
    refine WM_val (fun W hm => rv_loadN (cs := [.int .i64 ((gt x0 k9).Row.Id), .slice A28 ((gt x0 k9).Row.Values).length c29, .slice A33 ((gt x0 k9).Set).length c34]) Try.underlying87 Try.type87 rfl rfl (hm.elCells (show (a16.add (k9 * 3)).block < w.heap.size from by rw [add_block]; exact hb17) hc19)) (Wd_none rfl) rfl (by decide) ?_
    refine WM_call (χ := List Value) (val := fun x => .agg x.toArray) (js := fun x => [iOwn tyAnnotated x (laws_toAnnotated_m (gt x0 k9))]) cb69 rfl (fun W hm => laws_toAnnotated_c W _ (gt x0 k9) (tyLAnnotated_mk (hm.rdS0 r31) (hm.rdS0 r36)) (s_0.2 _ (gt_mem (show k9 < x0.length from by omega)))) (Wd_none rfl) (by decide) (fun z37 => ?_)
    refine WM_split (γ := Value × Value) (js := fun g => [iOwn (tSl tInt 3) [g.1] ((laws_toAnnotated_m (gt x0 k9)).Row.Values), iOwn (tSl tInt 3) [g.2] ((laws_toAnnotated_m (gt x0 k9)).Set)]) (C := fun g => z37 = [.int .i64 ((laws_toAnnotated_m (gt x0 k9)).Row.Id), g.1, g.2]) (fun _ _ h => tyAnnotated_split h) ?_
    rintro ⟨v38, v39⟩ rfl
    refine WM_form (n := 0) rfl ?_
    rintro A40 c41 rfl m42
    refine WM_form (n := 1) rfl ?_
    rintro A44 c45 rfl m46
    refine WM_val (fun W hm => rv_index (sz := 3) (k := k9) Try.underlying44 Try.type89 rfl rfl rfl (by omega)) (Wd_none rfl) rfl (by decide) ?_
    refine WM_setEl (E := tyAnnotated) (e := 89) (u := .agg #[.int .i64 ((laws_toAnnotated_m (gt x0 k9)).Row.Id), .slice A40 ((laws_toAnnotated_m (gt x0 k9)).Row.Values).length c41, .slice A44 ((laws_toAnnotated_m (gt x0 k9)).Set).length c45]) (k := k9) (p := p7) (n := x0.length) (xs := d10) (eis := [iOwn (tSl tInt 3) [.slice A40 ((laws_toAnnotated_m (gt x0 k9)).Row.Values).length c41] ((laws_toAnnotated_m (gt x0 k9)).Row.Values), iOwn (tSl tInt 3) [.slice A44 ((laws_toAnnotated_m (gt x0 k9)).Set).length c45] ((laws_toAnnotated_m (gt x0 k9)).Set)]) (js := []) (yv := (laws_toAnnotated_m (gt x0 k9))) (fun W hm => (((hm.front (n := 1) rfl).front (n := 1) rfl).front (n := 2) rfl)) (fun _ _ hs => (tyAnnotated_join (x := (laws_toAnnotated_m (gt x0 k9))) hs)) rfl Try.type89 rfl (by omega) rfl rfl (Wd_none rfl) ?_
    refine WM_nil ?_
    refine QM_block_normal ?_
    refine QM_then ?_
    refine CM_region ?_
    refine WM_val (fun W hm => rv_move rfl) (Wd_none rfl) rfl (by decide) ?_
    refine WM_val (fun W hm => rv_addN (p := k9) (q := 1) rfl rfl (by omega)) (Wd_none rfl) rfl (by decide) ?_
    refine WM_val (fun W hm => rv_assign rfl) (Wd_none rfl) rfl (by decide) ?_
    refine WM_nil ?_
    have hn48 := rng_next (R := (List DAnnotated)) (body := (fun k (s : (List DAnnotated)) => laws_toAnnotatedS_b1 x0 k s)) (k := k9) (s := d10) (s' := (d10.set k9 (laws_toAnnotated_m (gt x0 k9)))) (show k9 < x0.length from by omega) (show laws_toAnnotatedS_b1 x0 k9 d10 = Sum.inr (d10.set k9 (laws_toAnnotated_m (gt x0 k9))) from by unfold laws_toAnnotatedS_b1; exact rfl) hF12
    exact QM_round (k9 + 1, (d10.set k9 (laws_toAnnotated_m (gt x0 k9))), ()) (subL_cons rfl (subL_cons rfl (subL_cons rfl subL_nil))) (fun W hm => (hm.front (n := 0) rfl)) ⟨(by omega), hn48⟩ (show x0.length - (k9 + 1) < x0.length - k9 from by omega)
  · have g15 : (decide (((k9 : Nat) : Int) < ((x0.length : Nat) : Int))) = false := decide_eq_false (by omega)
    refine CM_condF rfl g15 ?_
    refine CM_exit ?_
    refine QM_then_exit ?_
    refine QM_then_exit ?_
    have hE49 : rng (R := (List DAnnotated)) (fun k (s : (List DAnnotated)) => laws_toAnnotatedS_b1 x0 k s) (x0.length - 0) 0 (List.replicate x0.length (⟨(⟨(0 : Int), []⟩ : DRow), []⟩ : DAnnotated)) = Sum.inr d10 := rng_end hl14 hF12
    refine QM_block_hit ?_
    refine QM_then ?_
    refine CM_seq ?_
    refine CM_region ?_
    refine WM_val (fun W hm => rv_move rfl) (Wd_none rfl) rfl (by decide) ?_
    refine WM_val (fun W hm => rv_assign rfl) (Wd_none rfl) rfl (by decide) ?_
    refine WM_nil ?_
    refine QM_then ?_
    refine CM_ret ?_
    refine QM_r1 rfl (RR_tmp rfl) (fun W hm => ⟨.slice (some ⟨p7, 0, none⟩) x0.length x0.length, ?_, ?_⟩)
    · first | rw [(show laws_toAnnotatedS_m x0 = d10 from by unfold laws_toAnnotatedS_m; exact fin_inr hE49 (rfl))] | rfl
    · rw [(show laws_toAnnotatedS_m x0 = d10 from by unfold laws_toAnnotatedS_m; exact fin_inr hE49 (rfl))]; exact (hm.front (n := 0) rfl)

def spec_l2Ints_b1 (x0 : (List Int)) (x1 : (List Int)) (k13 : Nat) : Bool ⊕ (Unit) :=
  cond ((gt x0 k13) != (gt x1 k13)) (Sum.inl false) (Sum.inr ())
def spec_l2Ints_m (x0 : (List Int)) (x1 : (List Int)) : Bool :=
  cond (((x0.length : Nat) : Int) != ((x1.length : Nat) : Int)) false (Sum.elim id (fun (s : Unit) => true) (rng (R := Bool) (fun k (_ : Unit) => spec_l2Ints_b1 x0 x1 k) (x0.length - 0) 0 ()))
theorem cb78 : Cb Try.prog 78 := ⟨Try.f78, _, Try.func78, rfl, by decide⟩
set_option maxRecDepth 10000 in
theorem spec_l2Ints_c (w : World) (z0 : Value) (x0 : (List Int)) (z1 : Value) (x1 : (List Int)) (r_0 : rdS tInt w w.heap.size z0 x0) (r_1 : rdS tInt w w.heap.size z1 x1) :
    Calls Try.prog 78 #[z0, z1] w fun e w' => e = .returned (.bool (spec_l2Ints_m x0 x1)) ∧ Below w.heap.size w w' := by
  have r5 := r_0
  obtain ⟨m1, A2, c3, rfl, q4⟩ := r_0
  have r10 := r_1
  obtain ⟨m6, A7, c8, rfl, q9⟩ := r_1
  refine call_enterM (L := [(0, .slice A2 x0.length c3), (1, .slice A7 x1.length c8)]) (N := 26) Try.func78 rfl rfl (Nat.le_of_ble_eq_true rfl) (argsL_cons rfl (argsL_cons rfl argsL_nil)) ?_
  refine CM_seq ?_
  refine CM_region ?_
  refine WM_val (fun W hm => rv_assign rfl) (Wd_none rfl) rfl (by decide) ?_
  refine WM_nil ?_
  refine QM_then ?_
  refine CM_seq ?_
  refine CM_seq ?_
  refine CM_region ?_
  refine WM_val (fun W hm => rv_move rfl) (Wd_none rfl) rfl (by decide) ?_
  refine WM_val (fun W hm => rv_len Try.underlying32 rfl) (Wd_none rfl) rfl (by decide) ?_
  refine WM_val (fun W hm => rv_move rfl) (Wd_none rfl) rfl (by decide) ?_
  refine WM_val (fun W hm => rv_len Try.underlying32 rfl) (Wd_none rfl) rfl (by decide) ?_
  refine WM_val (fun W hm => rv_neq rfl rfl) (Wd_none rfl) rfl (by decide) ?_
  refine WM_nil ?_
  refine QM_then ?_
  by_cases h11 : ((x0.length : Nat) : Int) = ((x1.length : Nat) : Int)
  · have g12 : (((x0.length : Nat) : Int) != ((x1.length : Nat) : Int)) = false := by rw [h11]; exact bne_self_eq_false _
    refine CM_condF rfl g12 ?_
    refine CM_skip ?_
    refine QM_then ?_
    refine CM_seq ?_
    refine CM_seq ?_
    refine CM_region ?_
    refine WM_val (fun W hm => rv_assign rfl) (Wd_none rfl) rfl (by decide) ?_
    refine WM_nil ?_
    refine QM_then ?_
    refine CM_block ?_
    refine CM_loop (σ := Nat × (Unit) × (Unit)) (fun s => [(0, .slice A2 x0.length c3), (1, .slice A7 x1.length c8), (5, .int .i64 ((s.1 : Nat) : Int))]) (fun s => []) (fun s => s.1 ≤ x0.length ∧ rng (R := Bool) (fun k (_ : Unit) => spec_l2Ints_b1 x0 x1 k) (x0.length - s.1) s.1 s.2.1 = rng (R := Bool) (fun k (_ : Unit) => spec_l2Ints_b1 x0 x1 k) (x0.length - 0) 0 ()) (fun s => x0.length - s.1) (0, (), ()) (subL_cons rfl (subL_cons rfl (subL_cons rfl subL_nil))) (fun W hm => hm) ⟨(by omega), rfl⟩ ?_
    rintro ⟨k13, ⟨⟩, ⟨⟩⟩ H16
    obtain ⟨hk14, hF15⟩ : k13 ≤ x0.length ∧ rng (R := Bool) (fun k (_ : Unit) => spec_l2Ints_b1 x0 x1 k) (x0.length - k13) k13 () = rng (R := Bool) (fun k (_ : Unit) => spec_l2Ints_b1 x0 x1 k) (x0.length - 0) 0 () := H16
    show CM Try.prog 26 _ _ _ _ [(0, .slice A2 x0.length c3), (1, .slice A7 x1.length c8), (5, .int .i64 ((k13 : Nat) : Int))] []
    refine CM_seq ?_
    refine CM_seq ?_
    refine CM_region ?_
    refine WM_val (fun W hm => rv_move rfl) (Wd_none rfl) rfl (by decide) ?_
    refine WM_val (fun W hm => rv_move rfl) (Wd_none rfl) rfl (by decide) ?_
    refine WM_val (fun W hm => rv_len Try.underlying32 rfl) (Wd_none rfl) rfl (by decide) ?_
    refine WM_val (fun W hm => rv_lss rfl rfl) (Wd_none rfl) rfl (by decide) ?_
    refine WM_nil ?_
    refine QM_then ?_
    by_cases hl17 : k13 < x0.length
    · have g18 : (decide (((k13 : Nat) : Int) < ((x0.length : Nat) : Int))) = true := decide_eq_true (by omega)
      refine CM_condT rfl g18 ?_
      refine CM_skip ?_
      refine QM_then ?_
      refine CM_seq ?_
      refine CM_block ?_
      refine CM_seq ?_
      refine CM_regionD (by kernel_rfl) (by kernel_rfl) ?_
      refine QR_val (fun W hm => rv_move rfl) (Wd_none rfl) rfl (by decide) ?_
      refine QR_val (fun W hm => rv_move rfl) (Wd_none rfl) rfl (by decide) ?_
      obtain ⟨a19, rfl, hb20, he21⟩ := q4 (by omega)
      refine QR_val (fun W hm => rv_index (sz := 1) (k := k13) Try.underlying32 Try.type3 rfl rfl rfl (by omega)) (Wd_none rfl) rfl (by decide) ?_
      refine QR_val (fun W hm => rv_load Try.underlying3 rfl rfl ((hm.cell0 (show (a19.add (k13 * 1)).block < w.heap.size from by rw [add_block]; exact hb20)).trans (rdS_int he21 k13 (by omega)))) (Wd_none rfl) rfl (by decide) ?_
      refine QR_val (fun W hm => rv_move rfl) (Wd_none rfl) rfl (by decide) ?_
      refine QR_val (fun W hm => rv_move rfl) (Wd_none rfl) rfl (by decide) ?_
      obtain ⟨a22, rfl, hb23, he24⟩ := q9 (by omega)
      refine QR_val (fun W hm => rv_index (sz := 1) (k := k13) Try.underlying32 Try.type3 rfl rfl rfl (by omega)) (Wd_none rfl) rfl (by decide) ?_
      refine QR_val (fun W hm => rv_load Try.underlying3 rfl rfl ((hm.cell0 (show (a22.add (k13 * 1)).block < w.heap.size from by rw [add_block]; exact hb23)).trans (rdS_int he24 k13 (by omega)))) (Wd_none rfl) rfl (by decide) ?_
      refine QR_val (fun W hm => rv_neq rfl rfl) (Wd_none rfl) rfl (by decide) ?_
      refine QR_nil ?_
      refine QM_then ?_
      by_cases h25 : (gt x0 k13) = (gt x1 k13)
      · have g26 : ((gt x0 k13) != (gt x1 k13)) = false := by rw [h25]; exact bne_self_eq_false _
        refine CM_condF rfl g26 ?_
        refine CM_skip ?_
        refine QM_block_normal ?_
        refine QM_then ?_
        refine CM_region ?_
        refine WM_val (fun W hm => rv_move rfl) (Wd_none rfl) rfl (by decide) ?_
        refine WM_val (fun W hm => rv_addN (p := k13) (q := 1) rfl rfl (by omega)) (Wd_none rfl) rfl (by decide) ?_
        refine WM_val (fun W hm => rv_assign rfl) (Wd_none rfl) rfl (by decide) ?_
        refine WM_nil ?_
        have hn27 := rng_next (R := Bool) (body := (fun k (_ : Unit) => spec_l2Ints_b1 x0 x1 k)) (k := k13) (s := ()) (s' := ()) (show k13 < x0.length from by omega) (show spec_l2Ints_b1 x0 x1 k13 = Sum.inr () from by unfold spec_l2Ints_b1; exact cond_f g26 (rfl)) hF15
        exact QM_round (k13 + 1, (), ()) (subL_cons rfl (subL_cons rfl (subL_cons rfl subL_nil))) (fun W hm => hm) ⟨(by omega), hn27⟩ (show x0.length - (k13 + 1) < x0.length - k13 from by omega)
      · have g26 : ((gt x0 k13) != (gt x1 k13)) = true := bne_iff_ne.2 h25
        refine CM_condT rfl g26 ?_
        refine CM_seq ?_
        refine CM_region ?_
        refine WM_val (fun W hm => rv_assign rfl) (Wd_none rfl) rfl (by decide) ?_
        refine WM_nil ?_
        refine QM_then ?_
        refine CM_ret ?_
        refine QM_block_ret ?_
        refine QM_then_ret ?_
        refine QM_then_ret ?_
        refine QM_block_ret ?_
        refine QM_then_ret ?_
        exact QM_ret1 rfl rfl (fun W hm => ⟨ret_b (show spec_l2Ints_m x0 x1 = false from by unfold spec_l2Ints_m; exact cond_f g12 (fin_inl (rng_ret (body := (fun k (_ : Unit) => spec_l2Ints_b1 x0 x1 k)) (k := k13) (s := ()) (show k13 < x0.length from by omega) (show spec_l2Ints_b1 x0 x1 k13 = Sum.inl false from by unfold spec_l2Ints_b1; exact cond_t g26 (rfl)) hF15) rfl)), hm.below⟩)
    · have g18 : (decide (((k13 : Nat) : Int) < ((x0.length : Nat) : Int))) = false := decide_eq_false (by omega)
      refine CM_condF rfl g18 ?_
      refine CM_exit ?_
      refine QM_then_exit ?_
      refine QM_then_exit ?_
      have hE28 : rng (R := Bool) (fun k (_ : Unit) => spec_l2Ints_b1 x0 x1 k) (x0.length - 0) 0 () = Sum.inr () := rng_end hl17 hF15
      refine QM_block_hit ?_
      refine QM_then ?_
      refine CM_seq ?_
      refine CM_region ?_
      refine WM_val (fun W hm => rv_assign rfl) (Wd_none rfl) rfl (by decide) ?_
      refine WM_nil ?_
      refine QM_then ?_
      refine CM_ret ?_
      exact QM_ret1 rfl rfl (fun W hm => ⟨ret_b (show spec_l2Ints_m x0 x1 = true from by unfold spec_l2Ints_m; exact cond_f g12 (fin_inr hE28 (rfl))), hm.below⟩)
  · have g12 : (((x0.length : Nat) : Int) != ((x1.length : Nat) : Int)) = true := bne_iff_ne.2 h11
    refine CM_condT rfl g12 ?_
    refine CM_seq ?_
    refine CM_region ?_
    refine WM_val (fun W hm => rv_assign rfl) (Wd_none rfl) rfl (by decide) ?_
    refine WM_nil ?_
    refine QM_then ?_
    refine CM_ret ?_
    refine QM_then_ret ?_
    exact QM_ret1 rfl rfl (fun W hm => ⟨ret_b (show spec_l2Ints_m x0 x1 = false from by unfold spec_l2Ints_m; exact cond_t g12 (rfl)), hm.below⟩)

def spec_l3Same_m (x0 : DRow) (x1 : DRow) : Bool :=
  cond (x0.Id == x1.Id) (spec_l2Ints_m x0.Values x1.Values) false
theorem cb77 : Cb Try.prog 77 := ⟨Try.f77, _, Try.func77, rfl, by decide⟩
set_option maxRecDepth 10000 in
theorem spec_l3Same_c (w : World) (z0 : List Value) (x0 : DRow) (z1 : List Value) (x1 : DRow) (r_0 : tyRow.rd w w.heap.size z0 x0) (r_1 : tyRow.rd w w.heap.size z1 x1) :
    Calls Try.prog 77 #[.agg z0.toArray, .agg z1.toArray] w fun e w' => e = .returned (.bool (spec_l3Same_m x0 x1)) ∧ Below w.heap.size w w' := by
  obtain ⟨v1, rfl, r2⟩ := tyRow_rd r_0
  have r7 := r2
  obtain ⟨m3, A4, c5, rfl, q6⟩ := r2
  obtain ⟨v8, rfl, r9⟩ := tyRow_rd r_1
  have r14 := r9
  obtain ⟨m10, A11, c12, rfl, q13⟩ := r9
  refine call_enterM (L := [(0, .agg #[.int .i64 x0.Id, .slice A4 x0.Values.length c5]), (1, .agg #[.int .i64 x1.Id, .slice A11 x1.Values.length c12])]) (N := 17) Try.func77 rfl rfl (Nat.le_of_ble_eq_true rfl) (argsL_cons rfl (argsL_cons rfl argsL_nil)) ?_
  refine CM_seq ?_
  refine CM_region ?_
  refine WM_box rfl (Wd_none rfl) (by decide) (fun p15 => ?_)
  refine WM_box rfl (Wd_none rfl) (by decide) (fun p16 => ?_)
  refine WM_val (fun W hm => rv_assign rfl) (Wd_none rfl) rfl (by decide) ?_
  refine WM_nil ?_
  refine QM_then ?_
  refine CM_seq ?_
  refine CM_region ?_
  refine WM_val (fun W hm => rv_field Try.underlying54 rfl Try.type3 (by decide) rfl rfl) (Wd_none rfl) rfl (by decide) ?_
  refine WM_val (fun W hm => rv_load Try.underlying3 rfl rfl (hm.boxCell (n := 1) (o := 0) rfl rfl)) (Wd_none rfl) rfl (by decide) ?_
  refine WM_val (fun W hm => rv_field Try.underlying54 rfl Try.type3 (by decide) rfl rfl) (Wd_none rfl) rfl (by decide) ?_
  refine WM_val (fun W hm => rv_load Try.underlying3 rfl rfl (hm.boxCell (n := 0) (o := 0) rfl rfl)) (Wd_none rfl) rfl (by decide) ?_
  refine WM_val (fun W hm => rv_eql rfl rfl) (Wd_none rfl) rfl (by decide) ?_
  refine WM_val (fun W hm => rv_move rfl) (Wd_none rfl) rfl (by decide) ?_
  by_cases h17 : x0.Id = x1.Id
  · have g18 : (x0.Id == x1.Id) = true := beq_iff_eq.2 h17
    refine WM_val (fun W hm => rv_field Try.underlying54 rfl Try.type32 (by decide) rfl rfl) (Wd_some rfl rfl rfl (bw g18 rfl)) rfl (by decide) ?_
    refine WM_val (fun W hm => rv_load Try.underlying32 rfl rfl (hm.boxCell (n := 1) (o := 1) rfl rfl)) (Wd_some rfl rfl rfl (bw g18 rfl)) rfl (by decide) ?_
    refine WM_val (fun W hm => rv_field Try.underlying54 rfl Try.type32 (by decide) rfl rfl) (Wd_some rfl rfl rfl (bw g18 rfl)) rfl (by decide) ?_
    refine WM_val (fun W hm => rv_load Try.underlying32 rfl rfl (hm.boxCell (n := 0) (o := 1) rfl rfl)) (Wd_some rfl rfl rfl (bw g18 rfl)) rfl (by decide) ?_
    refine WM_callV cb78 rfl (fun W hm => spec_l2Ints_c W _ x0.Values _ x1.Values (hm.rdS0 r7) (hm.rdS0 r14)) (Wd_some rfl rfl rfl (bw g18 rfl)) (by decide) ?_
    refine WM_val (fun W hm => rv_pickT rfl g18 rfl) (Wd_none rfl) rfl (by decide) ?_
    refine WM_val (fun W hm => rv_assign rfl) (Wd_none rfl) rfl (by decide) ?_
    refine WM_nil ?_
    refine QM_then ?_
    refine CM_ret ?_
    exact QM_ret1 rfl rfl (fun W hm => ⟨ret_b (show spec_l3Same_m x0 x1 = (spec_l2Ints_m x0.Values x1.Values) from by unfold spec_l3Same_m; exact cond_t g18 (rfl)), hm.below⟩)
  · have g18 : (x0.Id == x1.Id) = false := beq_eq_false_iff_ne.2 h17
    refine WM_skip (Wd_some rfl rfl rfl (bw g18 rfl)) rfl (by decide) ?_
    refine WM_skip (Wd_some rfl rfl rfl (bw g18 rfl)) rfl (by decide) ?_
    refine WM_skip (Wd_some rfl rfl rfl (bw g18 rfl)) rfl (by decide) ?_
    refine WM_skip (Wd_some rfl rfl rfl (bw g18 rfl)) rfl (by decide) ?_
    refine WM_skip (Wd_some rfl rfl rfl (bw g18 rfl)) rfl (by decide) ?_
    refine WM_val (fun W hm => rv_pickF rfl g18 rfl) (Wd_none rfl) rfl (by decide) ?_
    refine WM_val (fun W hm => rv_assign rfl) (Wd_none rfl) rfl (by decide) ?_
    refine WM_nil ?_
    refine QM_then ?_
    refine CM_ret ?_
    exact QM_ret1 rfl rfl (fun W hm => ⟨ret_b (show spec_l3Same_m x0 x1 = false from by unfold spec_l3Same_m; exact cond_f g18 (rfl)), hm.below⟩)

def spec_EqualAnnotated_b1 (x0 : (List DAnnotated)) (x1 : (List DAnnotated)) (k13 : Nat) : Bool ⊕ (Unit) :=
  cond (spec_l3Same_m ((gt x0 k13).Row) ((gt x1 k13).Row)) (cond (spec_l2Ints_m ((gt x0 k13).Set) ((gt x1 k13).Set)) (Sum.inr ()) (Sum.inl false)) (Sum.inl false)
def spec_EqualAnnotated_m (x0 : (List DAnnotated)) (x1 : (List DAnnotated)) : Bool :=
  cond (((x0.length : Nat) : Int) != ((x1.length : Nat) : Int)) false (Sum.elim id (fun (s : Unit) => true) (rng (R := Bool) (fun k (_ : Unit) => spec_EqualAnnotated_b1 x0 x1 k) (x0.length - 0) 0 ()))
theorem cb41 : Cb Try.prog 41 := ⟨Try.f41, _, Try.func41, rfl, by decide⟩
set_option maxRecDepth 10000 in
theorem spec_EqualAnnotated_c (w : World) (z0 : Value) (x0 : (List DAnnotated)) (z1 : Value) (x1 : (List DAnnotated)) (r_0 : rdS tyAnnotated w w.heap.size z0 x0) (r_1 : rdS tyAnnotated w w.heap.size z1 x1) :
    Calls Try.prog 41 #[z0, z1] w fun e w' => e = .returned (.bool (spec_EqualAnnotated_m x0 x1)) ∧ Below w.heap.size w w' := by
  have r5 := r_0
  obtain ⟨m1, A2, c3, rfl, q4⟩ := r_0
  have r10 := r_1
  obtain ⟨m6, A7, c8, rfl, q9⟩ := r_1
  refine call_enterM (L := [(0, .slice A2 x0.length c3), (1, .slice A7 x1.length c8)]) (N := 43) Try.func41 rfl rfl (Nat.le_of_ble_eq_true rfl) (argsL_cons rfl (argsL_cons rfl argsL_nil)) ?_
  refine CM_seq ?_
  refine CM_region ?_
  refine WM_val (fun W hm => rv_assign rfl) (Wd_none rfl) rfl (by decide) ?_
  refine WM_nil ?_
  refine QM_then ?_
  refine CM_seq ?_
  refine CM_seq ?_
  refine CM_region ?_
  refine WM_val (fun W hm => rv_move rfl) (Wd_none rfl) rfl (by decide) ?_
  refine WM_val (fun W hm => rv_len Try.underlying44 rfl) (Wd_none rfl) rfl (by decide) ?_
  refine WM_val (fun W hm => rv_move rfl) (Wd_none rfl) rfl (by decide) ?_
  refine WM_val (fun W hm => rv_len Try.underlying44 rfl) (Wd_none rfl) rfl (by decide) ?_
  refine WM_val (fun W hm => rv_neq rfl rfl) (Wd_none rfl) rfl (by decide) ?_
  refine WM_nil ?_
  refine QM_then ?_
  by_cases h11 : ((x0.length : Nat) : Int) = ((x1.length : Nat) : Int)
  · have g12 : (((x0.length : Nat) : Int) != ((x1.length : Nat) : Int)) = false := by rw [h11]; exact bne_self_eq_false _
    refine CM_condF rfl g12 ?_
    refine CM_skip ?_
    refine QM_then ?_
    refine CM_seq ?_
    refine CM_seq ?_
    refine CM_region ?_
    refine WM_val (fun W hm => rv_assign rfl) (Wd_none rfl) rfl (by decide) ?_
    refine WM_nil ?_
    refine QM_then ?_
    refine CM_block ?_
    refine CM_loop (σ := Nat × (Unit) × (Unit)) (fun s => [(0, .slice A2 x0.length c3), (1, .slice A7 x1.length c8), (5, .int .i64 ((s.1 : Nat) : Int))]) (fun s => []) (fun s => s.1 ≤ x0.length ∧ rng (R := Bool) (fun k (_ : Unit) => spec_EqualAnnotated_b1 x0 x1 k) (x0.length - s.1) s.1 s.2.1 = rng (R := Bool) (fun k (_ : Unit) => spec_EqualAnnotated_b1 x0 x1 k) (x0.length - 0) 0 ()) (fun s => x0.length - s.1) (0, (), ()) (subL_cons rfl (subL_cons rfl (subL_cons rfl subL_nil))) (fun W hm => hm) ⟨(by omega), rfl⟩ ?_
    rintro ⟨k13, ⟨⟩, ⟨⟩⟩ H16
    obtain ⟨hk14, hF15⟩ : k13 ≤ x0.length ∧ rng (R := Bool) (fun k (_ : Unit) => spec_EqualAnnotated_b1 x0 x1 k) (x0.length - k13) k13 () = rng (R := Bool) (fun k (_ : Unit) => spec_EqualAnnotated_b1 x0 x1 k) (x0.length - 0) 0 () := H16
    show CM Try.prog 43 _ _ _ _ [(0, .slice A2 x0.length c3), (1, .slice A7 x1.length c8), (5, .int .i64 ((k13 : Nat) : Int))] []
    refine CM_seq ?_
    refine CM_seq ?_
    refine CM_region ?_
    refine WM_val (fun W hm => rv_move rfl) (Wd_none rfl) rfl (by decide) ?_
    refine WM_val (fun W hm => rv_move rfl) (Wd_none rfl) rfl (by decide) ?_
    refine WM_val (fun W hm => rv_len Try.underlying44 rfl) (Wd_none rfl) rfl (by decide) ?_
    refine WM_val (fun W hm => rv_lss rfl rfl) (Wd_none rfl) rfl (by decide) ?_
    refine WM_nil ?_
    refine QM_then ?_
    by_cases hl17 : k13 < x0.length
    · have g18 : (decide (((k13 : Nat) : Int) < ((x0.length : Nat) : Int))) = true := decide_eq_true (by omega)
      refine CM_condT rfl g18 ?_
      refine CM_skip ?_
      refine QM_then ?_
      refine CM_seq ?_
      refine CM_block ?_
      refine CM_seq ?_
      refine CM_regionD (by kernel_rfl) (by kernel_rfl) ?_
      refine QR_val (fun W hm => rv_move rfl) (Wd_none rfl) rfl (by decide) ?_
      refine QR_val (fun W hm => rv_move rfl) (Wd_none rfl) rfl (by decide) ?_
      obtain ⟨a19, rfl, hb20, he21⟩ := q4 (by omega)
      refine QR_val (fun W hm => rv_index (sz := 3) (k := k13) Try.underlying44 Try.type89 rfl rfl rfl (by omega)) (Wd_none rfl) rfl (by decide) ?_
      refine QR_val (fun W hm => rv_field Try.underlying89 rfl Try.type54 (by decide) rfl rfl) (Wd_none rfl) rfl (by decide) ?_
      obtain ⟨_, e27, hc22⟩ := he21 k13 _ (gt_some (show k13 < x0.length from by omega))
      obtain ⟨v23, v25, rfl, r24, r26⟩ := tyAnnotated_rd e27
      have r32 := r24
      obtain ⟨m28, A29, c30, rfl, q31⟩ := r24
      have r37 := r26
      obtain ⟨m33, A34, c35, rfl, q36⟩ := r26
      refine QR_val (fun W hm => rv_loadN (cs := [.int .i64 ((gt x0 k13).Row.Id), .slice A29 ((gt x0 k13).Row.Values).length c30]) Try.underlying54 Try.type54 rfl rfl (hm.elPart (show (a19.add (k13 * 3)).block < w.heap.size from by rw [add_block]; exact hb20) hc22 rfl)) (Wd_none rfl) rfl (by decide) ?_
      refine QR_val (fun W hm => rv_move rfl) (Wd_none rfl) rfl (by decide) ?_
      refine QR_val (fun W hm => rv_move rfl) (Wd_none rfl) rfl (by decide) ?_
      obtain ⟨a38, rfl, hb39, he40⟩ := q9 (by omega)
      refine QR_val (fun W hm => rv_index (sz := 3) (k := k13) Try.underlying44 Try.type89 rfl rfl rfl (by omega)) (Wd_none rfl) rfl (by decide) ?_
      refine QR_val (fun W hm => rv_field Try.underlying89 rfl Try.type54 (by decide) rfl rfl) (Wd_none rfl) rfl (by decide) ?_
      obtain ⟨_, e46, hc41⟩ := he40 k13 _ (gt_some (show k13 < x1.length from by omega))
      obtain ⟨v42, v44, rfl, r43, r45⟩ := tyAnnotated_rd e46
      have r51 := r43
      obtain ⟨m47, A48, c49, rfl, q50⟩ := r43
      have r56 := r45
      obtain ⟨m52, A53, c54, rfl, q55⟩ := r45
      refine QR_val (fun W hm => rv_loadN (cs := [.int .i64 ((gt x1 k13).Row.Id), .slice A48 ((gt x1 k13).Row.Values).length c49]) Try.underlying54 Try.type54 rfl rfl (hm.elPart (show (a38.add (k13 * 3)).block < w.heap.size from by rw [add_block]; exact hb39) hc41 rfl)) (Wd_none rfl) rfl (by decide) ?_
      refine QR_callV cb77 rfl (fun W hm => spec_l3Same_c W _ ((gt x0 k13).Row) _ ((gt x1 k13).Row) (tyRow_mk (hm.rdS0 r32)) (tyRow_mk (hm.rdS0 r51))) (Wd_none rfl) (by decide) ?_
      refine QR_val (fun W hm => rv_not rfl) (Wd_none rfl) rfl (by decide) ?_
      refine QR_val (fun W hm => rv_move rfl) (Wd_none rfl) rfl (by decide) ?_
      rcases Bool.eq_false_or_eq_true (spec_l3Same_m ((gt x0 k13).Row) ((gt x1 k13).Row)) with g58 | g58
      ·
        refine QR_val (fun W hm => rv_move rfl) (Wd_some rfl rfl rfl (bw (nt g58) rfl)) rfl (by decide) ?_
        refine QR_val (fun W hm => rv_move rfl) (Wd_some rfl rfl rfl (bw (nt g58) rfl)) rfl (by decide) ?_
        refine QR_val (fun W hm => rv_index (sz := 3) (k := k13) Try.underlying44 Try.type89 rfl rfl rfl (by omega)) (Wd_some rfl rfl rfl (bw (nt g58) rfl)) rfl (by decide) ?_
        refine QR_val (fun W hm => rv_field Try.underlying89 rfl Try.type32 (by decide) rfl rfl) (Wd_some rfl rfl rfl (bw (nt g58) rfl)) rfl (by decide) ?_
        refine QR_val (fun W hm => rv_load Try.underlying32 rfl rfl ((hm.cell0 (show ((a19.add (k13 * 3)).add 2).block < w.heap.size from by rw [add_block, add_block]; exact hb20)).trans (hc22 2 _ rfl))) (Wd_some rfl rfl rfl (bw (nt g58) rfl)) rfl (by decide) ?_
        refine QR_val (fun W hm => rv_move rfl) (Wd_some rfl rfl rfl (bw (nt g58) rfl)) rfl (by decide) ?_
        refine QR_val (fun W hm => rv_move rfl) (Wd_some rfl rfl rfl (bw (nt g58) rfl)) rfl (by decide) ?_
        refine QR_val (fun W hm => rv_index (sz := 3) (k := k13) Try.underlying44 Try.type89 rfl rfl rfl (by omega)) (Wd_some rfl rfl rfl (bw (nt g58) rfl)) rfl (by decide) ?_
        refine QR_val (fun W hm => rv_field Try.underlying89 rfl Try.type32 (by decide) rfl rfl) (Wd_some rfl rfl rfl (bw (nt g58) rfl)) rfl (by decide) ?_
        refine QR_val (fun W hm => rv_load Try.underlying32 rfl rfl ((hm.cell0 (show ((a38.add (k13 * 3)).add 2).block < w.heap.size from by rw [add_block, add_block]; exact hb39)).trans (hc41 2 _ rfl))) (Wd_some rfl rfl rfl (bw (nt g58) rfl)) rfl (by decide) ?_
        refine QR_callV cb78 rfl (fun W hm => spec_l2Ints_c W _ ((gt x0 k13).Set) _ ((gt x1 k13).Set) (hm.rdS0 r37) (hm.rdS0 r56)) (Wd_some rfl rfl rfl (bw (nt g58) rfl)) (by decide) ?_
        refine QR_val (fun W hm => rv_not rfl) (Wd_some rfl rfl rfl (bw (nt g58) rfl)) rfl (by decide) ?_
        refine QR_val (fun W hm => rv_pickF rfl (nt g58) rfl) (Wd_none rfl) rfl (by decide) ?_
        refine QR_nil ?_
        refine QM_then ?_
        rcases Bool.eq_false_or_eq_true (spec_l2Ints_m ((gt x0 k13).Set) ((gt x1 k13).Set)) with g60 | g60
        ·
          refine CM_condF rfl (nt g60) ?_
          refine CM_skip ?_
          refine QM_block_normal ?_
          refine QM_then ?_
          refine CM_region ?_
          refine WM_val (fun W hm => rv_move rfl) (Wd_none rfl) rfl (by decide) ?_
          refine WM_val (fun W hm => rv_addN (p := k13) (q := 1) rfl rfl (by omega)) (Wd_none rfl) rfl (by decide) ?_
          refine WM_val (fun W hm => rv_assign rfl) (Wd_none rfl) rfl (by decide) ?_
          refine WM_nil ?_
          have hn61 := rng_next (R := Bool) (body := (fun k (_ : Unit) => spec_EqualAnnotated_b1 x0 x1 k)) (k := k13) (s := ()) (s' := ()) (show k13 < x0.length from by omega) (show spec_EqualAnnotated_b1 x0 x1 k13 = Sum.inr () from by unfold spec_EqualAnnotated_b1; exact cond_t g58 (cond_t g60 (rfl))) hF15
          exact QM_round (k13 + 1, (), ()) (subL_cons rfl (subL_cons rfl (subL_cons rfl subL_nil))) (fun W hm => hm) ⟨(by omega), hn61⟩ (show x0.length - (k13 + 1) < x0.length - k13 from by omega)
        ·
          refine CM_condT rfl (nf g60) ?_
          refine CM_seq ?_
          refine CM_region ?_
          refine WM_val (fun W hm => rv_assign rfl) (Wd_none rfl) rfl (by decide) ?_
          refine WM_nil ?_
          refine QM_then ?_
          refine CM_ret ?_
          refine QM_block_ret ?_
          refine QM_then_ret ?_
          refine QM_then_ret ?_
          refine QM_block_ret ?_
          refine QM_then_ret ?_
          exact QM_ret1 rfl rfl (fun W hm => ⟨ret_b (show spec_EqualAnnotated_m x0 x1 = false from by unfold spec_EqualAnnotated_m; exact cond_f g12 (fin_inl (rng_ret (body := (fun k (_ : Unit) => spec_EqualAnnotated_b1 x0 x1 k)) (k := k13) (s := ()) (show k13 < x0.length from by omega) (show spec_EqualAnnotated_b1 x0 x1 k13 = Sum.inl false from by unfold spec_EqualAnnotated_b1; exact cond_t g58 (cond_f g60 (rfl))) hF15) rfl)), hm.below⟩)
      ·
        refine QR_skip (Wd_some rfl rfl rfl (bw (nf g58) rfl)) rfl (by decide) ?_
        refine QR_skip (Wd_some rfl rfl rfl (bw (nf g58) rfl)) rfl (by decide) ?_
        refine QR_skip (Wd_some rfl rfl rfl (bw (nf g58) rfl)) rfl (by decide) ?_
        refine QR_skip (Wd_some rfl rfl rfl (bw (nf g58) rfl)) rfl (by decide) ?_
        refine QR_skip (Wd_some rfl rfl rfl (bw (nf g58) rfl)) rfl (by decide) ?_
        refine QR_skip (Wd_some rfl rfl rfl (bw (nf g58) rfl)) rfl (by decide) ?_
        refine QR_skip (Wd_some rfl rfl rfl (bw (nf g58) rfl)) rfl (by decide) ?_
        refine QR_skip (Wd_some rfl rfl rfl (bw (nf g58) rfl)) rfl (by decide) ?_
        refine QR_skip (Wd_some rfl rfl rfl (bw (nf g58) rfl)) rfl (by decide) ?_
        refine QR_skip (Wd_some rfl rfl rfl (bw (nf g58) rfl)) rfl (by decide) ?_
        refine QR_skip (Wd_some rfl rfl rfl (bw (nf g58) rfl)) rfl (by decide) ?_
        refine QR_skip (Wd_some rfl rfl rfl (bw (nf g58) rfl)) rfl (by decide) ?_
        refine QR_val (fun W hm => rv_pickT rfl (nf g58) rfl) (Wd_none rfl) rfl (by decide) ?_
        refine QR_nil ?_
        refine QM_then ?_
        refine CM_condT rfl rfl ?_
        refine CM_seq ?_
        refine CM_region ?_
        refine WM_val (fun W hm => rv_assign rfl) (Wd_none rfl) rfl (by decide) ?_
        refine WM_nil ?_
        refine QM_then ?_
        refine CM_ret ?_
        refine QM_block_ret ?_
        refine QM_then_ret ?_
        refine QM_then_ret ?_
        refine QM_block_ret ?_
        refine QM_then_ret ?_
        exact QM_ret1 rfl rfl (fun W hm => ⟨ret_b (show spec_EqualAnnotated_m x0 x1 = false from by unfold spec_EqualAnnotated_m; exact cond_f g12 (fin_inl (rng_ret (body := (fun k (_ : Unit) => spec_EqualAnnotated_b1 x0 x1 k)) (k := k13) (s := ()) (show k13 < x0.length from by omega) (show spec_EqualAnnotated_b1 x0 x1 k13 = Sum.inl false from by unfold spec_EqualAnnotated_b1; exact cond_f g58 (rfl)) hF15) rfl)), hm.below⟩)
    · have g18 : (decide (((k13 : Nat) : Int) < ((x0.length : Nat) : Int))) = false := decide_eq_false (by omega)
      refine CM_condF rfl g18 ?_
      refine CM_exit ?_
      refine QM_then_exit ?_
      refine QM_then_exit ?_
      have hE62 : rng (R := Bool) (fun k (_ : Unit) => spec_EqualAnnotated_b1 x0 x1 k) (x0.length - 0) 0 () = Sum.inr () := rng_end hl17 hF15
      refine QM_block_hit ?_
      refine QM_then ?_
      refine CM_seq ?_
      refine CM_region ?_
      refine WM_val (fun W hm => rv_assign rfl) (Wd_none rfl) rfl (by decide) ?_
      refine WM_nil ?_
      refine QM_then ?_
      refine CM_ret ?_
      exact QM_ret1 rfl rfl (fun W hm => ⟨ret_b (show spec_EqualAnnotated_m x0 x1 = true from by unfold spec_EqualAnnotated_m; exact cond_f g12 (fin_inr hE62 (rfl))), hm.below⟩)
  · have g12 : (((x0.length : Nat) : Int) != ((x1.length : Nat) : Int)) = true := bne_iff_ne.2 h11
    refine CM_condT rfl g12 ?_
    refine CM_seq ?_
    refine CM_region ?_
    refine WM_val (fun W hm => rv_assign rfl) (Wd_none rfl) rfl (by decide) ?_
    refine WM_nil ?_
    refine QM_then ?_
    refine CM_ret ?_
    refine QM_then_ret ?_
    exact QM_ret1 rfl rfl (fun W hm => ⟨ret_b (show spec_EqualAnnotated_m x0 x1 = false from by unfold spec_EqualAnnotated_m; exact cond_t g12 (rfl)), hm.below⟩)

def impl_sameInts_b1 (x0 : (List Int)) (x1 : (List Int)) (k13 : Nat) : Bool ⊕ (Unit) :=
  cond ((gt x0 k13) != (gt x1 k13)) (Sum.inl false) (Sum.inr ())
def impl_sameInts_m (x0 : (List Int)) (x1 : (List Int)) : Bool :=
  cond (((x0.length : Nat) : Int) != ((x1.length : Nat) : Int)) false (Sum.elim id (fun (s : Unit) => true) (rng (R := Bool) (fun k (_ : Unit) => impl_sameInts_b1 x0 x1 k) (x0.length - 0) 0 ()))
theorem cb80 : Cb Try.prog 80 := ⟨Try.f80, _, Try.func80, rfl, by decide⟩
set_option maxRecDepth 10000 in
theorem impl_sameInts_c (w : World) (z0 : Value) (x0 : (List Int)) (z1 : Value) (x1 : (List Int)) (r_0 : rdS tInt w w.heap.size z0 x0) (r_1 : rdS tInt w w.heap.size z1 x1) :
    Calls Try.prog 80 #[z0, z1] w fun e w' => e = .returned (.bool (impl_sameInts_m x0 x1)) ∧ Below w.heap.size w w' := by
  have r5 := r_0
  obtain ⟨m1, A2, c3, rfl, q4⟩ := r_0
  have r10 := r_1
  obtain ⟨m6, A7, c8, rfl, q9⟩ := r_1
  refine call_enterM (L := [(0, .slice A2 x0.length c3), (1, .slice A7 x1.length c8)]) (N := 26) Try.func80 rfl rfl (Nat.le_of_ble_eq_true rfl) (argsL_cons rfl (argsL_cons rfl argsL_nil)) ?_
  refine CM_seq ?_
  refine CM_region ?_
  refine WM_val (fun W hm => rv_assign rfl) (Wd_none rfl) rfl (by decide) ?_
  refine WM_nil ?_
  refine QM_then ?_
  refine CM_seq ?_
  refine CM_seq ?_
  refine CM_region ?_
  refine WM_val (fun W hm => rv_move rfl) (Wd_none rfl) rfl (by decide) ?_
  refine WM_val (fun W hm => rv_len Try.underlying32 rfl) (Wd_none rfl) rfl (by decide) ?_
  refine WM_val (fun W hm => rv_move rfl) (Wd_none rfl) rfl (by decide) ?_
  refine WM_val (fun W hm => rv_len Try.underlying32 rfl) (Wd_none rfl) rfl (by decide) ?_
  refine WM_val (fun W hm => rv_neq rfl rfl) (Wd_none rfl) rfl (by decide) ?_
  refine WM_nil ?_
  refine QM_then ?_
  by_cases h11 : ((x0.length : Nat) : Int) = ((x1.length : Nat) : Int)
  · have g12 : (((x0.length : Nat) : Int) != ((x1.length : Nat) : Int)) = false := by rw [h11]; exact bne_self_eq_false _
    refine CM_condF rfl g12 ?_
    refine CM_skip ?_
    refine QM_then ?_
    refine CM_seq ?_
    refine CM_seq ?_
    refine CM_region ?_
    refine WM_val (fun W hm => rv_move rfl) (Wd_none rfl) rfl (by decide) ?_
    refine WM_val (fun W hm => rv_len Try.underlying32 rfl) (Wd_none rfl) rfl (by decide) ?_
    refine WM_val (fun W hm => rv_move rfl) (Wd_none rfl) rfl (by decide) ?_
    refine WM_nil ?_
    refine QM_then ?_
    refine CM_block ?_
    refine CM_loop (σ := Nat × (Unit) × (Unit)) (fun s => [(0, .slice A2 x0.length c3), (1, .slice A7 x1.length c8), (12, .int .i64 ((x0.length : Nat) : Int)), (13, .int .i64 ((s.1 : Nat) : Int))]) (fun s => []) (fun s => s.1 ≤ x0.length ∧ rng (R := Bool) (fun k (_ : Unit) => impl_sameInts_b1 x0 x1 k) (x0.length - s.1) s.1 s.2.1 = rng (R := Bool) (fun k (_ : Unit) => impl_sameInts_b1 x0 x1 k) (x0.length - 0) 0 ()) (fun s => x0.length - s.1) (0, (), ()) (subL_cons rfl (subL_cons rfl (subL_cons rfl (subL_cons rfl subL_nil)))) (fun W hm => hm) ⟨(by omega), rfl⟩ ?_
    rintro ⟨k13, ⟨⟩, ⟨⟩⟩ H16
    obtain ⟨hk14, hF15⟩ : k13 ≤ x0.length ∧ rng (R := Bool) (fun k (_ : Unit) => impl_sameInts_b1 x0 x1 k) (x0.length - k13) k13 () = rng (R := Bool) (fun k (_ : Unit) => impl_sameInts_b1 x0 x1 k) (x0.length - 0) 0 () := H16
    show CM Try.prog 26 _ _ _ _ [(0, .slice A2 x0.length c3), (1, .slice A7 x1.length c8), (12, .int .i64 ((x0.length : Nat) : Int)), (13, .int .i64 ((k13 : Nat) : Int))] []
    refine CM_seq ?_
    refine CM_region ?_
    refine WM_val (fun W hm => rv_lss rfl rfl) (Wd_none rfl) rfl (by decide) ?_
    refine WM_nil ?_
    refine QM_then ?_
    refine CM_seq ?_
    by_cases hl17 : k13 < x0.length
    · have g18 : (decide (((k13 : Nat) : Int) < ((x0.length : Nat) : Int))) = true := decide_eq_true (by omega)
      refine CM_condT rfl g18 ?_
      refine CM_skip ?_
      refine QM_then ?_
      refine CM_seq ?_
      refine CM_block ?_
      refine CM_seq ?_
      refine CM_region ?_
      refine WM_val (fun W hm => rv_move rfl) (Wd_none rfl) rfl (by decide) ?_
      refine WM_val (fun W hm => rv_assign rfl) (Wd_none rfl) rfl (by decide) ?_
      refine WM_nil ?_
      refine QM_then ?_
      refine CM_seq ?_
      refine CM_regionD (by kernel_rfl) (by kernel_rfl) ?_
      refine QR_val (fun W hm => rv_move rfl) (Wd_none rfl) rfl (by decide) ?_
      refine QR_val (fun W hm => rv_move rfl) (Wd_none rfl) rfl (by decide) ?_
      obtain ⟨a19, rfl, hb20, he21⟩ := q4 (by omega)
      refine QR_val (fun W hm => rv_index (sz := 1) (k := k13) Try.underlying32 Try.type3 rfl rfl rfl (by omega)) (Wd_none rfl) rfl (by decide) ?_
      refine QR_val (fun W hm => rv_load Try.underlying3 rfl rfl ((hm.cell0 (show (a19.add (k13 * 1)).block < w.heap.size from by rw [add_block]; exact hb20)).trans (rdS_int he21 k13 (by omega)))) (Wd_none rfl) rfl (by decide) ?_
      refine QR_val (fun W hm => rv_move rfl) (Wd_none rfl) rfl (by decide) ?_
      refine QR_val (fun W hm => rv_move rfl) (Wd_none rfl) rfl (by decide) ?_
      obtain ⟨a22, rfl, hb23, he24⟩ := q9 (by omega)
      refine QR_val (fun W hm => rv_index (sz := 1) (k := k13) Try.underlying32 Try.type3 rfl rfl rfl (by omega)) (Wd_none rfl) rfl (by decide) ?_
      refine QR_val (fun W hm => rv_load Try.underlying3 rfl rfl ((hm.cell0 (show (a22.add (k13 * 1)).block < w.heap.size from by rw [add_block]; exact hb23)).trans (rdS_int he24 k13 (by omega)))) (Wd_none rfl) rfl (by decide) ?_
      refine QR_val (fun W hm => rv_neq rfl rfl) (Wd_none rfl) rfl (by decide) ?_
      refine QR_nil ?_
      refine QM_then ?_
      by_cases h25 : (gt x0 k13) = (gt x1 k13)
      · have g26 : ((gt x0 k13) != (gt x1 k13)) = false := by rw [h25]; exact bne_self_eq_false _
        refine CM_condF rfl g26 ?_
        refine CM_skip ?_
        refine QM_block_normal ?_
        refine QM_then ?_
        refine CM_region ?_
        refine WM_val (fun W hm => rv_addN (p := k13) (q := 1) rfl rfl (by omega)) (Wd_none rfl) rfl (by decide) ?_
        refine WM_val (fun W hm => rv_move rfl) (Wd_none rfl) rfl (by decide) ?_
        refine WM_nil ?_
        have hn27 := rng_next (R := Bool) (body := (fun k (_ : Unit) => impl_sameInts_b1 x0 x1 k)) (k := k13) (s := ()) (s' := ()) (show k13 < x0.length from by omega) (show impl_sameInts_b1 x0 x1 k13 = Sum.inr () from by unfold impl_sameInts_b1; exact cond_f g26 (rfl)) hF15
        exact QM_round (k13 + 1, (), ()) (subL_cons rfl (subL_cons rfl (subL_cons rfl (subL_cons rfl subL_nil)))) (fun W hm => hm) ⟨(by omega), hn27⟩ (show x0.length - (k13 + 1) < x0.length - k13 from by omega)
      · have g26 : ((gt x0 k13) != (gt x1 k13)) = true := bne_iff_ne.2 h25
        refine CM_condT rfl g26 ?_
        refine CM_seq ?_
        refine CM_region ?_
        refine WM_val (fun W hm => rv_assign rfl) (Wd_none rfl) rfl (by decide) ?_
        refine WM_nil ?_
        refine QM_then ?_
        refine CM_ret ?_
        refine QM_block_ret ?_
        refine QM_then_ret ?_
        refine QM_then_ret ?_
        refine QM_block_ret ?_
        refine QM_then_ret ?_
        exact QM_ret1 rfl rfl (fun W hm => ⟨ret_b (show impl_sameInts_m x0 x1 = false from by unfold impl_sameInts_m; exact cond_f g12 (fin_inl (rng_ret (body := (fun k (_ : Unit) => impl_sameInts_b1 x0 x1 k)) (k := k13) (s := ()) (show k13 < x0.length from by omega) (show impl_sameInts_b1 x0 x1 k13 = Sum.inl false from by unfold impl_sameInts_b1; exact cond_t g26 (rfl)) hF15) rfl)), hm.below⟩)
    · have g18 : (decide (((k13 : Nat) : Int) < ((x0.length : Nat) : Int))) = false := decide_eq_false (by omega)
      refine CM_condF rfl g18 ?_
      refine CM_exit ?_
      refine QM_then_exit ?_
      refine QM_then_exit ?_
      have hE28 : rng (R := Bool) (fun k (_ : Unit) => impl_sameInts_b1 x0 x1 k) (x0.length - 0) 0 () = Sum.inr () := rng_end hl17 hF15
      refine QM_block_hit ?_
      refine QM_then ?_
      refine CM_seq ?_
      refine CM_region ?_
      refine WM_val (fun W hm => rv_assign rfl) (Wd_none rfl) rfl (by decide) ?_
      refine WM_nil ?_
      refine QM_then ?_
      refine CM_ret ?_
      exact QM_ret1 rfl rfl (fun W hm => ⟨ret_b (show impl_sameInts_m x0 x1 = true from by unfold impl_sameInts_m; exact cond_f g12 (fin_inr hE28 (rfl))), hm.below⟩)
  · have g12 : (((x0.length : Nat) : Int) != ((x1.length : Nat) : Int)) = true := bne_iff_ne.2 h11
    refine CM_condT rfl g12 ?_
    refine CM_seq ?_
    refine CM_region ?_
    refine WM_val (fun W hm => rv_assign rfl) (Wd_none rfl) rfl (by decide) ?_
    refine WM_nil ?_
    refine QM_then ?_
    refine CM_ret ?_
    refine QM_then_ret ?_
    exact QM_ret1 rfl rfl (fun W hm => ⟨ret_b (show impl_sameInts_m x0 x1 = false from by unfold impl_sameInts_m; exact cond_t g12 (rfl)), hm.below⟩)

def impl_equalRow_m (x0 : DRow) (x1 : DRow) : Bool :=
  cond (x0.Id == x1.Id) (impl_sameInts_m x0.Values x1.Values) false
theorem cb79 : Cb Try.prog 79 := ⟨Try.f79, _, Try.func79, rfl, by decide⟩
set_option maxRecDepth 10000 in
theorem impl_equalRow_c (w : World) (z0 : List Value) (x0 : DRow) (z1 : List Value) (x1 : DRow) (r_0 : tyRow.rd w w.heap.size z0 x0) (r_1 : tyRow.rd w w.heap.size z1 x1) :
    Calls Try.prog 79 #[.agg z0.toArray, .agg z1.toArray] w fun e w' => e = .returned (.bool (impl_equalRow_m x0 x1)) ∧ Below w.heap.size w w' := by
  obtain ⟨v1, rfl, r2⟩ := tyRow_rd r_0
  have r7 := r2
  obtain ⟨m3, A4, c5, rfl, q6⟩ := r2
  obtain ⟨v8, rfl, r9⟩ := tyRow_rd r_1
  have r14 := r9
  obtain ⟨m10, A11, c12, rfl, q13⟩ := r9
  refine call_enterM (L := [(0, .agg #[.int .i64 x0.Id, .slice A4 x0.Values.length c5]), (1, .agg #[.int .i64 x1.Id, .slice A11 x1.Values.length c12])]) (N := 17) Try.func79 rfl rfl (Nat.le_of_ble_eq_true rfl) (argsL_cons rfl (argsL_cons rfl argsL_nil)) ?_
  refine CM_seq ?_
  refine CM_region ?_
  refine WM_box rfl (Wd_none rfl) (by decide) (fun p15 => ?_)
  refine WM_box rfl (Wd_none rfl) (by decide) (fun p16 => ?_)
  refine WM_val (fun W hm => rv_assign rfl) (Wd_none rfl) rfl (by decide) ?_
  refine WM_nil ?_
  refine QM_then ?_
  refine CM_seq ?_
  refine CM_region ?_
  refine WM_val (fun W hm => rv_field Try.underlying54 rfl Try.type3 (by decide) rfl rfl) (Wd_none rfl) rfl (by decide) ?_
  refine WM_val (fun W hm => rv_load Try.underlying3 rfl rfl (hm.boxCell (n := 1) (o := 0) rfl rfl)) (Wd_none rfl) rfl (by decide) ?_
  refine WM_val (fun W hm => rv_field Try.underlying54 rfl Try.type3 (by decide) rfl rfl) (Wd_none rfl) rfl (by decide) ?_
  refine WM_val (fun W hm => rv_load Try.underlying3 rfl rfl (hm.boxCell (n := 0) (o := 0) rfl rfl)) (Wd_none rfl) rfl (by decide) ?_
  refine WM_val (fun W hm => rv_eql rfl rfl) (Wd_none rfl) rfl (by decide) ?_
  refine WM_val (fun W hm => rv_move rfl) (Wd_none rfl) rfl (by decide) ?_
  by_cases h17 : x0.Id = x1.Id
  · have g18 : (x0.Id == x1.Id) = true := beq_iff_eq.2 h17
    refine WM_val (fun W hm => rv_field Try.underlying54 rfl Try.type32 (by decide) rfl rfl) (Wd_some rfl rfl rfl (bw g18 rfl)) rfl (by decide) ?_
    refine WM_val (fun W hm => rv_load Try.underlying32 rfl rfl (hm.boxCell (n := 1) (o := 1) rfl rfl)) (Wd_some rfl rfl rfl (bw g18 rfl)) rfl (by decide) ?_
    refine WM_val (fun W hm => rv_field Try.underlying54 rfl Try.type32 (by decide) rfl rfl) (Wd_some rfl rfl rfl (bw g18 rfl)) rfl (by decide) ?_
    refine WM_val (fun W hm => rv_load Try.underlying32 rfl rfl (hm.boxCell (n := 0) (o := 1) rfl rfl)) (Wd_some rfl rfl rfl (bw g18 rfl)) rfl (by decide) ?_
    refine WM_callV cb80 rfl (fun W hm => impl_sameInts_c W _ x0.Values _ x1.Values (hm.rdS0 r7) (hm.rdS0 r14)) (Wd_some rfl rfl rfl (bw g18 rfl)) (by decide) ?_
    refine WM_val (fun W hm => rv_pickT rfl g18 rfl) (Wd_none rfl) rfl (by decide) ?_
    refine WM_val (fun W hm => rv_assign rfl) (Wd_none rfl) rfl (by decide) ?_
    refine WM_nil ?_
    refine QM_then ?_
    refine CM_ret ?_
    exact QM_ret1 rfl rfl (fun W hm => ⟨ret_b (show impl_equalRow_m x0 x1 = (impl_sameInts_m x0.Values x1.Values) from by unfold impl_equalRow_m; exact cond_t g18 (rfl)), hm.below⟩)
  · have g18 : (x0.Id == x1.Id) = false := beq_eq_false_iff_ne.2 h17
    refine WM_skip (Wd_some rfl rfl rfl (bw g18 rfl)) rfl (by decide) ?_
    refine WM_skip (Wd_some rfl rfl rfl (bw g18 rfl)) rfl (by decide) ?_
    refine WM_skip (Wd_some rfl rfl rfl (bw g18 rfl)) rfl (by decide) ?_
    refine WM_skip (Wd_some rfl rfl rfl (bw g18 rfl)) rfl (by decide) ?_
    refine WM_skip (Wd_some rfl rfl rfl (bw g18 rfl)) rfl (by decide) ?_
    refine WM_val (fun W hm => rv_pickF rfl g18 rfl) (Wd_none rfl) rfl (by decide) ?_
    refine WM_val (fun W hm => rv_assign rfl) (Wd_none rfl) rfl (by decide) ?_
    refine WM_nil ?_
    refine QM_then ?_
    refine CM_ret ?_
    exact QM_ret1 rfl rfl (fun W hm => ⟨ret_b (show impl_equalRow_m x0 x1 = false from by unfold impl_equalRow_m; exact cond_f g18 (rfl)), hm.below⟩)

def impl_EqualAnnotated_b1 (x0 : (List DAnnotated)) (x1 : (List DAnnotated)) (k13 : Nat) : Bool ⊕ (Unit) :=
  cond (impl_equalRow_m ((gt x0 k13).Row) ((gt x1 k13).Row)) (cond (impl_sameInts_m ((gt x0 k13).Set) ((gt x1 k13).Set)) (Sum.inr ()) (Sum.inl false)) (Sum.inl false)
def impl_EqualAnnotated_m (x0 : (List DAnnotated)) (x1 : (List DAnnotated)) : Bool :=
  cond (((x0.length : Nat) : Int) != ((x1.length : Nat) : Int)) false (Sum.elim id (fun (s : Unit) => true) (rng (R := Bool) (fun k (_ : Unit) => impl_EqualAnnotated_b1 x0 x1 k) (x0.length - 0) 0 ()))
theorem cb42 : Cb Try.prog 42 := ⟨Try.f42, _, Try.func42, rfl, by decide⟩
set_option maxRecDepth 10000 in
theorem impl_EqualAnnotated_c (w : World) (z0 : Value) (x0 : (List DAnnotated)) (z1 : Value) (x1 : (List DAnnotated)) (r_0 : rdS tyAnnotated w w.heap.size z0 x0) (r_1 : rdS tyAnnotated w w.heap.size z1 x1) :
    Calls Try.prog 42 #[z0, z1] w fun e w' => e = .returned (.bool (impl_EqualAnnotated_m x0 x1)) ∧ Below w.heap.size w w' := by
  have r5 := r_0
  obtain ⟨m1, A2, c3, rfl, q4⟩ := r_0
  have r10 := r_1
  obtain ⟨m6, A7, c8, rfl, q9⟩ := r_1
  refine call_enterM (L := [(0, .slice A2 x0.length c3), (1, .slice A7 x1.length c8)]) (N := 43) Try.func42 rfl rfl (Nat.le_of_ble_eq_true rfl) (argsL_cons rfl (argsL_cons rfl argsL_nil)) ?_
  refine CM_seq ?_
  refine CM_region ?_
  refine WM_val (fun W hm => rv_assign rfl) (Wd_none rfl) rfl (by decide) ?_
  refine WM_nil ?_
  refine QM_then ?_
  refine CM_seq ?_
  refine CM_seq ?_
  refine CM_region ?_
  refine WM_val (fun W hm => rv_move rfl) (Wd_none rfl) rfl (by decide) ?_
  refine WM_val (fun W hm => rv_len Try.underlying44 rfl) (Wd_none rfl) rfl (by decide) ?_
  refine WM_val (fun W hm => rv_move rfl) (Wd_none rfl) rfl (by decide) ?_
  refine WM_val (fun W hm => rv_len Try.underlying44 rfl) (Wd_none rfl) rfl (by decide) ?_
  refine WM_val (fun W hm => rv_neq rfl rfl) (Wd_none rfl) rfl (by decide) ?_
  refine WM_nil ?_
  refine QM_then ?_
  by_cases h11 : ((x0.length : Nat) : Int) = ((x1.length : Nat) : Int)
  · have g12 : (((x0.length : Nat) : Int) != ((x1.length : Nat) : Int)) = false := by rw [h11]; exact bne_self_eq_false _
    refine CM_condF rfl g12 ?_
    refine CM_skip ?_
    refine QM_then ?_
    refine CM_seq ?_
    refine CM_seq ?_
    refine CM_region ?_
    refine WM_val (fun W hm => rv_move rfl) (Wd_none rfl) rfl (by decide) ?_
    refine WM_val (fun W hm => rv_len Try.underlying44 rfl) (Wd_none rfl) rfl (by decide) ?_
    refine WM_val (fun W hm => rv_move rfl) (Wd_none rfl) rfl (by decide) ?_
    refine WM_nil ?_
    refine QM_then ?_
    refine CM_block ?_
    refine CM_loop (σ := Nat × (Unit) × (Unit)) (fun s => [(0, .slice A2 x0.length c3), (1, .slice A7 x1.length c8), (12, .int .i64 ((x0.length : Nat) : Int)), (13, .int .i64 ((s.1 : Nat) : Int))]) (fun s => []) (fun s => s.1 ≤ x0.length ∧ rng (R := Bool) (fun k (_ : Unit) => impl_EqualAnnotated_b1 x0 x1 k) (x0.length - s.1) s.1 s.2.1 = rng (R := Bool) (fun k (_ : Unit) => impl_EqualAnnotated_b1 x0 x1 k) (x0.length - 0) 0 ()) (fun s => x0.length - s.1) (0, (), ()) (subL_cons rfl (subL_cons rfl (subL_cons rfl (subL_cons rfl subL_nil)))) (fun W hm => hm) ⟨(by omega), rfl⟩ ?_
    rintro ⟨k13, ⟨⟩, ⟨⟩⟩ H16
    obtain ⟨hk14, hF15⟩ : k13 ≤ x0.length ∧ rng (R := Bool) (fun k (_ : Unit) => impl_EqualAnnotated_b1 x0 x1 k) (x0.length - k13) k13 () = rng (R := Bool) (fun k (_ : Unit) => impl_EqualAnnotated_b1 x0 x1 k) (x0.length - 0) 0 () := H16
    show CM Try.prog 43 _ _ _ _ [(0, .slice A2 x0.length c3), (1, .slice A7 x1.length c8), (12, .int .i64 ((x0.length : Nat) : Int)), (13, .int .i64 ((k13 : Nat) : Int))] []
    refine CM_seq ?_
    refine CM_region ?_
    refine WM_val (fun W hm => rv_lss rfl rfl) (Wd_none rfl) rfl (by decide) ?_
    refine WM_nil ?_
    refine QM_then ?_
    refine CM_seq ?_
    by_cases hl17 : k13 < x0.length
    · have g18 : (decide (((k13 : Nat) : Int) < ((x0.length : Nat) : Int))) = true := decide_eq_true (by omega)
      refine CM_condT rfl g18 ?_
      refine CM_skip ?_
      refine QM_then ?_
      refine CM_seq ?_
      refine CM_block ?_
      refine CM_seq ?_
      refine CM_region ?_
      refine WM_val (fun W hm => rv_move rfl) (Wd_none rfl) rfl (by decide) ?_
      refine WM_val (fun W hm => rv_assign rfl) (Wd_none rfl) rfl (by decide) ?_
      refine WM_nil ?_
      refine QM_then ?_
      refine CM_seq ?_
      refine CM_regionD (by kernel_rfl) (by kernel_rfl) ?_
      refine QR_val (fun W hm => rv_move rfl) (Wd_none rfl) rfl (by decide) ?_
      refine QR_val (fun W hm => rv_move rfl) (Wd_none rfl) rfl (by decide) ?_
      obtain ⟨a19, rfl, hb20, he21⟩ := q4 (by omega)
      refine QR_val (fun W hm => rv_index (sz := 3) (k := k13) Try.underlying44 Try.type89 rfl rfl rfl (by omega)) (Wd_none rfl) rfl (by decide) ?_
      refine QR_val (fun W hm => rv_field Try.underlying89 rfl Try.type54 (by decide) rfl rfl) (Wd_none rfl) rfl (by decide) ?_
      obtain ⟨_, e27, hc22⟩ := he21 k13 _ (gt_some (show k13 < x0.length from by omega))
      obtain ⟨v23, v25, rfl, r24, r26⟩ := tyAnnotated_rd e27
      have r32 := r24
      obtain ⟨m28, A29, c30, rfl, q31⟩ := r24
      have r37 := r26
      obtain ⟨m33, A34, c35, rfl, q36⟩ := r26
      refine QR_val (fun W hm => rv_loadN (cs := [.int .i64 ((gt x0 k13).Row.Id), .slice A29 ((gt x0 k13).Row.Values).length c30]) Try.underlying54 Try.type54 rfl rfl (hm.elPart (show (a19.add (k13 * 3)).block < w.heap.size from by rw [add_block]; exact hb20) hc22 rfl)) (Wd_none rfl) rfl (by decide) ?_
      refine QR_val (fun W hm => rv_move rfl) (Wd_none rfl) rfl (by decide) ?_
      refine QR_val (fun W hm => rv_move rfl) (Wd_none rfl) rfl (by decide) ?_
      obtain ⟨a38, rfl, hb39, he40⟩ := q9 (by omega)
      refine QR_val (fun W hm => rv_index (sz := 3) (k := k13) Try.underlying44 Try.type89 rfl rfl rfl (by omega)) (Wd_none rfl) rfl (by decide) ?_
      refine QR_val (fun W hm => rv_field Try.underlying89 rfl Try.type54 (by decide) rfl rfl) (Wd_none rfl) rfl (by decide) ?_
      obtain ⟨_, e46, hc41⟩ := he40 k13 _ (gt_some (show k13 < x1.length from by omega))
      obtain ⟨v42, v44, rfl, r43, r45⟩ := tyAnnotated_rd e46
      have r51 := r43
      obtain ⟨m47, A48, c49, rfl, q50⟩ := r43
      have r56 := r45
      obtain ⟨m52, A53, c54, rfl, q55⟩ := r45
      refine QR_val (fun W hm => rv_loadN (cs := [.int .i64 ((gt x1 k13).Row.Id), .slice A48 ((gt x1 k13).Row.Values).length c49]) Try.underlying54 Try.type54 rfl rfl (hm.elPart (show (a38.add (k13 * 3)).block < w.heap.size from by rw [add_block]; exact hb39) hc41 rfl)) (Wd_none rfl) rfl (by decide) ?_
      refine QR_callV cb79 rfl (fun W hm => impl_equalRow_c W _ ((gt x0 k13).Row) _ ((gt x1 k13).Row) (tyRow_mk (hm.rdS0 r32)) (tyRow_mk (hm.rdS0 r51))) (Wd_none rfl) (by decide) ?_
      refine QR_val (fun W hm => rv_not rfl) (Wd_none rfl) rfl (by decide) ?_
      refine QR_val (fun W hm => rv_move rfl) (Wd_none rfl) rfl (by decide) ?_
      rcases Bool.eq_false_or_eq_true (impl_equalRow_m ((gt x0 k13).Row) ((gt x1 k13).Row)) with g58 | g58
      ·
        refine QR_val (fun W hm => rv_move rfl) (Wd_some rfl rfl rfl (bw (nt g58) rfl)) rfl (by decide) ?_
        refine QR_val (fun W hm => rv_move rfl) (Wd_some rfl rfl rfl (bw (nt g58) rfl)) rfl (by decide) ?_
        refine QR_val (fun W hm => rv_index (sz := 3) (k := k13) Try.underlying44 Try.type89 rfl rfl rfl (by omega)) (Wd_some rfl rfl rfl (bw (nt g58) rfl)) rfl (by decide) ?_
        refine QR_val (fun W hm => rv_field Try.underlying89 rfl Try.type32 (by decide) rfl rfl) (Wd_some rfl rfl rfl (bw (nt g58) rfl)) rfl (by decide) ?_
        refine QR_val (fun W hm => rv_load Try.underlying32 rfl rfl ((hm.cell0 (show ((a19.add (k13 * 3)).add 2).block < w.heap.size from by rw [add_block, add_block]; exact hb20)).trans (hc22 2 _ rfl))) (Wd_some rfl rfl rfl (bw (nt g58) rfl)) rfl (by decide) ?_
        refine QR_val (fun W hm => rv_move rfl) (Wd_some rfl rfl rfl (bw (nt g58) rfl)) rfl (by decide) ?_
        refine QR_val (fun W hm => rv_move rfl) (Wd_some rfl rfl rfl (bw (nt g58) rfl)) rfl (by decide) ?_
        refine QR_val (fun W hm => rv_index (sz := 3) (k := k13) Try.underlying44 Try.type89 rfl rfl rfl (by omega)) (Wd_some rfl rfl rfl (bw (nt g58) rfl)) rfl (by decide) ?_
        refine QR_val (fun W hm => rv_field Try.underlying89 rfl Try.type32 (by decide) rfl rfl) (Wd_some rfl rfl rfl (bw (nt g58) rfl)) rfl (by decide) ?_
        refine QR_val (fun W hm => rv_load Try.underlying32 rfl rfl ((hm.cell0 (show ((a38.add (k13 * 3)).add 2).block < w.heap.size from by rw [add_block, add_block]; exact hb39)).trans (hc41 2 _ rfl))) (Wd_some rfl rfl rfl (bw (nt g58) rfl)) rfl (by decide) ?_
        refine QR_callV cb80 rfl (fun W hm => impl_sameInts_c W _ ((gt x0 k13).Set) _ ((gt x1 k13).Set) (hm.rdS0 r37) (hm.rdS0 r56)) (Wd_some rfl rfl rfl (bw (nt g58) rfl)) (by decide) ?_
        refine QR_val (fun W hm => rv_not rfl) (Wd_some rfl rfl rfl (bw (nt g58) rfl)) rfl (by decide) ?_
        refine QR_val (fun W hm => rv_pickF rfl (nt g58) rfl) (Wd_none rfl) rfl (by decide) ?_
        refine QR_nil ?_
        refine QM_then ?_
        rcases Bool.eq_false_or_eq_true (impl_sameInts_m ((gt x0 k13).Set) ((gt x1 k13).Set)) with g60 | g60
        ·
          refine CM_condF rfl (nt g60) ?_
          refine CM_skip ?_
          refine QM_block_normal ?_
          refine QM_then ?_
          refine CM_region ?_
          refine WM_val (fun W hm => rv_addN (p := k13) (q := 1) rfl rfl (by omega)) (Wd_none rfl) rfl (by decide) ?_
          refine WM_val (fun W hm => rv_move rfl) (Wd_none rfl) rfl (by decide) ?_
          refine WM_nil ?_
          have hn61 := rng_next (R := Bool) (body := (fun k (_ : Unit) => impl_EqualAnnotated_b1 x0 x1 k)) (k := k13) (s := ()) (s' := ()) (show k13 < x0.length from by omega) (show impl_EqualAnnotated_b1 x0 x1 k13 = Sum.inr () from by unfold impl_EqualAnnotated_b1; exact cond_t g58 (cond_t g60 (rfl))) hF15
          exact QM_round (k13 + 1, (), ()) (subL_cons rfl (subL_cons rfl (subL_cons rfl (subL_cons rfl subL_nil)))) (fun W hm => hm) ⟨(by omega), hn61⟩ (show x0.length - (k13 + 1) < x0.length - k13 from by omega)
        ·
          refine CM_condT rfl (nf g60) ?_
          refine CM_seq ?_
          refine CM_region ?_
          refine WM_val (fun W hm => rv_assign rfl) (Wd_none rfl) rfl (by decide) ?_
          refine WM_nil ?_
          refine QM_then ?_
          refine CM_ret ?_
          refine QM_block_ret ?_
          refine QM_then_ret ?_
          refine QM_then_ret ?_
          refine QM_block_ret ?_
          refine QM_then_ret ?_
          exact QM_ret1 rfl rfl (fun W hm => ⟨ret_b (show impl_EqualAnnotated_m x0 x1 = false from by unfold impl_EqualAnnotated_m; exact cond_f g12 (fin_inl (rng_ret (body := (fun k (_ : Unit) => impl_EqualAnnotated_b1 x0 x1 k)) (k := k13) (s := ()) (show k13 < x0.length from by omega) (show impl_EqualAnnotated_b1 x0 x1 k13 = Sum.inl false from by unfold impl_EqualAnnotated_b1; exact cond_t g58 (cond_f g60 (rfl))) hF15) rfl)), hm.below⟩)
      ·
        refine QR_skip (Wd_some rfl rfl rfl (bw (nf g58) rfl)) rfl (by decide) ?_
        refine QR_skip (Wd_some rfl rfl rfl (bw (nf g58) rfl)) rfl (by decide) ?_
        refine QR_skip (Wd_some rfl rfl rfl (bw (nf g58) rfl)) rfl (by decide) ?_
        refine QR_skip (Wd_some rfl rfl rfl (bw (nf g58) rfl)) rfl (by decide) ?_
        refine QR_skip (Wd_some rfl rfl rfl (bw (nf g58) rfl)) rfl (by decide) ?_
        refine QR_skip (Wd_some rfl rfl rfl (bw (nf g58) rfl)) rfl (by decide) ?_
        refine QR_skip (Wd_some rfl rfl rfl (bw (nf g58) rfl)) rfl (by decide) ?_
        refine QR_skip (Wd_some rfl rfl rfl (bw (nf g58) rfl)) rfl (by decide) ?_
        refine QR_skip (Wd_some rfl rfl rfl (bw (nf g58) rfl)) rfl (by decide) ?_
        refine QR_skip (Wd_some rfl rfl rfl (bw (nf g58) rfl)) rfl (by decide) ?_
        refine QR_skip (Wd_some rfl rfl rfl (bw (nf g58) rfl)) rfl (by decide) ?_
        refine QR_skip (Wd_some rfl rfl rfl (bw (nf g58) rfl)) rfl (by decide) ?_
        refine QR_val (fun W hm => rv_pickT rfl (nf g58) rfl) (Wd_none rfl) rfl (by decide) ?_
        refine QR_nil ?_
        refine QM_then ?_
        refine CM_condT rfl rfl ?_
        refine CM_seq ?_
        refine CM_region ?_
        refine WM_val (fun W hm => rv_assign rfl) (Wd_none rfl) rfl (by decide) ?_
        refine WM_nil ?_
        refine QM_then ?_
        refine CM_ret ?_
        refine QM_block_ret ?_
        refine QM_then_ret ?_
        refine QM_then_ret ?_
        refine QM_block_ret ?_
        refine QM_then_ret ?_
        exact QM_ret1 rfl rfl (fun W hm => ⟨ret_b (show impl_EqualAnnotated_m x0 x1 = false from by unfold impl_EqualAnnotated_m; exact cond_f g12 (fin_inl (rng_ret (body := (fun k (_ : Unit) => impl_EqualAnnotated_b1 x0 x1 k)) (k := k13) (s := ()) (show k13 < x0.length from by omega) (show impl_EqualAnnotated_b1 x0 x1 k13 = Sum.inl false from by unfold impl_EqualAnnotated_b1; exact cond_f g58 (rfl)) hF15) rfl)), hm.below⟩)
    · have g18 : (decide (((k13 : Nat) : Int) < ((x0.length : Nat) : Int))) = false := decide_eq_false (by omega)
      refine CM_condF rfl g18 ?_
      refine CM_exit ?_
      refine QM_then_exit ?_
      refine QM_then_exit ?_
      have hE62 : rng (R := Bool) (fun k (_ : Unit) => impl_EqualAnnotated_b1 x0 x1 k) (x0.length - 0) 0 () = Sum.inr () := rng_end hl17 hF15
      refine QM_block_hit ?_
      refine QM_then ?_
      refine CM_seq ?_
      refine CM_region ?_
      refine WM_val (fun W hm => rv_assign rfl) (Wd_none rfl) rfl (by decide) ?_
      refine WM_nil ?_
      refine QM_then ?_
      refine CM_ret ?_
      exact QM_ret1 rfl rfl (fun W hm => ⟨ret_b (show impl_EqualAnnotated_m x0 x1 = true from by unfold impl_EqualAnnotated_m; exact cond_f g12 (fin_inr hE62 (rfl))), hm.below⟩)
  · have g12 : (((x0.length : Nat) : Int) != ((x1.length : Nat) : Int)) = true := bne_iff_ne.2 h11
    refine CM_condT rfl g12 ?_
    refine CM_seq ?_
    refine CM_region ?_
    refine WM_val (fun W hm => rv_assign rfl) (Wd_none rfl) rfl (by decide) ?_
    refine WM_nil ?_
    refine QM_then ?_
    refine CM_ret ?_
    refine QM_then_ret ?_
    exact QM_ret1 rfl rfl (fun W hm => ⟨ret_b (show impl_EqualAnnotated_m x0 x1 = false from by unfold impl_EqualAnnotated_m; exact cond_t g12 (rfl)), hm.below⟩)

def laws_eqIntS_b1 (x0 : (List Int)) (x1 : (List Int)) (k13 : Nat) : Bool ⊕ (Unit) :=
  cond ((gt x0 k13) != (gt x1 k13)) (Sum.inl false) (Sum.inr ())
def laws_eqIntS_m (x0 : (List Int)) (x1 : (List Int)) : Bool :=
  cond (((x0.length : Nat) : Int) != ((x1.length : Nat) : Int)) false (Sum.elim id (fun (s : Unit) => true) (rng (R := Bool) (fun k (_ : Unit) => laws_eqIntS_b1 x0 x1 k) (x0.length - 0) 0 ()))
theorem cb45 : Cb Try.prog 45 := ⟨Try.f45, _, Try.func45, rfl, by decide⟩
set_option maxRecDepth 10000 in
theorem laws_eqIntS_c (w : World) (z0 : Value) (x0 : (List Int)) (z1 : Value) (x1 : (List Int)) (r_0 : rdS tInt w w.heap.size z0 x0) (r_1 : rdS tInt w w.heap.size z1 x1) :
    Calls Try.prog 45 #[z0, z1] w fun e w' => e = .returned (.bool (laws_eqIntS_m x0 x1)) ∧ Below w.heap.size w w' := by
  have r5 := r_0
  obtain ⟨m1, A2, c3, rfl, q4⟩ := r_0
  have r10 := r_1
  obtain ⟨m6, A7, c8, rfl, q9⟩ := r_1
  refine call_enterM (L := [(0, .slice A2 x0.length c3), (1, .slice A7 x1.length c8)]) (N := 26) Try.func45 rfl rfl (Nat.le_of_ble_eq_true rfl) (argsL_cons rfl (argsL_cons rfl argsL_nil)) ?_
  refine CM_seq ?_
  refine CM_region ?_
  refine WM_val (fun W hm => rv_assign rfl) (Wd_none rfl) rfl (by decide) ?_
  refine WM_nil ?_
  refine QM_then ?_
  refine CM_seq ?_
  refine CM_seq ?_
  refine CM_region ?_
  refine WM_val (fun W hm => rv_move rfl) (Wd_none rfl) rfl (by decide) ?_
  refine WM_val (fun W hm => rv_len Try.underlying32 rfl) (Wd_none rfl) rfl (by decide) ?_
  refine WM_val (fun W hm => rv_move rfl) (Wd_none rfl) rfl (by decide) ?_
  refine WM_val (fun W hm => rv_len Try.underlying32 rfl) (Wd_none rfl) rfl (by decide) ?_
  refine WM_val (fun W hm => rv_neq rfl rfl) (Wd_none rfl) rfl (by decide) ?_
  refine WM_nil ?_
  refine QM_then ?_
  by_cases h11 : ((x0.length : Nat) : Int) = ((x1.length : Nat) : Int)
  · have g12 : (((x0.length : Nat) : Int) != ((x1.length : Nat) : Int)) = false := by rw [h11]; exact bne_self_eq_false _
    refine CM_condF rfl g12 ?_
    refine CM_skip ?_
    refine QM_then ?_
    refine CM_seq ?_
    refine CM_seq ?_
    refine CM_region ?_
    refine WM_val (fun W hm => rv_assign rfl) (Wd_none rfl) rfl (by decide) ?_
    refine WM_nil ?_
    refine QM_then ?_
    refine CM_block ?_
    refine CM_loop (σ := Nat × (Unit) × (Unit)) (fun s => [(0, .slice A2 x0.length c3), (1, .slice A7 x1.length c8), (5, .int .i64 ((s.1 : Nat) : Int))]) (fun s => []) (fun s => s.1 ≤ x0.length ∧ rng (R := Bool) (fun k (_ : Unit) => laws_eqIntS_b1 x0 x1 k) (x0.length - s.1) s.1 s.2.1 = rng (R := Bool) (fun k (_ : Unit) => laws_eqIntS_b1 x0 x1 k) (x0.length - 0) 0 ()) (fun s => x0.length - s.1) (0, (), ()) (subL_cons rfl (subL_cons rfl (subL_cons rfl subL_nil))) (fun W hm => hm) ⟨(by omega), rfl⟩ ?_
    rintro ⟨k13, ⟨⟩, ⟨⟩⟩ H16
    obtain ⟨hk14, hF15⟩ : k13 ≤ x0.length ∧ rng (R := Bool) (fun k (_ : Unit) => laws_eqIntS_b1 x0 x1 k) (x0.length - k13) k13 () = rng (R := Bool) (fun k (_ : Unit) => laws_eqIntS_b1 x0 x1 k) (x0.length - 0) 0 () := H16
    show CM Try.prog 26 _ _ _ _ [(0, .slice A2 x0.length c3), (1, .slice A7 x1.length c8), (5, .int .i64 ((k13 : Nat) : Int))] []
    refine CM_seq ?_
    refine CM_seq ?_
    refine CM_region ?_
    refine WM_val (fun W hm => rv_move rfl) (Wd_none rfl) rfl (by decide) ?_
    refine WM_val (fun W hm => rv_move rfl) (Wd_none rfl) rfl (by decide) ?_
    refine WM_val (fun W hm => rv_len Try.underlying32 rfl) (Wd_none rfl) rfl (by decide) ?_
    refine WM_val (fun W hm => rv_lss rfl rfl) (Wd_none rfl) rfl (by decide) ?_
    refine WM_nil ?_
    refine QM_then ?_
    by_cases hl17 : k13 < x0.length
    · have g18 : (decide (((k13 : Nat) : Int) < ((x0.length : Nat) : Int))) = true := decide_eq_true (by omega)
      refine CM_condT rfl g18 ?_
      refine CM_skip ?_
      refine QM_then ?_
      refine CM_seq ?_
      refine CM_block ?_
      refine CM_seq ?_
      refine CM_regionD (by kernel_rfl) (by kernel_rfl) ?_
      refine QR_val (fun W hm => rv_move rfl) (Wd_none rfl) rfl (by decide) ?_
      refine QR_val (fun W hm => rv_move rfl) (Wd_none rfl) rfl (by decide) ?_
      obtain ⟨a19, rfl, hb20, he21⟩ := q4 (by omega)
      refine QR_val (fun W hm => rv_index (sz := 1) (k := k13) Try.underlying32 Try.type3 rfl rfl rfl (by omega)) (Wd_none rfl) rfl (by decide) ?_
      refine QR_val (fun W hm => rv_load Try.underlying3 rfl rfl ((hm.cell0 (show (a19.add (k13 * 1)).block < w.heap.size from by rw [add_block]; exact hb20)).trans (rdS_int he21 k13 (by omega)))) (Wd_none rfl) rfl (by decide) ?_
      refine QR_val (fun W hm => rv_move rfl) (Wd_none rfl) rfl (by decide) ?_
      refine QR_val (fun W hm => rv_move rfl) (Wd_none rfl) rfl (by decide) ?_
      obtain ⟨a22, rfl, hb23, he24⟩ := q9 (by omega)
      refine QR_val (fun W hm => rv_index (sz := 1) (k := k13) Try.underlying32 Try.type3 rfl rfl rfl (by omega)) (Wd_none rfl) rfl (by decide) ?_
      refine QR_val (fun W hm => rv_load Try.underlying3 rfl rfl ((hm.cell0 (show (a22.add (k13 * 1)).block < w.heap.size from by rw [add_block]; exact hb23)).trans (rdS_int he24 k13 (by omega)))) (Wd_none rfl) rfl (by decide) ?_
      refine QR_val (fun W hm => rv_neq rfl rfl) (Wd_none rfl) rfl (by decide) ?_
      refine QR_nil ?_
      refine QM_then ?_
      by_cases h25 : (gt x0 k13) = (gt x1 k13)
      · have g26 : ((gt x0 k13) != (gt x1 k13)) = false := by rw [h25]; exact bne_self_eq_false _
        refine CM_condF rfl g26 ?_
        refine CM_skip ?_
        refine QM_block_normal ?_
        refine QM_then ?_
        refine CM_region ?_
        refine WM_val (fun W hm => rv_move rfl) (Wd_none rfl) rfl (by decide) ?_
        refine WM_val (fun W hm => rv_addN (p := k13) (q := 1) rfl rfl (by omega)) (Wd_none rfl) rfl (by decide) ?_
        refine WM_val (fun W hm => rv_assign rfl) (Wd_none rfl) rfl (by decide) ?_
        refine WM_nil ?_
        have hn27 := rng_next (R := Bool) (body := (fun k (_ : Unit) => laws_eqIntS_b1 x0 x1 k)) (k := k13) (s := ()) (s' := ()) (show k13 < x0.length from by omega) (show laws_eqIntS_b1 x0 x1 k13 = Sum.inr () from by unfold laws_eqIntS_b1; exact cond_f g26 (rfl)) hF15
        exact QM_round (k13 + 1, (), ()) (subL_cons rfl (subL_cons rfl (subL_cons rfl subL_nil))) (fun W hm => hm) ⟨(by omega), hn27⟩ (show x0.length - (k13 + 1) < x0.length - k13 from by omega)
      · have g26 : ((gt x0 k13) != (gt x1 k13)) = true := bne_iff_ne.2 h25
        refine CM_condT rfl g26 ?_
        refine CM_seq ?_
        refine CM_region ?_
        refine WM_val (fun W hm => rv_assign rfl) (Wd_none rfl) rfl (by decide) ?_
        refine WM_nil ?_
        refine QM_then ?_
        refine CM_ret ?_
        refine QM_block_ret ?_
        refine QM_then_ret ?_
        refine QM_then_ret ?_
        refine QM_block_ret ?_
        refine QM_then_ret ?_
        exact QM_ret1 rfl rfl (fun W hm => ⟨ret_b (show laws_eqIntS_m x0 x1 = false from by unfold laws_eqIntS_m; exact cond_f g12 (fin_inl (rng_ret (body := (fun k (_ : Unit) => laws_eqIntS_b1 x0 x1 k)) (k := k13) (s := ()) (show k13 < x0.length from by omega) (show laws_eqIntS_b1 x0 x1 k13 = Sum.inl false from by unfold laws_eqIntS_b1; exact cond_t g26 (rfl)) hF15) rfl)), hm.below⟩)
    · have g18 : (decide (((k13 : Nat) : Int) < ((x0.length : Nat) : Int))) = false := decide_eq_false (by omega)
      refine CM_condF rfl g18 ?_
      refine CM_exit ?_
      refine QM_then_exit ?_
      refine QM_then_exit ?_
      have hE28 : rng (R := Bool) (fun k (_ : Unit) => laws_eqIntS_b1 x0 x1 k) (x0.length - 0) 0 () = Sum.inr () := rng_end hl17 hF15
      refine QM_block_hit ?_
      refine QM_then ?_
      refine CM_seq ?_
      refine CM_region ?_
      refine WM_val (fun W hm => rv_assign rfl) (Wd_none rfl) rfl (by decide) ?_
      refine WM_nil ?_
      refine QM_then ?_
      refine CM_ret ?_
      exact QM_ret1 rfl rfl (fun W hm => ⟨ret_b (show laws_eqIntS_m x0 x1 = true from by unfold laws_eqIntS_m; exact cond_f g12 (fin_inr hE28 (rfl))), hm.below⟩)
  · have g12 : (((x0.length : Nat) : Int) != ((x1.length : Nat) : Int)) = true := bne_iff_ne.2 h11
    refine CM_condT rfl g12 ?_
    refine CM_seq ?_
    refine CM_region ?_
    refine WM_val (fun W hm => rv_assign rfl) (Wd_none rfl) rfl (by decide) ?_
    refine WM_nil ?_
    refine QM_then ?_
    refine CM_ret ?_
    refine QM_then_ret ?_
    exact QM_ret1 rfl rfl (fun W hm => ⟨ret_b (show laws_eqIntS_m x0 x1 = false from by unfold laws_eqIntS_m; exact cond_t g12 (rfl)), hm.below⟩)

def laws_eqRow_m (x0 : DRow) (x1 : DRow) : Bool :=
  cond (x0.Id != x1.Id) false (cond (laws_eqIntS_m x0.Values x1.Values) true false)
theorem cb76 : Cb Try.prog 76 := ⟨Try.f76, _, Try.func76, rfl, by decide⟩
set_option maxRecDepth 10000 in
theorem laws_eqRow_c (w : World) (z0 : List Value) (x0 : DRow) (z1 : List Value) (x1 : DRow) (r_0 : tyRow.rd w w.heap.size z0 x0) (r_1 : tyRow.rd w w.heap.size z1 x1) :
    Calls Try.prog 76 #[.agg z0.toArray, .agg z1.toArray] w fun e w' => e = .returned (.bool (laws_eqRow_m x0 x1)) ∧ Below w.heap.size w w' := by
  obtain ⟨v1, rfl, r2⟩ := tyRow_rd r_0
  have r7 := r2
  obtain ⟨m3, A4, c5, rfl, q6⟩ := r2
  obtain ⟨v8, rfl, r9⟩ := tyRow_rd r_1
  have r14 := r9
  obtain ⟨m10, A11, c12, rfl, q13⟩ := r9
  refine call_enterM (L := [(0, .agg #[.int .i64 x0.Id, .slice A4 x0.Values.length c5]), (1, .agg #[.int .i64 x1.Id, .slice A11 x1.Values.length c12])]) (N := 16) Try.func76 rfl rfl (Nat.le_of_ble_eq_true rfl) (argsL_cons rfl (argsL_cons rfl argsL_nil)) ?_
  refine CM_seq ?_
  refine CM_region ?_
  refine WM_box rfl (Wd_none rfl) (by decide) (fun p15 => ?_)
  refine WM_box rfl (Wd_none rfl) (by decide) (fun p16 => ?_)
  refine WM_val (fun W hm => rv_assign rfl) (Wd_none rfl) rfl (by decide) ?_
  refine WM_nil ?_
  refine QM_then ?_
  refine CM_seq ?_
  refine CM_seq ?_
  refine CM_region ?_
  refine WM_val (fun W hm => rv_field Try.underlying54 rfl Try.type3 (by decide) rfl rfl) (Wd_none rfl) rfl (by decide) ?_
  refine WM_val (fun W hm => rv_load Try.underlying3 rfl rfl (hm.boxCell (n := 1) (o := 0) rfl rfl)) (Wd_none rfl) rfl (by decide) ?_
  refine WM_val (fun W hm => rv_field Try.underlying54 rfl Try.type3 (by decide) rfl rfl) (Wd_none rfl) rfl (by decide) ?_
  refine WM_val (fun W hm => rv_load Try.underlying3 rfl rfl (hm.boxCell (n := 0) (o := 0) rfl rfl)) (Wd_none rfl) rfl (by decide) ?_
  refine WM_val (fun W hm => rv_neq rfl rfl) (Wd_none rfl) rfl (by decide) ?_
  refine WM_nil ?_
  refine QM_then ?_
  by_cases h17 : x0.Id = x1.Id
  · have g18 : (x0.Id != x1.Id) = false := by rw [h17]; exact bne_self_eq_false _
    refine CM_condF rfl g18 ?_
    refine CM_skip ?_
    refine QM_then ?_
    refine CM_seq ?_
    refine CM_seq ?_
    refine CM_region ?_
    refine WM_val (fun W hm => rv_field Try.underlying54 rfl Try.type32 (by decide) rfl rfl) (Wd_none rfl) rfl (by decide) ?_
    refine WM_val (fun W hm => rv_load Try.underlying32 rfl rfl (hm.boxCell (n := 1) (o := 1) rfl rfl)) (Wd_none rfl) rfl (by decide) ?_
    refine WM_val (fun W hm => rv_field Try.underlying54 rfl Try.type32 (by decide) rfl rfl) (Wd_none rfl) rfl (by decide) ?_
    refine WM_val (fun W hm => rv_load Try.underlying32 rfl rfl (hm.boxCell (n := 0) (o := 1) rfl rfl)) (Wd_none rfl) rfl (by decide) ?_
    refine WM_callV cb45 rfl (fun W hm => laws_eqIntS_c W _ x0.Values _ x1.Values (hm.rdS0 r7) (hm.rdS0 r14)) (Wd_none rfl) (by decide) ?_
    refine WM_val (fun W hm => rv_not rfl) (Wd_none rfl) rfl (by decide) ?_
    refine WM_nil ?_
    refine QM_then ?_
    rcases Bool.eq_false_or_eq_true (laws_eqIntS_m x0.Values x1.Values) with g20 | g20
    ·
      refine CM_condF rfl (nt g20) ?_
      refine CM_skip ?_
      refine QM_then ?_
      refine CM_seq ?_
      refine CM_region ?_
      refine WM_val (fun W hm => rv_assign rfl) (Wd_none rfl) rfl (by decide) ?_
      refine WM_nil ?_
      refine QM_then ?_
      refine CM_ret ?_
      exact QM_ret1 rfl rfl (fun W hm => ⟨ret_b (show laws_eqRow_m x0 x1 = true from by unfold laws_eqRow_m; exact cond_f g18 (cond_t g20 (rfl))), hm.below⟩)
    ·
      refine CM_condT rfl (nf g20) ?_
      refine CM_seq ?_
      refine CM_region ?_
      refine WM_val (fun W hm => rv_assign rfl) (Wd_none rfl) rfl (by decide) ?_
      refine WM_nil ?_
      refine QM_then ?_
      refine CM_ret ?_
      refine QM_then_ret ?_
      exact QM_ret1 rfl rfl (fun W hm => ⟨ret_b (show laws_eqRow_m x0 x1 = false from by unfold laws_eqRow_m; exact cond_f g18 (cond_f g20 (rfl))), hm.below⟩)
  · have g18 : (x0.Id != x1.Id) = true := bne_iff_ne.2 h17
    refine CM_condT rfl g18 ?_
    refine CM_seq ?_
    refine CM_region ?_
    refine WM_val (fun W hm => rv_assign rfl) (Wd_none rfl) rfl (by decide) ?_
    refine WM_nil ?_
    refine QM_then ?_
    refine CM_ret ?_
    refine QM_then_ret ?_
    exact QM_ret1 rfl rfl (fun W hm => ⟨ret_b (show laws_eqRow_m x0 x1 = false from by unfold laws_eqRow_m; exact cond_t g18 (rfl)), hm.below⟩)

def laws_eqAnnotated_m (x0 : DAnnotated) (x1 : DAnnotated) : Bool :=
  cond (laws_eqRow_m x0.Row x1.Row) (cond (laws_eqIntS_m x0.Set x1.Set) true false) false
theorem cb70 : Cb Try.prog 70 := ⟨Try.f70, _, Try.func70, rfl, by decide⟩
set_option maxRecDepth 10000 in
theorem laws_eqAnnotated_c (w : World) (z0 : List Value) (x0 : DAnnotated) (z1 : List Value) (x1 : DAnnotated) (r_0 : tyAnnotated.rd w w.heap.size z0 x0) (r_1 : tyAnnotated.rd w w.heap.size z1 x1) :
    Calls Try.prog 70 #[.agg z0.toArray, .agg z1.toArray] w fun e w' => e = .returned (.bool (laws_eqAnnotated_m x0 x1)) ∧ Below w.heap.size w w' := by
  obtain ⟨v1, v3, rfl, r2, r4⟩ := tyAnnotated_rd r_0
  have r9 := r2
  obtain ⟨m5, A6, c7, rfl, q8⟩ := r2
  have r14 := r4
  obtain ⟨m10, A11, c12, rfl, q13⟩ := r4
  obtain ⟨v15, v17, rfl, r16, r18⟩ := tyAnnotated_rd r_1
  have r23 := r16
  obtain ⟨m19, A20, c21, rfl, q22⟩ := r16
  have r28 := r18
  obtain ⟨m24, A25, c26, rfl, q27⟩ := r18
  refine call_enterM (L := [(0, .agg #[.int .i64 x0.Row.Id, .slice A6 x0.Row.Values.length c7, .slice A11 x0.Set.length c12]), (1, .agg #[.int .i64 x1.Row.Id, .slice A20 x1.Row.Values.length c21, .slice A25 x1.Set.length c26])]) (N := 17) Try.func70 rfl rfl (Nat.le_of_ble_eq_true rfl) (argsL_cons rfl (argsL_cons rfl argsL_nil)) ?_
  refine CM_seq ?_
  refine CM_region ?_
  refine WM_box rfl (Wd_none rfl) (by decide) (fun p29 => ?_)
  refine WM_box rfl (Wd_none rfl) (by decide) (fun p30 => ?_)
  refine WM_val (fun W hm => rv_assign rfl) (Wd_none rfl) rfl (by decide) ?_
  refine WM_nil ?_
  refine QM_then ?_
  refine CM_seq ?_
  refine CM_seq ?_
  refine CM_region ?_
  refine WM_val (fun W hm => rv_field Try.underlying89 rfl Try.type54 (by decide) rfl rfl) (Wd_none rfl) rfl (by decide) ?_
  refine WM_val (fun W hm => rv_loadN (cs := [.int .i64 x0.Row.Id, .slice A6 x0.Row.Values.length c7]) Try.underlying54 Try.type54 rfl rfl (hm.boxPart (n := 1) rfl rfl)) (Wd_none rfl) rfl (by decide) ?_
  refine WM_val (fun W hm => rv_field Try.underlying89 rfl Try.type54 (by decide) rfl rfl) (Wd_none rfl) rfl (by decide) ?_
  refine WM_val (fun W hm => rv_loadN (cs := [.int .i64 x1.Row.Id, .slice A20 x1.Row.Values.length c21]) Try.underlying54 Try.type54 rfl rfl (hm.boxPart (n := 0) rfl rfl)) (Wd_none rfl) rfl (by decide) ?_
  refine WM_callV cb76 rfl (fun W hm => laws_eqRow_c W _ x0.Row _ x1.Row (tyRow_mk (hm.rdS0 r9)) (tyRow_mk (hm.rdS0 r23))) (Wd_none rfl) (by decide) ?_
  refine WM_val (fun W hm => rv_not rfl) (Wd_none rfl) rfl (by decide) ?_
  refine WM_nil ?_
  refine QM_then ?_
  rcases Bool.eq_false_or_eq_true (laws_eqRow_m x0.Row x1.Row) with g32 | g32
  ·
    refine CM_condF rfl (nt g32) ?_
    refine CM_skip ?_
    refine QM_then ?_
    refine CM_seq ?_
    refine CM_seq ?_
    refine CM_region ?_
    refine WM_val (fun W hm => rv_field Try.underlying89 rfl Try.type32 (by decide) rfl rfl) (Wd_none rfl) rfl (by decide) ?_
    refine WM_val (fun W hm => rv_load Try.underlying32 rfl rfl (hm.boxCell (n := 1) (o := 2) rfl rfl)) (Wd_none rfl) rfl (by decide) ?_
    refine WM_val (fun W hm => rv_field Try.underlying89 rfl Try.type32 (by decide) rfl rfl) (Wd_none rfl) rfl (by decide) ?_
    refine WM_val (fun W hm => rv_load Try.underlying32 rfl rfl (hm.boxCell (n := 0) (o := 2) rfl rfl)) (Wd_none rfl) rfl (by decide) ?_
    refine WM_callV cb45 rfl (fun W hm => laws_eqIntS_c W _ x0.Set _ x1.Set (hm.rdS0 r14) (hm.rdS0 r28)) (Wd_none rfl) (by decide) ?_
    refine WM_val (fun W hm => rv_not rfl) (Wd_none rfl) rfl (by decide) ?_
    refine WM_nil ?_
    refine QM_then ?_
    rcases Bool.eq_false_or_eq_true (laws_eqIntS_m x0.Set x1.Set) with g34 | g34
    ·
      refine CM_condF rfl (nt g34) ?_
      refine CM_skip ?_
      refine QM_then ?_
      refine CM_seq ?_
      refine CM_region ?_
      refine WM_val (fun W hm => rv_assign rfl) (Wd_none rfl) rfl (by decide) ?_
      refine WM_nil ?_
      refine QM_then ?_
      refine CM_ret ?_
      exact QM_ret1 rfl rfl (fun W hm => ⟨ret_b (show laws_eqAnnotated_m x0 x1 = true from by unfold laws_eqAnnotated_m; exact cond_t g32 (cond_t g34 (rfl))), hm.below⟩)
    ·
      refine CM_condT rfl (nf g34) ?_
      refine CM_seq ?_
      refine CM_region ?_
      refine WM_val (fun W hm => rv_assign rfl) (Wd_none rfl) rfl (by decide) ?_
      refine WM_nil ?_
      refine QM_then ?_
      refine CM_ret ?_
      refine QM_then_ret ?_
      exact QM_ret1 rfl rfl (fun W hm => ⟨ret_b (show laws_eqAnnotated_m x0 x1 = false from by unfold laws_eqAnnotated_m; exact cond_t g32 (cond_f g34 (rfl))), hm.below⟩)
  ·
    refine CM_condT rfl (nf g32) ?_
    refine CM_seq ?_
    refine CM_region ?_
    refine WM_val (fun W hm => rv_assign rfl) (Wd_none rfl) rfl (by decide) ?_
    refine WM_nil ?_
    refine QM_then ?_
    refine CM_ret ?_
    refine QM_then_ret ?_
    exact QM_ret1 rfl rfl (fun W hm => ⟨ret_b (show laws_eqAnnotated_m x0 x1 = false from by unfold laws_eqAnnotated_m; exact cond_f g32 (rfl)), hm.below⟩)

def laws_eqAnnotatedS_b1 (x0 : (List DAnnotated)) (x1 : (List DAnnotated)) (k13 : Nat) : Bool ⊕ (Unit) :=
  cond (laws_eqAnnotated_m (gt x0 k13) (gt x1 k13)) (Sum.inr ()) (Sum.inl false)
def laws_eqAnnotatedS_m (x0 : (List DAnnotated)) (x1 : (List DAnnotated)) : Bool :=
  cond (((x0.length : Nat) : Int) != ((x1.length : Nat) : Int)) false (Sum.elim id (fun (s : Unit) => true) (rng (R := Bool) (fun k (_ : Unit) => laws_eqAnnotatedS_b1 x0 x1 k) (x0.length - 0) 0 ()))
theorem cb33 : Cb Try.prog 33 := ⟨Try.f33, _, Try.func33, rfl, by decide⟩
set_option maxRecDepth 10000 in
theorem laws_eqAnnotatedS_c (w : World) (z0 : Value) (x0 : (List DAnnotated)) (z1 : Value) (x1 : (List DAnnotated)) (r_0 : rdS tyAnnotated w w.heap.size z0 x0) (r_1 : rdS tyAnnotated w w.heap.size z1 x1) :
    Calls Try.prog 33 #[z0, z1] w fun e w' => e = .returned (.bool (laws_eqAnnotatedS_m x0 x1)) ∧ Below w.heap.size w w' := by
  have r5 := r_0
  obtain ⟨m1, A2, c3, rfl, q4⟩ := r_0
  have r10 := r_1
  obtain ⟨m6, A7, c8, rfl, q9⟩ := r_1
  refine call_enterM (L := [(0, .slice A2 x0.length c3), (1, .slice A7 x1.length c8)]) (N := 27) Try.func33 rfl rfl (Nat.le_of_ble_eq_true rfl) (argsL_cons rfl (argsL_cons rfl argsL_nil)) ?_
  refine CM_seq ?_
  refine CM_region ?_
  refine WM_val (fun W hm => rv_assign rfl) (Wd_none rfl) rfl (by decide) ?_
  refine WM_nil ?_
  refine QM_then ?_
  refine CM_seq ?_
  refine CM_seq ?_
  refine CM_region ?_
  refine WM_val (fun W hm => rv_move rfl) (Wd_none rfl) rfl (by decide) ?_
  refine WM_val (fun W hm => rv_len Try.underlying44 rfl) (Wd_none rfl) rfl (by decide) ?_
  refine WM_val (fun W hm => rv_move rfl) (Wd_none rfl) rfl (by decide) ?_
  refine WM_val (fun W hm => rv_len Try.underlying44 rfl) (Wd_none rfl) rfl (by decide) ?_
  refine WM_val (fun W hm => rv_neq rfl rfl) (Wd_none rfl) rfl (by decide) ?_
  refine WM_nil ?_
  refine QM_then ?_
  by_cases h11 : ((x0.length : Nat) : Int) = ((x1.length : Nat) : Int)
  · have g12 : (((x0.length : Nat) : Int) != ((x1.length : Nat) : Int)) = false := by rw [h11]; exact bne_self_eq_false _
    refine CM_condF rfl g12 ?_
    refine CM_skip ?_
    refine QM_then ?_
    refine CM_seq ?_
    refine CM_seq ?_
    refine CM_region ?_
    refine WM_val (fun W hm => rv_assign rfl) (Wd_none rfl) rfl (by decide) ?_
    refine WM_nil ?_
    refine QM_then ?_
    refine CM_block ?_
    refine CM_loop (σ := Nat × (Unit) × (Unit)) (fun s => [(0, .slice A2 x0.length c3), (1, .slice A7 x1.length c8), (5, .int .i64 ((s.1 : Nat) : Int))]) (fun s => []) (fun s => s.1 ≤ x0.length ∧ rng (R := Bool) (fun k (_ : Unit) => laws_eqAnnotatedS_b1 x0 x1 k) (x0.length - s.1) s.1 s.2.1 = rng (R := Bool) (fun k (_ : Unit) => laws_eqAnnotatedS_b1 x0 x1 k) (x0.length - 0) 0 ()) (fun s => x0.length - s.1) (0, (), ()) (subL_cons rfl (subL_cons rfl (subL_cons rfl subL_nil))) (fun W hm => hm) ⟨(by omega), rfl⟩ ?_
    rintro ⟨k13, ⟨⟩, ⟨⟩⟩ H16
    obtain ⟨hk14, hF15⟩ : k13 ≤ x0.length ∧ rng (R := Bool) (fun k (_ : Unit) => laws_eqAnnotatedS_b1 x0 x1 k) (x0.length - k13) k13 () = rng (R := Bool) (fun k (_ : Unit) => laws_eqAnnotatedS_b1 x0 x1 k) (x0.length - 0) 0 () := H16
    show CM Try.prog 27 _ _ _ _ [(0, .slice A2 x0.length c3), (1, .slice A7 x1.length c8), (5, .int .i64 ((k13 : Nat) : Int))] []
    refine CM_seq ?_
    refine CM_seq ?_
    refine CM_region ?_
    refine WM_val (fun W hm => rv_move rfl) (Wd_none rfl) rfl (by decide) ?_
    refine WM_val (fun W hm => rv_move rfl) (Wd_none rfl) rfl (by decide) ?_
    refine WM_val (fun W hm => rv_len Try.underlying44 rfl) (Wd_none rfl) rfl (by decide) ?_
    refine WM_val (fun W hm => rv_lss rfl rfl) (Wd_none rfl) rfl (by decide) ?_
    refine WM_nil ?_
    refine QM_then ?_
    by_cases hl17 : k13 < x0.length
    · have g18 : (decide (((k13 : Nat) : Int) < ((x0.length : Nat) : Int))) = true := decide_eq_true (by omega)
      refine CM_condT rfl g18 ?_
      refine CM_skip ?_
      refine QM_then ?_
      refine CM_seq ?_
      refine CM_block ?_
      refine CM_seq ?_
      refine CM_regionD (by kernel_rfl) (by kernel_rfl) ?_
      refine QR_val (fun W hm => rv_move rfl) (Wd_none rfl) rfl (by decide) ?_
      refine QR_val (fun W hm => rv_move rfl) (Wd_none rfl) rfl (by decide) ?_
      obtain ⟨a19, rfl, hb20, he21⟩ := q4 (by omega)
      refine QR_val (fun W hm => rv_index (sz := 3) (k := k13) Try.underlying44 Try.type89 rfl rfl rfl (by omega)) (Wd_none rfl) rfl (by decide) ?_
      obtain ⟨_, e27, hc22⟩ := he21 k13 _ (gt_some (show k13 < x0.length from by omega))
      obtain ⟨v23, v25, rfl, r24, r26⟩ := tyAnnotated_rd e27
      have r32 := r24
      obtain ⟨m28, A29, c30, rfl, q31⟩ := r24
      have r37 := r26
      obtain ⟨m33, A34, c35, rfl, q36⟩ := r26
      refine QR_val (fun W hm => rv_loadN (cs := [.int .i64 ((gt x0 k13).Row.Id), .slice A29 ((gt x0 k13).Row.Values).length c30, .slice A34 ((gt x0 k13).Set).length c35]) Try.underlying89 Try.type89 rfl rfl (hm.elCells (show (a19.add (k13 * 3)).block < w.heap.size from by rw [add_block]; exact hb20) hc22)) (Wd_none rfl) rfl (by decide) ?_
      refine QR_val (fun W hm => rv_move rfl) (Wd_none rfl) rfl (by decide) ?_
      refine QR_val (fun W hm => rv_move rfl) (Wd_none rfl) rfl (by decide) ?_
      obtain ⟨a38, rfl, hb39, he40⟩ := q9 (by omega)
      refine QR_val (fun W hm => rv_index (sz := 3) (k := k13) Try.underlying44 Try.type89 rfl rfl rfl (by omega)) (Wd_none rfl) rfl (by decide) ?_
      obtain ⟨_, e46, hc41⟩ := he40 k13 _ (gt_some (show k13 < x1.length from by omega))
      obtain ⟨v42, v44, rfl, r43, r45⟩ := tyAnnotated_rd e46
      have r51 := r43
      obtain ⟨m47, A48, c49, rfl, q50⟩ := r43
      have r56 := r45
      obtain ⟨m52, A53, c54, rfl, q55⟩ := r45
      refine QR_val (fun W hm => rv_loadN (cs := [.int .i64 ((gt x1 k13).Row.Id), .slice A48 ((gt x1 k13).Row.Values).length c49, .slice A53 ((gt x1 k13).Set).length c54]) Try.underlying89 Try.type89 rfl rfl (hm.elCells (show (a38.add (k13 * 3)).block < w.heap.size from by rw [add_block]; exact hb39) hc41)) (Wd_none rfl) rfl (by decide) ?_
      refine QR_callV cb70 rfl (fun W hm => laws_eqAnnotated_c W _ (gt x0 k13) _ (gt x1 k13) (tyAnnotated_mk (hm.rdS0 r32) (hm.rdS0 r37)) (tyAnnotated_mk (hm.rdS0 r51) (hm.rdS0 r56))) (Wd_none rfl) (by decide) ?_
      refine QR_val (fun W hm => rv_not rfl) (Wd_none rfl) rfl (by decide) ?_
      refine QR_nil ?_
      refine QM_then ?_
      rcases Bool.eq_false_or_eq_true (laws_eqAnnotated_m (gt x0 k13) (gt x1 k13)) with g58 | g58
      ·
        refine CM_condF rfl (nt g58) ?_
        refine CM_skip ?_
        refine QM_block_normal ?_
        refine QM_then ?_
        refine CM_region ?_
        refine WM_val (fun W hm => rv_move rfl) (Wd_none rfl) rfl (by decide) ?_
        refine WM_val (fun W hm => rv_addN (p := k13) (q := 1) rfl rfl (by omega)) (Wd_none rfl) rfl (by decide) ?_
        refine WM_val (fun W hm => rv_assign rfl) (Wd_none rfl) rfl (by decide) ?_
        refine WM_nil ?_
        have hn59 := rng_next (R := Bool) (body := (fun k (_ : Unit) => laws_eqAnnotatedS_b1 x0 x1 k)) (k := k13) (s := ()) (s' := ()) (show k13 < x0.length from by omega) (show laws_eqAnnotatedS_b1 x0 x1 k13 = Sum.inr () from by unfold laws_eqAnnotatedS_b1; exact cond_t g58 (rfl)) hF15
        exact QM_round (k13 + 1, (), ()) (subL_cons rfl (subL_cons rfl (subL_cons rfl subL_nil))) (fun W hm => hm) ⟨(by omega), hn59⟩ (show x0.length - (k13 + 1) < x0.length - k13 from by omega)
      ·
        refine CM_condT rfl (nf g58) ?_
        refine CM_seq ?_
        refine CM_region ?_
        refine WM_val (fun W hm => rv_assign rfl) (Wd_none rfl) rfl (by decide) ?_
        refine WM_nil ?_
        refine QM_then ?_
        refine CM_ret ?_
        refine QM_block_ret ?_
        refine QM_then_ret ?_
        refine QM_then_ret ?_
        refine QM_block_ret ?_
        refine QM_then_ret ?_
        exact QM_ret1 rfl rfl (fun W hm => ⟨ret_b (show laws_eqAnnotatedS_m x0 x1 = false from by unfold laws_eqAnnotatedS_m; exact cond_f g12 (fin_inl (rng_ret (body := (fun k (_ : Unit) => laws_eqAnnotatedS_b1 x0 x1 k)) (k := k13) (s := ()) (show k13 < x0.length from by omega) (show laws_eqAnnotatedS_b1 x0 x1 k13 = Sum.inl false from by unfold laws_eqAnnotatedS_b1; exact cond_f g58 (rfl)) hF15) rfl)), hm.below⟩)
    · have g18 : (decide (((k13 : Nat) : Int) < ((x0.length : Nat) : Int))) = false := decide_eq_false (by omega)
      refine CM_condF rfl g18 ?_
      refine CM_exit ?_
      refine QM_then_exit ?_
      refine QM_then_exit ?_
      have hE60 : rng (R := Bool) (fun k (_ : Unit) => laws_eqAnnotatedS_b1 x0 x1 k) (x0.length - 0) 0 () = Sum.inr () := rng_end hl17 hF15
      refine QM_block_hit ?_
      refine QM_then ?_
      refine CM_seq ?_
      refine CM_region ?_
      refine WM_val (fun W hm => rv_assign rfl) (Wd_none rfl) rfl (by decide) ?_
      refine WM_nil ?_
      refine QM_then ?_
      refine CM_ret ?_
      exact QM_ret1 rfl rfl (fun W hm => ⟨ret_b (show laws_eqAnnotatedS_m x0 x1 = true from by unfold laws_eqAnnotatedS_m; exact cond_f g12 (fin_inr hE60 (rfl))), hm.below⟩)
  · have g12 : (((x0.length : Nat) : Int) != ((x1.length : Nat) : Int)) = true := bne_iff_ne.2 h11
    refine CM_condT rfl g12 ?_
    refine CM_seq ?_
    refine CM_region ?_
    refine WM_val (fun W hm => rv_assign rfl) (Wd_none rfl) rfl (by decide) ?_
    refine WM_nil ?_
    refine QM_then ?_
    refine CM_ret ?_
    refine QM_then_ret ?_
    exact QM_ret1 rfl rfl (fun W hm => ⟨ret_b (show laws_eqAnnotatedS_m x0 x1 = false from by unfold laws_eqAnnotatedS_m; exact cond_t g12 (rfl)), hm.below⟩)

end Go.Proofs.Ytlpgopanikikkaa
