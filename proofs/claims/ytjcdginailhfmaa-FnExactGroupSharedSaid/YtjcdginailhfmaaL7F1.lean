/-
  Contracts of functions, printed by a program of ours.
-/
import Derived.Test.YtjcdginailhfmaaDat
namespace Go.Proofs.Ytjcdginailhfmaa
open Go.RowKit
def laws_szIntS_m (x0 : (List Int)) (x1 : Int) : Int :=
  cond (decide ((IntKind.i64.wrap (x1 - ((x0.length : Nat) : Int))) < 0)) (-1) (IntKind.i64.wrap (x1 - ((x0.length : Nat) : Int)))
set_option maxRecDepth 100000 in
theorem cb102 : Cb Try.prog 102 := ⟨Try.f102, _, Try.func102, rfl, by decide⟩
set_option maxRecDepth 10000 in
set_option maxHeartbeats 4000000 in
theorem laws_szIntS_c (w : World) (z0 : Value) (x0 : (List Int)) (x1 : Int) (r_0 : rdS tInt w w.heap.size z0 x0) :
    Calls Try.prog 102 #[z0, .int .i64 x1] w fun e w' => e = .returned (.int .i64 (laws_szIntS_m x0 x1)) ∧ Below w.heap.size w w' := by
  have r5 := r_0
  obtain ⟨m1, A2, c3, rfl, q4⟩ := r_0
  refine call_enterM (L := [(0, .slice A2 x0.length c3), (1, .int .i64 x1)]) (N := 12) Try.func102 rfl rfl (Nat.le_of_ble_eq_true rfl) (argsL_cons rfl (argsL_cons rfl argsL_nil)) ?_
  refine sr ?_
  refine wa ?_
  refine nt' ?_
  refine sr ?_
  refine wm ?_
  refine wm ?_
  refine wv (fun W hm => rv_len Try.underlying33 rfl) ?_
  refine wv (fun W hm => rv_sub rfl rfl) ?_
  refine wa ?_
  refine nt' ?_
  refine CM_seq ?_
  refine sr ?_
  refine wm ?_
  refine wv (fun W hm => rv_lss rfl rfl) ?_
  refine nt' ?_
  by_cases h6 : (IntKind.i64.wrap (x1 - ((x0.length : Nat) : Int))) < 0
  · have g7 : (decide ((IntKind.i64.wrap (x1 - ((x0.length : Nat) : Int))) < 0)) = true := decide_eq_true h6
    refine CM_condT rfl g7 ?_
    refine sr ?_
    refine wa ?_
    refine nt' ?_
    refine CM_ret ?_
    refine QM_then_ret ?_
    exact QM_ret1 rfl rfl (fun W hm => ⟨ret_i (show laws_szIntS_m x0 x1 = (-1) from by unfold laws_szIntS_m; exact cond_t g7 (rfl)), hm.below⟩)
  · have g7 : (decide ((IntKind.i64.wrap (x1 - ((x0.length : Nat) : Int))) < 0)) = false := decide_eq_false h6
    refine CM_condF rfl g7 ?_
    refine CM_skip ?_
    refine QM_then ?_
    refine sr ?_
    refine wm ?_
    refine wa ?_
    refine nt' ?_
    refine CM_ret ?_
    exact QM_ret1 rfl rfl (fun W hm => ⟨ret_i (show laws_szIntS_m x0 x1 = (IntKind.i64.wrap (x1 - ((x0.length : Nat) : Int))) from by unfold laws_szIntS_m; exact cond_f g7 (rfl)), hm.below⟩)

def laws_szRow_m (x0 : DRow) (x1 : Int) : Int :=
  cond (decide ((laws_szIntS_m x0.Values x1) < 0)) (-1) (laws_szIntS_m x0.Values x1)
set_option maxRecDepth 100000 in
theorem cb79 : Cb Try.prog 79 := ⟨Try.f79, _, Try.func79, rfl, by decide⟩
set_option maxRecDepth 10000 in
set_option maxHeartbeats 4000000 in
theorem laws_szRow_c (w : World) (z0 : List Value) (x0 : DRow) (x1 : Int) (r_0 : tyLRow.rd w w.heap.size z0 x0) :
    Calls Try.prog 79 #[.agg z0.toArray, .int .i64 x1] w fun e w' => e = .returned (.int .i64 (laws_szRow_m x0 x1)) ∧ Below w.heap.size w w' := by
  obtain ⟨v1, rfl, r2⟩ := tyLRow_rd r_0
  have r7 := r2
  obtain ⟨m3, A4, c5, rfl, q6⟩ := r2
  refine call_enterM (L := [(0, .agg #[.int .i64 x0.Id, .slice A4 x0.Values.length c5]), (1, .int .i64 x1)]) (N := 12) Try.func79 rfl rfl (Nat.le_of_ble_eq_true rfl) (argsL_cons rfl (argsL_cons rfl argsL_nil)) ?_
  refine sr ?_
  refine WM_box rfl (Wd_none rfl) (by decide) (fun p8 => ?_)
  refine wa ?_
  refine nt' ?_
  refine sr ?_
  refine wv (fun W hm => rv_field Try.underlying63 rfl Try.type33 (by decide) rfl rfl) ?_
  refine wv (fun W hm => rv_load Try.underlying33 rfl rfl (hm.boxCell (n := 0) (o := 1) rfl rfl)) ?_
  refine wm ?_
  refine WM_callV (cl_fn cb102 rfl) (fun W hm => laws_szIntS_c W _ x0.Values x1 (hm.rdS0 r7)) (Wd_none rfl) (by decide) ?_
  refine wa ?_
  refine nt' ?_
  refine CM_seq ?_
  refine sr ?_
  refine wm ?_
  refine wv (fun W hm => rv_lss rfl rfl) ?_
  refine nt' ?_
  by_cases h9 : (laws_szIntS_m x0.Values x1) < 0
  · have g10 : (decide ((laws_szIntS_m x0.Values x1) < 0)) = true := decide_eq_true h9
    refine CM_condT rfl g10 ?_
    refine sr ?_
    refine wa ?_
    refine nt' ?_
    refine CM_ret ?_
    refine QM_then_ret ?_
    exact QM_ret1 rfl rfl (fun W hm => ⟨ret_i (show laws_szRow_m x0 x1 = (-1) from by unfold laws_szRow_m; exact cond_t g10 (rfl)), hm.below⟩)
  · have g10 : (decide ((laws_szIntS_m x0.Values x1) < 0)) = false := decide_eq_false h9
    refine CM_condF rfl g10 ?_
    refine CM_skip ?_
    refine QM_then ?_
    refine sr ?_
    refine wm ?_
    refine wa ?_
    refine nt' ?_
    refine CM_ret ?_
    exact QM_ret1 rfl rfl (fun W hm => ⟨ret_i (show laws_szRow_m x0 x1 = (laws_szIntS_m x0.Values x1) from by unfold laws_szRow_m; exact cond_f g10 (rfl)), hm.below⟩)

def laws_szAnnotated_m (x0 : DAnnotated) (x1 : Int) : Int :=
  cond (decide ((laws_szRow_m x0.Row x1) < 0)) (-1) (cond (decide ((laws_szIntS_m x0.Set (laws_szRow_m x0.Row x1)) < 0)) (-1) (laws_szIntS_m x0.Set (laws_szRow_m x0.Row x1)))
set_option maxRecDepth 100000 in
theorem cb56 : Cb Try.prog 56 := ⟨Try.f56, _, Try.func56, rfl, by decide⟩
set_option maxRecDepth 10000 in
set_option maxHeartbeats 4000000 in
theorem laws_szAnnotated_c (w : World) (z0 : List Value) (x0 : DAnnotated) (x1 : Int) (r_0 : tyLAnnotated.rd w w.heap.size z0 x0) :
    Calls Try.prog 56 #[.agg z0.toArray, .int .i64 x1] w fun e w' => e = .returned (.int .i64 (laws_szAnnotated_m x0 x1)) ∧ Below w.heap.size w w' := by
  obtain ⟨v1, v3, rfl, r2, r4⟩ := tyLAnnotated_rd r_0
  have r9 := r2
  obtain ⟨m5, A6, c7, rfl, q8⟩ := r2
  have r14 := r4
  obtain ⟨m10, A11, c12, rfl, q13⟩ := r4
  refine call_enterM (L := [(0, .agg #[.int .i64 x0.Row.Id, .slice A6 x0.Row.Values.length c7, .slice A11 x0.Set.length c12]), (1, .int .i64 x1)]) (N := 18) Try.func56 rfl rfl (Nat.le_of_ble_eq_true rfl) (argsL_cons rfl (argsL_cons rfl argsL_nil)) ?_
  refine sr ?_
  refine WM_box rfl (Wd_none rfl) (by decide) (fun p15 => ?_)
  refine wa ?_
  refine nt' ?_
  refine sr ?_
  refine wv (fun W hm => rv_field Try.underlying88 rfl Try.type63 (by decide) rfl rfl) ?_
  refine wv (fun W hm => rv_loadN (cs := [.int .i64 x0.Row.Id, .slice A6 x0.Row.Values.length c7]) Try.underlying63 Try.type63 rfl rfl (hm.boxPart (n := 0) rfl rfl)) ?_
  refine wm ?_
  refine WM_callV (cl_fn cb79 rfl) (fun W hm => laws_szRow_c W _ x0.Row x1 (tyLRow_mk (x := x0.Row) (hm.rdS0 r9))) (Wd_none rfl) (by decide) ?_
  refine wa ?_
  refine nt' ?_
  refine CM_seq ?_
  refine sr ?_
  refine wm ?_
  refine wv (fun W hm => rv_lss rfl rfl) ?_
  refine nt' ?_
  by_cases h16 : (laws_szRow_m x0.Row x1) < 0
  · have g17 : (decide ((laws_szRow_m x0.Row x1) < 0)) = true := decide_eq_true h16
    refine CM_condT rfl g17 ?_
    refine sr ?_
    refine wa ?_
    refine nt' ?_
    refine CM_ret ?_
    refine QM_then_ret ?_
    exact QM_ret1 rfl rfl (fun W hm => ⟨ret_i (show laws_szAnnotated_m x0 x1 = (-1) from by unfold laws_szAnnotated_m; exact cond_t g17 (rfl)), hm.below⟩)
  · have g17 : (decide ((laws_szRow_m x0.Row x1) < 0)) = false := decide_eq_false h16
    refine CM_condF rfl g17 ?_
    refine CM_skip ?_
    refine QM_then ?_
    refine sr ?_
    refine wv (fun W hm => rv_field Try.underlying88 rfl Try.type33 (by decide) rfl rfl) ?_
    refine wv (fun W hm => rv_load Try.underlying33 rfl rfl (hm.boxCell (n := 0) (o := 2) rfl rfl)) ?_
    refine wm ?_
    refine WM_callV (cl_fn cb102 rfl) (fun W hm => laws_szIntS_c W _ x0.Set (laws_szRow_m x0.Row x1) (hm.rdS0 r14)) (Wd_none rfl) (by decide) ?_
    refine wa ?_
    refine nt' ?_
    refine CM_seq ?_
    refine sr ?_
    refine wm ?_
    refine wv (fun W hm => rv_lss rfl rfl) ?_
    refine nt' ?_
    by_cases h18 : (laws_szIntS_m x0.Set (laws_szRow_m x0.Row x1)) < 0
    · have g19 : (decide ((laws_szIntS_m x0.Set (laws_szRow_m x0.Row x1)) < 0)) = true := decide_eq_true h18
      refine CM_condT rfl g19 ?_
      refine sr ?_
      refine wa ?_
      refine nt' ?_
      refine CM_ret ?_
      refine QM_then_ret ?_
      exact QM_ret1 rfl rfl (fun W hm => ⟨ret_i (show laws_szAnnotated_m x0 x1 = (-1) from by unfold laws_szAnnotated_m; exact cond_f g17 (cond_t g19 (rfl))), hm.below⟩)
    · have g19 : (decide ((laws_szIntS_m x0.Set (laws_szRow_m x0.Row x1)) < 0)) = false := decide_eq_false h18
      refine CM_condF rfl g19 ?_
      refine CM_skip ?_
      refine QM_then ?_
      refine sr ?_
      refine wm ?_
      refine wa ?_
      refine nt' ?_
      refine CM_ret ?_
      exact QM_ret1 rfl rfl (fun W hm => ⟨ret_i (show laws_szAnnotated_m x0 x1 = (laws_szIntS_m x0.Set (laws_szRow_m x0.Row x1)) from by unfold laws_szAnnotated_m; exact cond_f g17 (cond_f g19 (rfl))), hm.below⟩)

def laws_szAnnotatedS_b1 (x0 : (List DAnnotated)) (k8 : Nat) (s9 : Int) : Int ⊕ (Int) :=
  cond (decide ((laws_szAnnotated_m (gt x0 k8) s9) < 0)) (Sum.inl (-1)) (Sum.inr (laws_szAnnotated_m (gt x0 k8) s9))
def laws_szAnnotatedS_m (x0 : (List DAnnotated)) (x1 : Int) : Int :=
  cond (decide ((IntKind.i64.wrap (x1 - ((x0.length : Nat) : Int))) < 0)) (-1) (Sum.elim id (fun (s : Int) => s) (rng (R := Int) (fun k (s : Int) => laws_szAnnotatedS_b1 x0 k s) (x0.length - 0) 0 (IntKind.i64.wrap (x1 - ((x0.length : Nat) : Int)))))
set_option maxRecDepth 100000 in
theorem cb11 : Cb Try.prog 11 := ⟨Try.f11, _, Try.func11, rfl, by decide⟩
set_option maxRecDepth 10000 in
set_option maxHeartbeats 4000000 in
theorem laws_szAnnotatedS_c (w : World) (z0 : Value) (x0 : (List DAnnotated)) (x1 : Int) (r_0 : rdS tyLAnnotated w w.heap.size z0 x0) :
    Calls Try.prog 11 #[z0, .int .i64 x1] w fun e w' => e = .returned (.int .i64 (laws_szAnnotatedS_m x0 x1)) ∧ Below w.heap.size w w' := by
  have r5 := r_0
  obtain ⟨m1, A2, c3, rfl, q4⟩ := r_0
  refine call_enterM (L := [(0, .slice A2 x0.length c3), (1, .int .i64 x1)]) (N := 27) Try.func11 rfl rfl (Nat.le_of_ble_eq_true rfl) (argsL_cons rfl (argsL_cons rfl argsL_nil)) ?_
  refine sr ?_
  refine wa ?_
  refine nt' ?_
  refine sr ?_
  refine wm ?_
  refine wm ?_
  refine wv (fun W hm => rv_len Try.underlying22 rfl) ?_
  refine wv (fun W hm => rv_sub rfl rfl) ?_
  refine wa ?_
  refine nt' ?_
  refine CM_seq ?_
  refine sr ?_
  refine wm ?_
  refine wv (fun W hm => rv_lss rfl rfl) ?_
  refine nt' ?_
  by_cases h6 : (IntKind.i64.wrap (x1 - ((x0.length : Nat) : Int))) < 0
  · have g7 : (decide ((IntKind.i64.wrap (x1 - ((x0.length : Nat) : Int))) < 0)) = true := decide_eq_true h6
    refine CM_condT rfl g7 ?_
    refine sr ?_
    refine wa ?_
    refine nt' ?_
    refine CM_ret ?_
    refine QM_then_ret ?_
    exact QM_ret1 rfl rfl (fun W hm => ⟨ret_i (show laws_szAnnotatedS_m x0 x1 = (-1) from by unfold laws_szAnnotatedS_m; exact cond_t g7 (rfl)), hm.below⟩)
  · have g7 : (decide ((IntKind.i64.wrap (x1 - ((x0.length : Nat) : Int))) < 0)) = false := decide_eq_false h6
    refine CM_condF rfl g7 ?_
    refine CM_skip ?_
    refine QM_then ?_
    refine CM_seq ?_
    refine sr ?_
    refine wa ?_
    refine nt' ?_
    refine CM_block ?_
    refine CM_loop (σ := Nat × (Int) × (Unit)) (fun s => [(0, .slice A2 x0.length c3), (1, .int .i64 s.2.1), (5, .int .i64 ((s.1 : Nat) : Int))]) (fun s => []) (fun s => s.1 ≤ x0.length ∧ rng (R := Int) (fun k (s : Int) => laws_szAnnotatedS_b1 x0 k s) (x0.length - s.1) s.1 s.2.1 = rng (R := Int) (fun k (s : Int) => laws_szAnnotatedS_b1 x0 k s) (x0.length - 0) 0 (IntKind.i64.wrap (x1 - ((x0.length : Nat) : Int)))) (fun s => x0.length - s.1) (0, (IntKind.i64.wrap (x1 - ((x0.length : Nat) : Int))), ()) (subL_cons rfl (subL_cons rfl (subL_cons rfl subL_nil))) (fun W hm => hm) ⟨(by omega), rfl⟩ ?_
    rintro ⟨k8, s9, ⟨⟩⟩ H12
    obtain ⟨hk10, hF11⟩ : k8 ≤ x0.length ∧ rng (R := Int) (fun k (s : Int) => laws_szAnnotatedS_b1 x0 k s) (x0.length - k8) k8 s9 = rng (R := Int) (fun k (s : Int) => laws_szAnnotatedS_b1 x0 k s) (x0.length - 0) 0 (IntKind.i64.wrap (x1 - ((x0.length : Nat) : Int))) := H12
    show CM Try.prog 27 _ _ _ _ [(0, .slice A2 x0.length c3), (1, .int .i64 s9), (5, .int .i64 ((k8 : Nat) : Int))] []
    refine CM_seq ?_
    refine sr ?_
    refine wm ?_
    refine wm ?_
    refine wv (fun W hm => rv_len Try.underlying22 rfl) ?_
    refine wv (fun W hm => rv_lss rfl rfl) ?_
    refine nt' ?_
    by_cases hl13 : k8 < x0.length
    · have g14 : (decide (((k8 : Nat) : Int) < ((x0.length : Nat) : Int))) = true := decide_eq_true (by omega)
      refine CM_condT rfl g14 ?_
      refine CM_skip ?_
      refine QM_then ?_
      refine CM_seq ?_
      refine CM_block ?_
      refine sr ?_
      refine wm ?_
      refine wm ?_
      obtain ⟨a15, rfl, hb16, he17⟩ := q4 (by omega)
      refine wv (fun W hm => rv_index (sz := 3) (k := k8) Try.underlying22 Try.type88 rfl rfl rfl (by omega)) ?_
      obtain ⟨_, e23, hc18⟩ := he17 k8 _ (gt_some (show k8 < x0.length from by omega))
      obtain ⟨v19, v21, rfl, r20, r22⟩ := tyLAnnotated_rd e23
      have r28 := r20
      obtain ⟨m24, A25, c26, rfl, q27⟩ := r20
      have r33 := r22
      obtain ⟨m29, A30, c31, rfl, q32⟩ := r22
      refine wv (fun W hm => rv_loadN (cs := [.int .i64 ((gt x0 k8).Row.Id), .slice A25 ((gt x0 k8).Row.Values).length c26, .slice A30 ((gt x0 k8).Set).length c31]) Try.underlying88 Try.type88 rfl rfl (hm.elCells (show (a15.add (k8 * 3)).block < w.heap.size from by rw [add_block]; exact hb16.1) hc18)) ?_
      refine wm ?_
      refine WM_callV (cl_fn cb56 rfl) (fun W hm => laws_szAnnotated_c W _ (gt x0 k8) s9 (tyLAnnotated_mk (x := (gt x0 k8)) (hm.rdS0 r28) (hm.rdS0 r33))) (Wd_none rfl) (by decide) ?_
      refine wa ?_
      refine nt' ?_
      refine sr ?_
      refine wm ?_
      refine wv (fun W hm => rv_lss rfl rfl) ?_
      refine nt' ?_
      by_cases h34 : (laws_szAnnotated_m (gt x0 k8) s9) < 0
      · have g35 : (decide ((laws_szAnnotated_m (gt x0 k8) s9) < 0)) = true := decide_eq_true h34
        refine CM_condT rfl g35 ?_
        refine sr ?_
        refine wa ?_
        refine nt' ?_
        refine CM_ret ?_
        refine QM_block_ret ?_
        refine QM_then_ret ?_
        refine QM_then_ret ?_
        refine QM_block_ret ?_
        refine QM_then_ret ?_
        exact QM_ret1 rfl rfl (fun W hm => ⟨ret_i (show laws_szAnnotatedS_m x0 x1 = (-1) from by unfold laws_szAnnotatedS_m; exact cond_f g7 (fin_inl (rng_ret (body := (fun k (s : Int) => laws_szAnnotatedS_b1 x0 k s)) (k := k8) (s := s9) (show k8 < x0.length from by omega) (show laws_szAnnotatedS_b1 x0 k8 s9 = Sum.inl (-1) from by unfold laws_szAnnotatedS_b1; exact cond_t g35 (rfl)) hF11) rfl)), hm.below⟩)
      · have g35 : (decide ((laws_szAnnotated_m (gt x0 k8) s9) < 0)) = false := decide_eq_false h34
        refine CM_condF rfl g35 ?_
        refine CM_skip ?_
        refine QM_block_normal ?_
        refine QM_then ?_
        refine CM_region ?_
        refine wm ?_
        refine wv (fun W hm => rv_addN (p := k8) (q := 1) rfl rfl (by omega)) ?_
        refine wa ?_
        refine WM_nil ?_
        have hn36 := rng_next (R := Int) (body := (fun k (s : Int) => laws_szAnnotatedS_b1 x0 k s)) (k := k8) (s := s9) (s' := (laws_szAnnotated_m (gt x0 k8) s9)) (show k8 < x0.length from by omega) (show laws_szAnnotatedS_b1 x0 k8 s9 = Sum.inr (laws_szAnnotated_m (gt x0 k8) s9) from by unfold laws_szAnnotatedS_b1; exact cond_f g35 (rfl)) hF11
        exact QM_round (k8 + 1, (laws_szAnnotated_m (gt x0 k8) s9), ()) (subL_cons rfl (subL_cons rfl (subL_cons rfl subL_nil))) (fun W hm => hm) ⟨(by omega), hn36⟩ (show x0.length - (k8 + 1) < x0.length - k8 from by omega)
    · have g14 : (decide (((k8 : Nat) : Int) < ((x0.length : Nat) : Int))) = false := decide_eq_false (by omega)
      refine CM_condF rfl g14 ?_
      refine CM_exit ?_
      refine QM_then_exit ?_
      refine QM_then_exit ?_
      have hE37 : rng (R := Int) (fun k (s : Int) => laws_szAnnotatedS_b1 x0 k s) (x0.length - 0) 0 (IntKind.i64.wrap (x1 - ((x0.length : Nat) : Int))) = Sum.inr s9 := rng_end hl13 hF11
      refine QM_block_hit ?_
      refine QM_then ?_
      refine sr ?_
      refine wm ?_
      refine wa ?_
      refine nt' ?_
      refine CM_ret ?_
      exact QM_ret1 rfl rfl (fun W hm => ⟨ret_i (show laws_szAnnotatedS_m x0 x1 = s9 from by unfold laws_szAnnotatedS_m; exact cond_f g7 (fin_inr hE37 (rfl))), hm.below⟩)

def laws_toIntS_b1 (x0 : (List Int)) (k9 : Nat) (d10 : (List Int)) : (List Int) ⊕ ((List Int)) :=
  Sum.inr (d10.set k9 (gt x0 k9))
def laws_toIntS_m (x0 : (List Int)) : (List Int) :=
  Sum.elim id (fun (s : (List Int)) => s) (rng (R := (List Int)) (fun k (s : (List Int)) => laws_toIntS_b1 x0 k s) (x0.length - 0) 0 (List.replicate x0.length (0 : Int)))
set_option maxRecDepth 100000 in
theorem cb21 : Cb Try.prog 21 := ⟨Try.f21, _, Try.func21, rfl, by decide⟩
set_option maxRecDepth 10000 in
set_option maxHeartbeats 4000000 in
theorem laws_toIntS_c (w : World) (z0 : Value) (x0 : (List Int)) (r_0 : rdS tInt w w.heap.size z0 x0) (s_0 : x0.length ≤ 68719476736) :
    Calls Try.prog 21 #[z0] w fun e w' => ∃ v : Value, e = .returned (v) ∧ Mem w.heap.size w [iOwn (tSl tInt 3) [v] (laws_toIntS_m x0)] w' := by
  have r5 := r_0
  obtain ⟨m1, A2, c3, rfl, q4⟩ := r_0
  have l6 : x0.length ≤ 68719476736 := s_0
  refine call_enterM (L := [(0, .slice A2 x0.length c3)]) (N := 22) Try.func21 rfl rfl (Nat.le_of_ble_eq_true rfl) (argsL_cons rfl argsL_nil) ?_
  refine sr ?_
  refine wa ?_
  refine nt' ?_
  refine sr ?_
  refine wm ?_
  refine wv (fun W hm => rv_len Try.underlying33 rfl) ?_
  refine WM_make (E := tInt) (n := x0.length) (x0 := (0 : Int)) Try.underlying33 Try.type3 rfl rfl rfl (fun _ => tInt_own) rfl rfl (show x0.length * 8 ≤ 281474976710656 from by omega) (by omega) (Wd_none rfl) (by decide) (fun p7 => ?_)
  refine wa ?_
  refine nt' ?_
  refine CM_seq ?_
  refine sr ?_
  refine wa ?_
  refine nt' ?_
  refine CM_block ?_
  refine CM_loop (σ := Nat × ((List Int)) × (Unit)) (fun s => [(0, .slice A2 x0.length c3), (3, .slice (some ⟨p7, 0, none⟩) x0.length x0.length), (4, .int .i64 ((s.1 : Nat) : Int))]) (fun s => [iOwn (tSl tInt 3) [.slice (some ⟨p7, 0, none⟩) x0.length x0.length] s.2.1]) (fun s => s.1 ≤ x0.length ∧ rng (R := (List Int)) (fun k (s : (List Int)) => laws_toIntS_b1 x0 k s) (x0.length - s.1) s.1 s.2.1 = rng (R := (List Int)) (fun k (s : (List Int)) => laws_toIntS_b1 x0 k s) (x0.length - 0) 0 (List.replicate x0.length (0 : Int))) (fun s => x0.length - s.1) (0, (List.replicate x0.length (0 : Int)), ()) (subL_cons rfl (subL_cons rfl (subL_cons rfl subL_nil))) (fun W hm => hm) ⟨(by omega), rfl⟩ ?_
  rintro ⟨k9, d10, ⟨⟩⟩ H13
  obtain ⟨hk11, hF12⟩ : k9 ≤ x0.length ∧ rng (R := (List Int)) (fun k (s : (List Int)) => laws_toIntS_b1 x0 k s) (x0.length - k9) k9 d10 = rng (R := (List Int)) (fun k (s : (List Int)) => laws_toIntS_b1 x0 k s) (x0.length - 0) 0 (List.replicate x0.length (0 : Int)) := H13
  show CM Try.prog 22 _ _ _ _ [(0, .slice A2 x0.length c3), (3, .slice (some ⟨p7, 0, none⟩) x0.length x0.length), (4, .int .i64 ((k9 : Nat) : Int))] [iOwn (tSl tInt 3) [.slice (some ⟨p7, 0, none⟩) x0.length x0.length] d10]
  refine CM_seq ?_
  refine sr ?_
  refine wm ?_
  refine wm ?_
  refine wv (fun W hm => rv_len Try.underlying33 rfl) ?_
  refine wv (fun W hm => rv_lss rfl rfl) ?_
  refine nt' ?_
  by_cases hl14 : k9 < x0.length
  · have g15 : (decide (((k9 : Nat) : Int) < ((x0.length : Nat) : Int))) = true := decide_eq_true (by omega)
    refine CM_condT rfl g15 ?_
    refine CM_skip ?_
    refine QM_then ?_
    refine CM_seq ?_
    refine CM_block ?_
    refine CM_region ?_
    refine wm ?_
    refine wm ?_
    refine wm ?_
    refine wm ?_
    obtain ⟨a16, rfl, hb17, he18⟩ := q4 (by omega)
    refine wv (fun W hm => rv_index (sz := 1) (k := k9) Try.underlying33 Try.type3 rfl rfl rfl (by omega)) ?_
    refine wv (fun W hm => rv_load Try.underlying3 rfl rfl ((hm.cell0 (show (a16.add (k9 * 1)).block < w.heap.size from by rw [add_block]; exact hb17.1)).trans (rdS_int he18 k9 (by omega)))) ?_
    refine wv (fun W hm => rv_index (sz := 1) (k := k9) Try.underlying33 Try.type3 rfl rfl rfl (by omega)) ?_
    refine WM_setEl (E := tInt) (e := 3) (u := .int .i64 (gt x0 k9)) (k := k9) (p := p7) (n := x0.length) (xs := d10) (eis := []) (js := []) (yv := (gt x0 k9)) (fun W hm => hm) (fun _ _ hs => (Sep.nil hs ▸ tInt_own)) rfl Try.type3 rfl (by omega) rfl rfl (Wd_none rfl) ?_
    refine WM_nil ?_
    refine QM_block_normal ?_
    refine QM_then ?_
    refine CM_region ?_
    refine wm ?_
    refine wv (fun W hm => rv_addN (p := k9) (q := 1) rfl rfl (by omega)) ?_
    refine wa ?_
    refine WM_nil ?_
    have hn19 := rng_next (R := (List Int)) (body := (fun k (s : (List Int)) => laws_toIntS_b1 x0 k s)) (k := k9) (s := d10) (s' := (d10.set k9 (gt x0 k9))) (show k9 < x0.length from by omega) (show laws_toIntS_b1 x0 k9 d10 = Sum.inr (d10.set k9 (gt x0 k9)) from by unfold laws_toIntS_b1; exact rfl) hF12
    exact QM_round (k9 + 1, (d10.set k9 (gt x0 k9)), ()) (subL_cons rfl (subL_cons rfl (subL_cons rfl subL_nil))) (fun W hm => hm) ⟨(by omega), hn19⟩ (show x0.length - (k9 + 1) < x0.length - k9 from by omega)
  · have g15 : (decide (((k9 : Nat) : Int) < ((x0.length : Nat) : Int))) = false := decide_eq_false (by omega)
    refine CM_condF rfl g15 ?_
    refine CM_exit ?_
    refine QM_then_exit ?_
    refine QM_then_exit ?_
    have hE20 : rng (R := (List Int)) (fun k (s : (List Int)) => laws_toIntS_b1 x0 k s) (x0.length - 0) 0 (List.replicate x0.length (0 : Int)) = Sum.inr d10 := rng_end hl14 hF12
    refine QM_block_hit ?_
    refine QM_then ?_
    refine sr ?_
    refine wm ?_
    refine wa ?_
    refine nt' ?_
    refine CM_ret ?_
    refine QM_r1 rfl (RR_tmp rfl) (fun W hm => ⟨.slice (some ⟨p7, 0, none⟩) x0.length x0.length, ?_, ?_⟩)
    · first | rw [(show laws_toIntS_m x0 = d10 from by unfold laws_toIntS_m; exact fin_inr hE20 (rfl))] | rfl
    · rw [(show laws_toIntS_m x0 = d10 from by unfold laws_toIntS_m; exact fin_inr hE20 (rfl))]; exact hm

def laws_toRow_m (x0 : DRow) : DRow :=
  (⟨x0.Id, (laws_toIntS_m x0.Values)⟩ : DRow)
set_option maxRecDepth 100000 in
theorem cb83 : Cb Try.prog 83 := ⟨Try.f83, _, Try.func83, rfl, by decide⟩
set_option maxRecDepth 10000 in
set_option maxHeartbeats 4000000 in
theorem laws_toRow_c (w : World) (z0 : List Value) (x0 : DRow) (r_0 : tyLRow.rd w w.heap.size z0 x0) (s_0 : smRow 68719476736 x0) :
    Calls Try.prog 83 #[.agg z0.toArray] w fun e w' => ∃ v : List Value, e = .returned (.agg v.toArray) ∧ Mem w.heap.size w [iOwn tyRow v (laws_toRow_m x0)] w' := by
  obtain ⟨v1, rfl, r2⟩ := tyLRow_rd r_0
  have r7 := r2
  obtain ⟨m3, A4, c5, rfl, q6⟩ := r2
  have l8 : x0.Values.length ≤ 68719476736 := s_0
  refine call_enterM (L := [(0, .agg #[.int .i64 x0.Id, .slice A4 x0.Values.length c5])]) (N := 12) Try.func83 rfl rfl (Nat.le_of_ble_eq_true rfl) (argsL_cons rfl argsL_nil) ?_
  refine sr ?_
  refine WM_box rfl (Wd_none rfl) (by decide) (fun p9 => ?_)
  refine WM_alloc Try.type69 rfl (Wd_none rfl) (by decide) (fun p10 => ?_)
  refine nt' ?_
  refine sr ?_
  refine WM_alloc Try.type69 rfl (Wd_none rfl) (by decide) (fun p11 => ?_)
  refine nt' ?_
  refine sr ?_
  refine wv (fun W hm => rv_field Try.underlying63 rfl Try.type3 (by decide) rfl rfl) ?_
  refine wv (fun W hm => rv_load Try.underlying3 rfl rfl (hm.boxCell (n := 2) (o := 0) rfl rfl)) ?_
  refine wv (fun W hm => rv_field Try.underlying69 rfl Try.type3 (by decide) rfl rfl) ?_
  refine WM_storeBox (p := p11) (o := 0) (cs := [.int .i64 0, .slice none 0 0]) (cs' := [.int .i64 x0.Id, .slice none 0 0]) (js := [iBox p10 69 [.int .i64 0, .slice none 0 0], iBox p9 63 [.int .i64 x0.Id, .slice A4 x0.Values.length c5]]) (fun W hm => hm) Try.type3 rfl (Nat.le_of_ble_eq_true rfl) rfl rfl rfl rfl (Wd_none rfl) ?_
  refine nt' ?_
  refine sr ?_
  refine wv (fun W hm => rv_field Try.underlying63 rfl Try.type33 (by decide) rfl rfl) ?_
  refine wv (fun W hm => rv_load Try.underlying33 rfl rfl (hm.boxCell (n := 2) (o := 1) rfl rfl)) ?_
  refine WM_call (χ := Value) (val := fun x => x) (js := fun x => [iOwn (tSl tInt 3) [x] (laws_toIntS_m x0.Values)]) (cl_fn cb21 rfl) (fun W hm => laws_toIntS_c W _ x0.Values (hm.rdS0 r7) s_0) (Wd_none rfl) (by decide) (fun z12 => ?_)
  refine WM_form (n := 0) rfl ?_
  rintro A13 c14 rfl m15
  refine wv (fun W hm => rv_field Try.underlying69 rfl Try.type33 (by decide) rfl rfl) ?_
  refine WM_storeBox (p := p11) (o := 1) (cs := [.int .i64 x0.Id, .slice none 0 0]) (cs' := [.int .i64 x0.Id, .slice A13 (laws_toIntS_m x0.Values).length c14]) (js := [iOwn (tSl tInt 3) [.slice A13 (laws_toIntS_m x0.Values).length c14] (laws_toIntS_m x0.Values), iBox p10 69 [.int .i64 0, .slice none 0 0], iBox p9 63 [.int .i64 x0.Id, .slice A4 x0.Values.length c5]]) (fun W hm => (hm.pick [1, 0, 2, 3] (by decide))) Try.type33 rfl (Nat.le_of_ble_eq_true rfl) rfl rfl rfl rfl (Wd_none rfl) ?_
  refine nt' ?_
  refine sr ?_
  refine wv (fun W hm => rv_loadN (cs := [.int .i64 x0.Id, .slice A13 (laws_toIntS_m x0.Values).length c14]) Try.underlying69 Try.type69 rfl rfl (hm.boxCells (n := 0) rfl)) ?_
  refine WM_storeBox (p := p10) (o := 0) (cs := [.int .i64 0, .slice none 0 0]) (cs' := [.int .i64 x0.Id, .slice A13 (laws_toIntS_m x0.Values).length c14]) (js := [iBox p11 69 [.int .i64 x0.Id, .slice A13 (laws_toIntS_m x0.Values).length c14], iOwn (tSl tInt 3) [.slice A13 (laws_toIntS_m x0.Values).length c14] (laws_toIntS_m x0.Values), iBox p9 63 [.int .i64 x0.Id, .slice A4 x0.Values.length c5]]) (fun W hm => (hm.pick [2, 0, 1, 3] (by decide))) Try.type69 rfl (Nat.le_of_ble_eq_true rfl) rfl rfl rfl rfl (Wd_none rfl) ?_
  refine nt' ?_
  refine CM_ret ?_
  refine QM_r1 rfl (RR_cell (n := 0) rfl rfl Try.underlying69 Try.type69 rfl) (fun W hm => ⟨[.int .i64 x0.Id, .slice A13 (laws_toIntS_m x0.Values).length c14], ?_, ?_⟩)
  · first | rw [(show laws_toRow_m x0 = (⟨x0.Id, (laws_toIntS_m x0.Values)⟩ : DRow) from by unfold laws_toRow_m; exact rfl)] | rfl
  · rw [(show laws_toRow_m x0 = (⟨x0.Id, (laws_toIntS_m x0.Values)⟩ : DRow) from by unfold laws_toRow_m; exact rfl)]; exact Mem.join (is := [iOwn (tSl tInt 3) [.slice A13 (laws_toIntS_m x0.Values).length c14] (laws_toIntS_m x0.Values)]) (js := []) (fun _ _ hs => tyRow_join (x := (⟨x0.Id, (laws_toIntS_m x0.Values)⟩ : DRow)) hs) (hm.pick [2] (by decide))

def laws_toAnnotated_m (x0 : DAnnotated) : DAnnotated :=
  (⟨(laws_toRow_m x0.Row), (laws_toIntS_m x0.Set)⟩ : DAnnotated)
set_option maxRecDepth 100000 in
theorem cb59 : Cb Try.prog 59 := ⟨Try.f59, _, Try.func59, rfl, by decide⟩
set_option maxRecDepth 10000 in
set_option maxHeartbeats 4000000 in
theorem laws_toAnnotated_c (w : World) (z0 : List Value) (x0 : DAnnotated) (r_0 : tyLAnnotated.rd w w.heap.size z0 x0) (s_0 : smAnnotated 68719476736 x0) :
    Calls Try.prog 59 #[.agg z0.toArray] w fun e w' => ∃ v : List Value, e = .returned (.agg v.toArray) ∧ Mem w.heap.size w [iOwn tyAnnotated v (laws_toAnnotated_m x0)] w' := by
  obtain ⟨v1, v3, rfl, r2, r4⟩ := tyLAnnotated_rd r_0
  have r9 := r2
  obtain ⟨m5, A6, c7, rfl, q8⟩ := r2
  have r14 := r4
  obtain ⟨m10, A11, c12, rfl, q13⟩ := r4
  have l15 : x0.Row.Values.length ≤ 68719476736 := s_0.1
  have l16 : x0.Set.length ≤ 68719476736 := s_0.2
  refine call_enterM (L := [(0, .agg #[.int .i64 x0.Row.Id, .slice A6 x0.Row.Values.length c7, .slice A11 x0.Set.length c12])]) (N := 13) Try.func59 rfl rfl (Nat.le_of_ble_eq_true rfl) (argsL_cons rfl argsL_nil) ?_
  refine sr ?_
  refine WM_box rfl (Wd_none rfl) (by decide) (fun p17 => ?_)
  refine WM_alloc Try.type91 rfl (Wd_none rfl) (by decide) (fun p18 => ?_)
  refine nt' ?_
  refine sr ?_
  refine WM_alloc Try.type91 rfl (Wd_none rfl) (by decide) (fun p19 => ?_)
  refine nt' ?_
  refine sr ?_
  refine wv (fun W hm => rv_field Try.underlying88 rfl Try.type63 (by decide) rfl rfl) ?_
  refine wv (fun W hm => rv_loadN (cs := [.int .i64 x0.Row.Id, .slice A6 x0.Row.Values.length c7]) Try.underlying63 Try.type63 rfl rfl (hm.boxPart (n := 2) rfl rfl)) ?_
  refine WM_call (χ := List Value) (val := fun x => .agg x.toArray) (js := fun x => [iOwn tyRow x (laws_toRow_m x0.Row)]) (cl_fn cb83 rfl) (fun W hm => laws_toRow_c W _ x0.Row (tyLRow_mk (x := x0.Row) (hm.rdS0 r9)) s_0.1) (Wd_none rfl) (by decide) (fun z20 => ?_)
  refine WM_split (γ := Value) (js := fun g => [iOwn (tSl tInt 3) [g] ((laws_toRow_m x0.Row).Values)]) (C := fun g => z20 = [.int .i64 ((laws_toRow_m x0.Row).Id), g]) (fun _ _ h => tyRow_split h) ?_
  rintro v21 rfl
  refine WM_form (n := 0) rfl ?_
  rintro A22 c23 rfl m24
  refine wv (fun W hm => rv_field Try.underlying91 rfl Try.type69 (by decide) rfl rfl) ?_
  refine WM_storeBox (p := p19) (o := 0) (cs := [.int .i64 0, .slice none 0 0, .slice none 0 0]) (cs' := [.int .i64 ((laws_toRow_m x0.Row).Id), .slice A22 ((laws_toRow_m x0.Row).Values).length c23, .slice none 0 0]) (js := [iOwn (tSl tInt 3) [.slice A22 ((laws_toRow_m x0.Row).Values).length c23] ((laws_toRow_m x0.Row).Values), iBox p18 91 [.int .i64 0, .slice none 0 0, .slice none 0 0], iBox p17 88 [.int .i64 x0.Row.Id, .slice A6 x0.Row.Values.length c7, .slice A11 x0.Set.length c12]]) (fun W hm => (hm.pick [1, 0, 2, 3] (by decide))) Try.type69 rfl (Nat.le_of_ble_eq_true rfl) rfl rfl rfl rfl (Wd_none rfl) ?_
  refine nt' ?_
  refine sr ?_
  refine wv (fun W hm => rv_field Try.underlying88 rfl Try.type33 (by decide) rfl rfl) ?_
  refine wv (fun W hm => rv_load Try.underlying33 rfl rfl (hm.boxCell (n := 3) (o := 2) rfl rfl)) ?_
  refine WM_call (χ := Value) (val := fun x => x) (js := fun x => [iOwn (tSl tInt 3) [x] (laws_toIntS_m x0.Set)]) (cl_fn cb21 rfl) (fun W hm => laws_toIntS_c W _ x0.Set (hm.rdS0 r14) s_0.2) (Wd_none rfl) (by decide) (fun z26 => ?_)
  refine WM_form (n := 0) rfl ?_
  rintro A27 c28 rfl m29
  refine wv (fun W hm => rv_field Try.underlying91 rfl Try.type33 (by decide) rfl rfl) ?_
  refine WM_storeBox (p := p19) (o := 2) (cs := [.int .i64 ((laws_toRow_m x0.Row).Id), .slice A22 ((laws_toRow_m x0.Row).Values).length c23, .slice none 0 0]) (cs' := [.int .i64 ((laws_toRow_m x0.Row).Id), .slice A22 ((laws_toRow_m x0.Row).Values).length c23, .slice A27 (laws_toIntS_m x0.Set).length c28]) (js := [iOwn (tSl tInt 3) [.slice A27 (laws_toIntS_m x0.Set).length c28] (laws_toIntS_m x0.Set), iOwn (tSl tInt 3) [.slice A22 ((laws_toRow_m x0.Row).Values).length c23] ((laws_toRow_m x0.Row).Values), iBox p18 91 [.int .i64 0, .slice none 0 0, .slice none 0 0], iBox p17 88 [.int .i64 x0.Row.Id, .slice A6 x0.Row.Values.length c7, .slice A11 x0.Set.length c12]]) (fun W hm => (hm.pick [1, 0, 2, 3, 4] (by decide))) Try.type33 rfl (Nat.le_of_ble_eq_true rfl) rfl rfl rfl rfl (Wd_none rfl) ?_
  refine nt' ?_
  refine sr ?_
  refine wv (fun W hm => rv_loadN (cs := [.int .i64 ((laws_toRow_m x0.Row).Id), .slice A22 ((laws_toRow_m x0.Row).Values).length c23, .slice A27 (laws_toIntS_m x0.Set).length c28]) Try.underlying91 Try.type91 rfl rfl (hm.boxCells (n := 0) rfl)) ?_
  refine WM_storeBox (p := p18) (o := 0) (cs := [.int .i64 0, .slice none 0 0, .slice none 0 0]) (cs' := [.int .i64 ((laws_toRow_m x0.Row).Id), .slice A22 ((laws_toRow_m x0.Row).Values).length c23, .slice A27 (laws_toIntS_m x0.Set).length c28]) (js := [iBox p19 91 [.int .i64 ((laws_toRow_m x0.Row).Id), .slice A22 ((laws_toRow_m x0.Row).Values).length c23, .slice A27 (laws_toIntS_m x0.Set).length c28], iOwn (tSl tInt 3) [.slice A27 (laws_toIntS_m x0.Set).length c28] (laws_toIntS_m x0.Set), iOwn (tSl tInt 3) [.slice A22 ((laws_toRow_m x0.Row).Values).length c23] ((laws_toRow_m x0.Row).Values), iBox p17 88 [.int .i64 x0.Row.Id, .slice A6 x0.Row.Values.length c7, .slice A11 x0.Set.length c12]]) (fun W hm => (hm.pick [3, 0, 1, 2, 4] (by decide))) Try.type91 rfl (Nat.le_of_ble_eq_true rfl) rfl rfl rfl rfl (Wd_none rfl) ?_
  refine nt' ?_
  refine CM_ret ?_
  refine QM_r1 rfl (RR_cell (n := 0) rfl rfl Try.underlying91 Try.type91 rfl) (fun W hm => ⟨[.int .i64 ((laws_toRow_m x0.Row).Id), .slice A22 ((laws_toRow_m x0.Row).Values).length c23, .slice A27 (laws_toIntS_m x0.Set).length c28], ?_, ?_⟩)
  · first | rw [(show laws_toAnnotated_m x0 = (⟨(laws_toRow_m x0.Row), (laws_toIntS_m x0.Set)⟩ : DAnnotated) from by unfold laws_toAnnotated_m; exact rfl)] | rfl
  · rw [(show laws_toAnnotated_m x0 = (⟨(laws_toRow_m x0.Row), (laws_toIntS_m x0.Set)⟩ : DAnnotated) from by unfold laws_toAnnotated_m; exact rfl)]; exact Mem.join (is := [iOwn (tSl tInt 3) [.slice A22 ((laws_toRow_m x0.Row).Values).length c23] ((laws_toRow_m x0.Row).Values), iOwn (tSl tInt 3) [.slice A27 (laws_toIntS_m x0.Set).length c28] (laws_toIntS_m x0.Set)]) (js := []) (fun _ _ hs => tyAnnotated_join (x := (⟨(laws_toRow_m x0.Row), (laws_toIntS_m x0.Set)⟩ : DAnnotated)) hs) (hm.pick [3, 2] (by decide))

def laws_toAnnotatedS_b1 (x0 : (List DAnnotated)) (k9 : Nat) (d10 : (List DAnnotated)) : (List DAnnotated) ⊕ ((List DAnnotated)) :=
  Sum.inr (d10.set k9 (laws_toAnnotated_m (gt x0 k9)))
def laws_toAnnotatedS_m (x0 : (List DAnnotated)) : (List DAnnotated) :=
  Sum.elim id (fun (s : (List DAnnotated)) => s) (rng (R := (List DAnnotated)) (fun k (s : (List DAnnotated)) => laws_toAnnotatedS_b1 x0 k s) (x0.length - 0) 0 (List.replicate x0.length (⟨(⟨(0 : Int), []⟩ : DRow), []⟩ : DAnnotated)))
set_option maxRecDepth 100000 in
theorem cb13 : Cb Try.prog 13 := ⟨Try.f13, _, Try.func13, rfl, by decide⟩
set_option maxRecDepth 10000 in
set_option maxHeartbeats 4000000 in
theorem laws_toAnnotatedS_c (w : World) (z0 : Value) (x0 : (List DAnnotated)) (r_0 : rdS tyLAnnotated w w.heap.size z0 x0) (s_0 : (x0.length ≤ 68719476736 ∧ ∀ y ∈ x0, smAnnotated 68719476736 y)) :
    Calls Try.prog 13 #[z0] w fun e w' => ∃ v : Value, e = .returned (v) ∧ Mem w.heap.size w [iOwn (tSl tyAnnotated 91) [v] (laws_toAnnotatedS_m x0)] w' := by
  have r5 := r_0
  obtain ⟨m1, A2, c3, rfl, q4⟩ := r_0
  have l6 : x0.length ≤ 68719476736 := s_0.1
  refine call_enterM (L := [(0, .slice A2 x0.length c3)]) (N := 23) Try.func13 rfl rfl (Nat.le_of_ble_eq_true rfl) (argsL_cons rfl argsL_nil) ?_
  refine sr ?_
  refine wa ?_
  refine nt' ?_
  refine sr ?_
  refine wm ?_
  refine wv (fun W hm => rv_len Try.underlying22 rfl) ?_
  refine WM_make (E := tyAnnotated) (n := x0.length) (x0 := (⟨(⟨(0 : Int), []⟩ : DRow), []⟩ : DAnnotated)) Try.underlying26 Try.type91 rfl rfl rfl (fun _ => ⟨[], [], _, _, rfl, rfl, ⟨[], [], _, _, rfl, rfl, tInt_own, own_nil⟩, own_nil⟩) rfl rfl (show x0.length * 56 ≤ 281474976710656 from by omega) (by omega) (Wd_none rfl) (by decide) (fun p7 => ?_)
  refine wa ?_
  refine nt' ?_
  refine CM_seq ?_
  refine sr ?_
  refine wa ?_
  refine nt' ?_
  refine CM_block ?_
  refine CM_loop (σ := Nat × ((List DAnnotated)) × (Unit)) (fun s => [(0, .slice A2 x0.length c3), (3, .slice (some ⟨p7, 0, none⟩) x0.length x0.length), (4, .int .i64 ((s.1 : Nat) : Int))]) (fun s => [iOwn (tSl tyAnnotated 91) [.slice (some ⟨p7, 0, none⟩) x0.length x0.length] s.2.1]) (fun s => s.1 ≤ x0.length ∧ rng (R := (List DAnnotated)) (fun k (s : (List DAnnotated)) => laws_toAnnotatedS_b1 x0 k s) (x0.length - s.1) s.1 s.2.1 = rng (R := (List DAnnotated)) (fun k (s : (List DAnnotated)) => laws_toAnnotatedS_b1 x0 k s) (x0.length - 0) 0 (List.replicate x0.length (⟨(⟨(0 : Int), []⟩ : DRow), []⟩ : DAnnotated))) (fun s => x0.length - s.1) (0, (List.replicate x0.length (⟨(⟨(0 : Int), []⟩ : DRow), []⟩ : DAnnotated)), ()) (subL_cons rfl (subL_cons rfl (subL_cons rfl subL_nil))) (fun W hm => hm) ⟨(by omega), rfl⟩ ?_
  rintro ⟨k9, d10, ⟨⟩⟩ H13
  obtain ⟨hk11, hF12⟩ : k9 ≤ x0.length ∧ rng (R := (List DAnnotated)) (fun k (s : (List DAnnotated)) => laws_toAnnotatedS_b1 x0 k s) (x0.length - k9) k9 d10 = rng (R := (List DAnnotated)) (fun k (s : (List DAnnotated)) => laws_toAnnotatedS_b1 x0 k s) (x0.length - 0) 0 (List.replicate x0.length (⟨(⟨(0 : Int), []⟩ : DRow), []⟩ : DAnnotated)) := H13
  show CM Try.prog 23 _ _ _ _ [(0, .slice A2 x0.length c3), (3, .slice (some ⟨p7, 0, none⟩) x0.length x0.length), (4, .int .i64 ((k9 : Nat) : Int))] [iOwn (tSl tyAnnotated 91) [.slice (some ⟨p7, 0, none⟩) x0.length x0.length] d10]
  refine CM_seq ?_
  refine sr ?_
  refine wm ?_
  refine wm ?_
  refine wv (fun W hm => rv_len Try.underlying22 rfl) ?_
  refine wv (fun W hm => rv_lss rfl rfl) ?_
  refine nt' ?_
  by_cases hl14 : k9 < x0.length
  · have g15 : (decide (((k9 : Nat) : Int) < ((x0.length : Nat) : Int))) = true := decide_eq_true (by omega)
    refine CM_condT rfl g15 ?_
    refine CM_skip ?_
    refine QM_then ?_
    refine CM_seq ?_
    refine CM_block ?_
    refine CM_region ?_
    refine wm ?_
    refine wm ?_
    refine wm ?_
    refine wm ?_
    obtain ⟨a16, rfl, hb17, he18⟩ := q4 (by omega)
    refine wv (fun W hm => rv_index (sz := 3) (k := k9) Try.underlying22 Try.type88 rfl rfl rfl (by omega)) ?_
    obtain ⟨_, e24, hc19⟩ := he18 k9 _ (gt_some (show k9 < x0.length from by omega))
    obtain ⟨v20, v22, rfl, r21, r23⟩ := tyLAnnotated_rd e24
    have l25 : ((gt x0 k9).Row.Values).length ≤ 68719476736 := (s_0.2 _ (gt_mem (show k9 < x0.length from by omega))).1
    have l26 : ((gt x0 k9).Set).length ≤ 68719476736 := (s_0.2 _ (gt_mem (show k9 < x0.length from by omega))).2
    have r31 := r21
    obtain ⟨m27, A28, c29, rfl, q30⟩ := r21
    have r36 := r23
    obtain ⟨m32, A33, c34, rfl, q35⟩ := r23
    refine wv (fun W hm => rv_loadN (cs := [.int .i64 ((gt x0 k9).Row.Id), .slice A28 ((gt x0 k9).Row.Values).length c29, .slice A33 ((gt x0 k9).Set).length c34]) Try.underlying88 Try.type88 rfl rfl (hm.elCells (show (a16.add (k9 * 3)).block < w.heap.size from by rw [add_block]; exact hb17.1) hc19)) ?_
    refine WM_call (χ := List Value) (val := fun x => .agg x.toArray) (js := fun x => [iOwn tyAnnotated x (laws_toAnnotated_m (gt x0 k9))]) (cl_fn cb59 rfl) (fun W hm => laws_toAnnotated_c W _ (gt x0 k9) (tyLAnnotated_mk (x := (gt x0 k9)) (hm.rdS0 r31) (hm.rdS0 r36)) (s_0.2 _ (gt_mem (show k9 < x0.length from by omega)))) (Wd_none rfl) (by decide) (fun z37 => ?_)
    refine WM_split (γ := Value × Value) (js := fun g => [iOwn (tSl tInt 3) [g.1] ((laws_toAnnotated_m (gt x0 k9)).Row.Values), iOwn (tSl tInt 3) [g.2] ((laws_toAnnotated_m (gt x0 k9)).Set)]) (C := fun g => z37 = [.int .i64 ((laws_toAnnotated_m (gt x0 k9)).Row.Id), g.1, g.2]) (fun _ _ h => tyAnnotated_split h) ?_
    rintro ⟨v38, v39⟩ rfl
    refine WM_form (n := 0) rfl ?_
    rintro A40 c41 rfl m42
    refine WM_form (n := 1) rfl ?_
    rintro A44 c45 rfl m46
    refine wv (fun W hm => rv_index (sz := 3) (k := k9) Try.underlying26 Try.type91 rfl rfl rfl (by omega)) ?_
    refine WM_setEl (E := tyAnnotated) (e := 91) (u := .agg #[.int .i64 ((laws_toAnnotated_m (gt x0 k9)).Row.Id), .slice A40 ((laws_toAnnotated_m (gt x0 k9)).Row.Values).length c41, .slice A44 ((laws_toAnnotated_m (gt x0 k9)).Set).length c45]) (k := k9) (p := p7) (n := x0.length) (xs := d10) (eis := [iOwn (tSl tInt 3) [.slice A40 ((laws_toAnnotated_m (gt x0 k9)).Row.Values).length c41] ((laws_toAnnotated_m (gt x0 k9)).Row.Values), iOwn (tSl tInt 3) [.slice A44 ((laws_toAnnotated_m (gt x0 k9)).Set).length c45] ((laws_toAnnotated_m (gt x0 k9)).Set)]) (js := []) (yv := (laws_toAnnotated_m (gt x0 k9))) (fun W hm => (hm.pick [2, 0, 1] (by decide))) (fun _ _ hs => (tyAnnotated_join (x := (laws_toAnnotated_m (gt x0 k9))) hs)) rfl Try.type91 rfl (by omega) rfl rfl (Wd_none rfl) ?_
    refine WM_nil ?_
    refine QM_block_normal ?_
    refine QM_then ?_
    refine CM_region ?_
    refine wm ?_
    refine wv (fun W hm => rv_addN (p := k9) (q := 1) rfl rfl (by omega)) ?_
    refine wa ?_
    refine WM_nil ?_
    have hn48 := rng_next (R := (List DAnnotated)) (body := (fun k (s : (List DAnnotated)) => laws_toAnnotatedS_b1 x0 k s)) (k := k9) (s := d10) (s' := (d10.set k9 (laws_toAnnotated_m (gt x0 k9)))) (show k9 < x0.length from by omega) (show laws_toAnnotatedS_b1 x0 k9 d10 = Sum.inr (d10.set k9 (laws_toAnnotated_m (gt x0 k9))) from by unfold laws_toAnnotatedS_b1; exact rfl) hF12
    exact QM_round (k9 + 1, (d10.set k9 (laws_toAnnotated_m (gt x0 k9))), ()) (subL_cons rfl (subL_cons rfl (subL_cons rfl subL_nil))) (fun W hm => hm) ⟨(by omega), hn48⟩ (show x0.length - (k9 + 1) < x0.length - k9 from by omega)
  · have g15 : (decide (((k9 : Nat) : Int) < ((x0.length : Nat) : Int))) = false := decide_eq_false (by omega)
    refine CM_condF rfl g15 ?_
    refine CM_exit ?_
    refine QM_then_exit ?_
    refine QM_then_exit ?_
    have hE49 : rng (R := (List DAnnotated)) (fun k (s : (List DAnnotated)) => laws_toAnnotatedS_b1 x0 k s) (x0.length - 0) 0 (List.replicate x0.length (⟨(⟨(0 : Int), []⟩ : DRow), []⟩ : DAnnotated)) = Sum.inr d10 := rng_end hl14 hF12
    refine QM_block_hit ?_
    refine QM_then ?_
    refine sr ?_
    refine wm ?_
    refine wa ?_
    refine nt' ?_
    refine CM_ret ?_
    refine QM_r1 rfl (RR_tmp rfl) (fun W hm => ⟨.slice (some ⟨p7, 0, none⟩) x0.length x0.length, ?_, ?_⟩)
    · first | rw [(show laws_toAnnotatedS_m x0 = d10 from by unfold laws_toAnnotatedS_m; exact fin_inr hE49 (rfl))] | rfl
    · rw [(show laws_toAnnotatedS_m x0 = d10 from by unfold laws_toAnnotatedS_m; exact fin_inr hE49 (rfl))]; exact hm

def spec_l1In_m (x0 : Int) (x1 : Int) (x2 : Int) : Bool :=
  cond (decide (x1 ≤ x0)) (decide (x0 ≤ x2)) false
set_option maxRecDepth 100000 in
theorem cb110 : Cb Try.prog 110 := ⟨Try.f110, _, Try.func110, rfl, by decide⟩
set_option maxRecDepth 10000 in
set_option maxHeartbeats 4000000 in
theorem spec_l1In_c (w : World) (x0 : Int) (x1 : Int) (x2 : Int) :
    Calls Try.prog 110 #[.int .i64 x0, .int .i64 x1, .int .i64 x2] w fun e w' => e = .returned (.bool (spec_l1In_m x0 x1 x2)) ∧ Below w.heap.size w w' := by
  refine call_enterM (L := [(0, .int .i64 x0), (1, .int .i64 x1), (2, .int .i64 x2)]) (N := 15) Try.func110 rfl rfl (Nat.le_of_ble_eq_true rfl) (argsL_cons rfl (argsL_cons rfl (argsL_cons rfl argsL_nil))) ?_
  refine sr ?_
  refine wa ?_
  refine nt' ?_
  refine sr ?_
  refine wm ?_
  refine wm ?_
  refine wv (fun W hm => rv_geq rfl rfl) ?_
  refine wm ?_
  by_cases h1 : x1 ≤ x0
  · have g2 : (decide (x1 ≤ x0)) = true := decide_eq_true h1
    refine wg (fun W hm => rv_move rfl) g2 ?_
    refine wg (fun W hm => rv_move rfl) g2 ?_
    refine wg (fun W hm => rv_leq rfl rfl) g2 ?_
    refine wv (fun W hm => rv_pickT rfl g2 rfl) ?_
    refine wa ?_
    refine nt' ?_
    refine CM_ret ?_
    exact QM_ret1 rfl rfl (fun W hm => ⟨ret_b (show spec_l1In_m x0 x1 x2 = (decide (x0 ≤ x2)) from by unfold spec_l1In_m; exact cond_t g2 (rfl)), hm.below⟩)
  · have g2 : (decide (x1 ≤ x0)) = false := decide_eq_false h1
    refine ws g2 ?_
    refine ws g2 ?_
    refine ws g2 ?_
    refine wv (fun W hm => rv_pickF rfl g2 rfl) ?_
    refine wa ?_
    refine nt' ?_
    refine CM_ret ?_
    exact QM_ret1 rfl rfl (fun W hm => ⟨ret_b (show spec_l1In_m x0 x1 x2 = false from by unfold spec_l1In_m; exact cond_f g2 (rfl)), hm.below⟩)

theorem spec_l1In_fact {x a b : Int} (h : spec_l1In_m x a b = true) : a ≤ x ∧ x ≤ b := by
  unfold spec_l1In_m at h
  by_cases h1 : a ≤ x
  · rw [decide_eq_true h1] at h
    exact ⟨h1, of_decide_eq_true h⟩
  · rw [decide_eq_false h1] at h
    cases h
theorem spec_l1In_iff (x a b : Int) : spec_l1In_m x a b = decide (a ≤ x ∧ x ≤ b) := by
  unfold spec_l1In_m
  by_cases h1 : a ≤ x
  · by_cases h2 : x ≤ b
    · simp [h1, h2]
    · simp [h1, h2]
  · simp [h1]

def spec_l14Fine_m (x0 : Int) (x1 : Int) : Bool :=
  cond (spec_l1In_m x0 0 2) (spec_l1In_m x1 0 2) false
set_option maxRecDepth 100000 in
theorem cb80 : Cb Try.prog 80 := ⟨Try.f80, _, Try.func80, rfl, by decide⟩
set_option maxRecDepth 10000 in
set_option maxHeartbeats 4000000 in
theorem spec_l14Fine_c (w : World) (x0 : Int) (x1 : Int) :
    Calls Try.prog 80 #[.int .i64 x0, .int .i64 x1] w fun e w' => e = .returned (.bool (spec_l14Fine_m x0 x1)) ∧ Below w.heap.size w w' := by
  refine call_enterM (L := [(0, .int .i64 x0), (1, .int .i64 x1)]) (N := 11) Try.func80 rfl rfl (Nat.le_of_ble_eq_true rfl) (argsL_cons rfl (argsL_cons rfl argsL_nil)) ?_
  refine sr ?_
  refine wa ?_
  refine nt' ?_
  refine sr ?_
  refine wm ?_
  refine WM_callV (cl_fn cb110 rfl) (fun W hm => spec_l1In_c W x0 0 2) (Wd_none rfl) (by decide) ?_
  refine wm ?_
  rcases Bool.eq_false_or_eq_true (spec_l1In_m x0 0 2) with g2 | g2
  ·
    have hw := spec_l1In_fact g2
    refine wg (fun W hm => rv_move rfl) g2 ?_
    refine WM_callV (cl_fn cb110 rfl) (fun W hm => spec_l1In_c W x1 0 2) (Wd_some rfl rfl rfl (bw g2 rfl)) (by decide) ?_
    refine wv (fun W hm => rv_pickT rfl g2 rfl) ?_
    refine wa ?_
    refine nt' ?_
    refine CM_ret ?_
    exact QM_ret1 rfl rfl (fun W hm => ⟨ret_b (show spec_l14Fine_m x0 x1 = (spec_l1In_m x1 0 2) from by unfold spec_l14Fine_m; exact cond_t g2 (rfl)), hm.below⟩)
  ·
    refine ws g2 ?_
    refine ws g2 ?_
    refine wv (fun W hm => rv_pickF rfl g2 rfl) ?_
    refine wa ?_
    refine nt' ?_
    refine CM_ret ?_
    exact QM_ret1 rfl rfl (fun W hm => ⟨ret_b (show spec_l14Fine_m x0 x1 = false from by unfold spec_l14Fine_m; exact cond_f g2 (rfl)), hm.below⟩)

def spec_IsRow_b1 (x0 : DRow) (k9 : Nat) : Bool ⊕ (Unit) :=
  cond (spec_l1In_m (gt x0.Values k9) 0 99) (Sum.inr ()) (Sum.inl false)
def spec_IsRow_m (x0 : DRow) : Bool :=
  Sum.elim id (fun (s : Unit) => cond (spec_l1In_m x0.Id 0 999) (((x0.Values.length : Nat) : Int) == 3) false) (rng (R := Bool) (fun k (_ : Unit) => spec_IsRow_b1 x0 k) (x0.Values.length - 0) 0 ())
set_option maxRecDepth 100000 in
theorem cb81 : Cb Try.prog 81 := ⟨Try.f81, _, Try.func81, rfl, by decide⟩
set_option maxRecDepth 10000 in
set_option maxHeartbeats 4000000 in
theorem spec_IsRow_c (w : World) (z0 : List Value) (x0 : DRow) (r_0 : tyRow.rd w w.heap.size z0 x0) :
    Calls Try.prog 81 #[.agg z0.toArray] w fun e w' => e = .returned (.bool (spec_IsRow_m x0)) ∧ Below w.heap.size w w' := by
  obtain ⟨v1, rfl, r2⟩ := tyRow_rd r_0
  have r7 := r2
  obtain ⟨m3, A4, c5, rfl, q6⟩ := r2
  refine call_enterM (L := [(0, .agg #[.int .i64 x0.Id, .slice A4 x0.Values.length c5])]) (N := 27) Try.func81 rfl rfl (Nat.le_of_ble_eq_true rfl) (argsL_cons rfl argsL_nil) ?_
  refine sr ?_
  refine WM_box rfl (Wd_none rfl) (by decide) (fun p8 => ?_)
  refine wa ?_
  refine nt' ?_
  refine CM_seq ?_
  refine sr ?_
  refine wa ?_
  refine nt' ?_
  refine CM_block ?_
  refine CM_loop (σ := Nat × (Unit) × (Unit)) (fun s => [(1, .pointer (some (⟨p8, 0, none⟩ : Addr))), (3, .int .i64 ((s.1 : Nat) : Int))]) (fun s => [iBox p8 69 [.int .i64 x0.Id, .slice A4 x0.Values.length c5]]) (fun s => s.1 ≤ x0.Values.length ∧ rng (R := Bool) (fun k (_ : Unit) => spec_IsRow_b1 x0 k) (x0.Values.length - s.1) s.1 s.2.1 = rng (R := Bool) (fun k (_ : Unit) => spec_IsRow_b1 x0 k) (x0.Values.length - 0) 0 ()) (fun s => x0.Values.length - s.1) (0, (), ()) (subL_cons rfl (subL_cons rfl subL_nil)) (fun W hm => hm) ⟨(by omega), rfl⟩ ?_
  rintro ⟨k9, ⟨⟩, ⟨⟩⟩ H12
  obtain ⟨hk10, hF11⟩ : k9 ≤ x0.Values.length ∧ rng (R := Bool) (fun k (_ : Unit) => spec_IsRow_b1 x0 k) (x0.Values.length - k9) k9 () = rng (R := Bool) (fun k (_ : Unit) => spec_IsRow_b1 x0 k) (x0.Values.length - 0) 0 () := H12
  show CM Try.prog 27 _ _ _ _ [(1, .pointer (some (⟨p8, 0, none⟩ : Addr))), (3, .int .i64 ((k9 : Nat) : Int))] [iBox p8 69 [.int .i64 x0.Id, .slice A4 x0.Values.length c5]]
  refine CM_seq ?_
  refine sr ?_
  refine wm ?_
  refine wv (fun W hm => rv_field Try.underlying69 rfl Try.type33 (by decide) rfl rfl) ?_
  refine wv (fun W hm => rv_load Try.underlying33 rfl rfl (hm.boxCell (n := 0) (o := 1) rfl rfl)) ?_
  refine wv (fun W hm => rv_len Try.underlying33 rfl) ?_
  refine wv (fun W hm => rv_lss rfl rfl) ?_
  refine nt' ?_
  by_cases hl13 : k9 < x0.Values.length
  · have g14 : (decide (((k9 : Nat) : Int) < ((x0.Values.length : Nat) : Int))) = true := decide_eq_true (by omega)
    refine CM_condT rfl g14 ?_
    refine CM_skip ?_
    refine QM_then ?_
    refine CM_seq ?_
    refine CM_block ?_
    refine sr ?_
    refine wv (fun W hm => rv_field Try.underlying69 rfl Try.type33 (by decide) rfl rfl) ?_
    refine wv (fun W hm => rv_load Try.underlying33 rfl rfl (hm.boxCell (n := 0) (o := 1) rfl rfl)) ?_
    refine wm ?_
    obtain ⟨a15, rfl, hb16, he17⟩ := q6 (by omega)
    refine wv (fun W hm => rv_index (sz := 1) (k := k9) Try.underlying33 Try.type3 rfl rfl rfl (by omega)) ?_
    refine wv (fun W hm => rv_load Try.underlying3 rfl rfl ((hm.cell0 (show (a15.add (k9 * 1)).block < w.heap.size from by rw [add_block]; exact hb16.1)).trans (rdS_int he17 k9 (by omega)))) ?_
    refine WM_callV (cl_fn cb110 rfl) (fun W hm => spec_l1In_c W (gt x0.Values k9) 0 99) (Wd_none rfl) (by decide) ?_
    refine wv (fun W hm => rv_not rfl) ?_
    refine nt' ?_
    rcases Bool.eq_false_or_eq_true (spec_l1In_m (gt x0.Values k9) 0 99) with g19 | g19
    ·
      have hw := spec_l1In_fact g19
      refine CM_condF rfl (nt g19) ?_
      refine CM_skip ?_
      refine QM_block_normal ?_
      refine QM_then ?_
      refine CM_region ?_
      refine wm ?_
      refine wv (fun W hm => rv_addN (p := k9) (q := 1) rfl rfl (by omega)) ?_
      refine wa ?_
      refine WM_nil ?_
      have hn20 := rng_next (R := Bool) (body := (fun k (_ : Unit) => spec_IsRow_b1 x0 k)) (k := k9) (s := ()) (s' := ()) (show k9 < x0.Values.length from by omega) (show spec_IsRow_b1 x0 k9 = Sum.inr () from by unfold spec_IsRow_b1; exact cond_t g19 (rfl)) hF11
      exact QM_round (k9 + 1, (), ()) (subL_cons rfl (subL_cons rfl subL_nil)) (fun W hm => hm) ⟨(by omega), hn20⟩ (show x0.Values.length - (k9 + 1) < x0.Values.length - k9 from by omega)
    ·
      refine CM_condT rfl (nf g19) ?_
      refine sr ?_
      refine wa ?_
      refine nt' ?_
      refine CM_ret ?_
      refine QM_block_ret ?_
      refine QM_then_ret ?_
      refine QM_then_ret ?_
      refine QM_block_ret ?_
      refine QM_then_ret ?_
      exact QM_ret1 rfl rfl (fun W hm => ⟨ret_b (show spec_IsRow_m x0 = false from by unfold spec_IsRow_m; exact fin_inl (rng_ret (body := (fun k (_ : Unit) => spec_IsRow_b1 x0 k)) (k := k9) (s := ()) (show k9 < x0.Values.length from by omega) (show spec_IsRow_b1 x0 k9 = Sum.inl false from by unfold spec_IsRow_b1; exact cond_f g19 (rfl)) hF11) rfl), hm.below⟩)
  · have g14 : (decide (((k9 : Nat) : Int) < ((x0.Values.length : Nat) : Int))) = false := decide_eq_false (by omega)
    refine CM_condF rfl g14 ?_
    refine CM_exit ?_
    refine QM_then_exit ?_
    refine QM_then_exit ?_
    have hE21 : rng (R := Bool) (fun k (_ : Unit) => spec_IsRow_b1 x0 k) (x0.Values.length - 0) 0 () = Sum.inr () := rng_end hl13 hF11
    refine QM_block_hit ?_
    refine QM_then ?_
    refine sr ?_
    refine wv (fun W hm => rv_field Try.underlying69 rfl Try.type3 (by decide) rfl rfl) ?_
    refine wv (fun W hm => rv_load Try.underlying3 rfl rfl (hm.boxCell (n := 0) (o := 0) rfl rfl)) ?_
    refine WM_callV (cl_fn cb110 rfl) (fun W hm => spec_l1In_c W x0.Id 0 999) (Wd_none rfl) (by decide) ?_
    refine wm ?_
    rcases Bool.eq_false_or_eq_true (spec_l1In_m x0.Id 0 999) with g23 | g23
    ·
      have hw := spec_l1In_fact g23
      refine wg (fun W hm => rv_field Try.underlying69 rfl Try.type33 (by decide) rfl rfl) g23 ?_
      refine wg (fun W hm => rv_load Try.underlying33 rfl rfl (hm.boxCell (n := 0) (o := 1) rfl rfl)) g23 ?_
      refine wg (fun W hm => rv_len Try.underlying33 rfl) g23 ?_
      refine wg (fun W hm => rv_eql rfl rfl) g23 ?_
      refine wv (fun W hm => rv_pickT rfl g23 rfl) ?_
      refine wa ?_
      refine nt' ?_
      refine CM_ret ?_
      exact QM_ret1 rfl rfl (fun W hm => ⟨ret_b (show spec_IsRow_m x0 = (((x0.Values.length : Nat) : Int) == 3) from by unfold spec_IsRow_m; exact fin_inr hE21 (cond_t g23 (rfl))), hm.below⟩)
    ·
      refine ws g23 ?_
      refine ws g23 ?_
      refine ws g23 ?_
      refine ws g23 ?_
      refine wv (fun W hm => rv_pickF rfl g23 rfl) ?_
      refine wa ?_
      refine nt' ?_
      refine CM_ret ?_
      exact QM_ret1 rfl rfl (fun W hm => ⟨ret_b (show spec_IsRow_m x0 = false from by unfold spec_IsRow_m; exact fin_inr hE21 (cond_f g23 (rfl))), hm.below⟩)

def spec_l14Put_b2 (x0 : (List DGroup)) (x1 : Int) (x2 : Int) (k21 : Nat) (s22 : Nat) : (List DGroup) ⊕ ((Nat) ⊕ (Nat)) :=
  cond (decide (((s22 : Nat) : Int) < ((x0.length : Nat) : Int))) (cond (decide (((gt x0 s22).Query) < x1)) (Sum.inr (Sum.inr (s22 + 1))) (cond (((gt x0 s22).Query) == x1) (cond (decide (((gt x0 s22).Value) < x2)) (Sum.inr (Sum.inr (s22 + 1))) (Sum.inr (Sum.inl s22))) (Sum.inr (Sum.inl s22)))) (Sum.inr (Sum.inl s22))
def spec_l14Put_b1 (x0 : (List DGroup)) (x1 : Int) (x2 : Int) (x3 : Int) (k6 : Nat) : (List DGroup) ⊕ (Unit) :=
  cond (((gt x0 k6).Query) == x1) (cond (((gt x0 k6).Value) == x2) (Sum.inl (x0.set k6 (⟨(gt x0 k6).Query, (gt x0 k6).Value, (IntKind.i64.wrap (((gt x0 k6).Count) + 1)), (IntKind.i64.wrap (((gt x0 k6).Sum) + x3))⟩ : DGroup))) (Sum.inr ())) (Sum.inr ())
def spec_l14Put_m (x0 : (List DGroup)) (x1 : Int) (x2 : Int) (x3 : Int) : (List DGroup) :=
  Sum.elim id (fun (s1_ : Unit) => Sum.elim id (fun (s : Nat) => (((List.take s x0) ++ [(⟨x1, x2, 1, x3⟩ : DGroup)]) ++ (List.drop s x0))) (rngb (R := (List DGroup)) (fun k (s : Nat) => spec_l14Put_b2 x0 x1 x2 k s) (x0.length + 1 - 0) 0 0)) (rng (R := (List DGroup)) (fun k (_ : Unit) => spec_l14Put_b1 x0 x1 x2 x3 k) (x0.length - 0) 0 ())
set_option maxRecDepth 100000 in
theorem cb82 : Cb Try.prog 82 := ⟨Try.f82, _, Try.func82, rfl, by decide⟩
set_option maxRecDepth 10000 in
set_option maxHeartbeats 4000000 in
theorem spec_l14Put_c (B : Nat) (w0 : World) (is : List It) (w : World) (z0 : Value) (x0 : (List DGroup)) (x1 : Int) (x2 : Int) (x3 : Int) (s_0 : x0.length ≤ 68719476736) (hm : Mem B w0 (iOwn (tSl tyGroup 117) [z0] x0 :: is) w) :
    Calls Try.prog 82 #[z0, .int .i64 x1, .int .i64 x2, .int .i64 x3] w fun e w' => ∃ v : Value, e = .returned (v) ∧ Mem B w0 (iOwn (tSl tyGroup 117) [v] (spec_l14Put_m x0 x1 x2 x3) :: is) w' := by
  refine call_enterW (L := [(0, z0), (1, .int .i64 x1), (2, .int .i64 x2), (3, .int .i64 x3)]) (N := 106) Try.func82 rfl rfl (Nat.le_of_ble_eq_true rfl) (argsL_cons rfl (argsL_cons rfl (argsL_cons rfl (argsL_cons rfl argsL_nil)))) hm ?_
  refine CM_form (n := 0) rfl ?_
  rintro A1 c2 rfl m3
  have l5 : x0.length ≤ 68719476736 := s_0
  refine sr ?_
  refine wa ?_
  refine nt' ?_
  refine CM_seq ?_
  refine sr ?_
  refine wa ?_
  refine nt' ?_
  refine CM_block ?_
  refine CM_loop (σ := Nat × (Unit) × (Unit)) (fun s => [(0, .slice A1 x0.length c2), (1, .int .i64 x1), (2, .int .i64 x2), (3, .int .i64 x3), (9, .int .i64 ((s.1 : Nat) : Int))]) (fun s => (iOwn (tSl tyGroup 117) [.slice A1 x0.length c2] x0 :: is)) (fun s => s.1 ≤ x0.length ∧ rng (R := (List DGroup)) (fun k (_ : Unit) => spec_l14Put_b1 x0 x1 x2 x3 k) (x0.length - s.1) s.1 s.2.1 = rng (R := (List DGroup)) (fun k (_ : Unit) => spec_l14Put_b1 x0 x1 x2 x3 k) (x0.length - 0) 0 ()) (fun s => x0.length - s.1) (0, (), ()) (subL_cons rfl (subL_cons rfl (subL_cons rfl (subL_cons rfl (subL_cons rfl subL_nil))))) (fun W hm => hm) ⟨(by omega), rfl⟩ ?_
  rintro ⟨k6, ⟨⟩, ⟨⟩⟩ H9
  obtain ⟨hk7, hF8⟩ : k6 ≤ x0.length ∧ rng (R := (List DGroup)) (fun k (_ : Unit) => spec_l14Put_b1 x0 x1 x2 x3 k) (x0.length - k6) k6 () = rng (R := (List DGroup)) (fun k (_ : Unit) => spec_l14Put_b1 x0 x1 x2 x3 k) (x0.length - 0) 0 () := H9
  show CM Try.prog 106 _ _ _ _ [(0, .slice A1 x0.length c2), (1, .int .i64 x1), (2, .int .i64 x2), (3, .int .i64 x3), (9, .int .i64 ((k6 : Nat) : Int))] (iOwn (tSl tyGroup 117) [.slice A1 x0.length c2] x0 :: is)
  refine CM_seq ?_
  refine sr ?_
  refine wm ?_
  refine wm ?_
  refine wv (fun W hm => rv_len Try.underlying54 rfl) ?_
  refine wv (fun W hm => rv_lss rfl rfl) ?_
  refine nt' ?_
  by_cases hl10 : k6 < x0.length
  · have g11 : (decide (((k6 : Nat) : Int) < ((x0.length : Nat) : Int))) = true := decide_eq_true (by omega)
    refine CM_condT rfl g11 ?_
    refine CM_skip ?_
    refine QM_then ?_
    refine CM_seq ?_
    refine CM_block ?_
    refine sr ?_
    refine wm ?_
    refine wm ?_
    refine WM_formO (n := 0) rfl (by omega) ?_
    rintro g12 rfl
    refine wv (fun W hm => rv_index (sz := 4) (k := k6) Try.underlying54 Try.type117 rfl rfl rfl (by omega)) ?_
    refine wv (fun W hm => rv_field Try.underlying117 rfl Try.type3 (by decide) rfl rfl) ?_
    refine WM_focus (E := tyGroup) (e := 117) (A := (some ⟨g12, 0, none⟩)) (n := x0.length) (c := c2) (xs := x0) (k := k6) (js := (is)) (by omega) (fun W hm => (hm.front (n := 0) rfl)) (fun ck13 => ?_)
    refine WM_split (γ := Unit) (js := fun _ => []) (C := fun _ => ck13 = [.int .i64 ((gt x0 k6).Query), .int .i64 ((gt x0 k6).Value), .int .i64 ((gt x0 k6).Count), .int .i64 ((gt x0 k6).Sum)]) (fun _ _ h => tyGroup_split h) ?_
    rintro ⟨⟩ rfl
    refine wv (fun W hm => rv_load Try.underlying3 rfl rfl (hm.focCells (i := 0) rfl rfl 0 _ rfl)) ?_
    refine wm ?_
    refine wv (fun W hm => rv_eql rfl rfl) ?_
    refine wm ?_
    by_cases h14 : ((gt x0 k6).Query) = x1
    · have g15 : (((gt x0 k6).Query) == x1) = true := beq_iff_eq.2 h14
      refine wg (fun W hm => rv_move rfl) g15 ?_
      refine wg (fun W hm => rv_move rfl) g15 ?_
      refine wg (fun W hm => rv_index (sz := 4) (k := k6) Try.underlying54 Try.type117 rfl rfl rfl (by omega)) g15 ?_
      refine wg (fun W hm => rv_field Try.underlying117 rfl Try.type3 (by decide) rfl rfl) g15 ?_
      refine wg (fun W hm => rv_load Try.underlying3 rfl rfl (hm.focCells (i := 0) rfl rfl 1 _ rfl)) g15 ?_
      refine wg (fun W hm => rv_move rfl) g15 ?_
      refine wg (fun W hm => rv_eql rfl rfl) g15 ?_
      refine wv (fun W hm => rv_pickT rfl g15 rfl) ?_
      refine nt' ?_
      by_cases h16 : ((gt x0 k6).Value) = x2
      · have g17 : (((gt x0 k6).Value) == x2) = true := beq_iff_eq.2 h16
        refine CM_condT rfl g17 ?_
        refine sr ?_
        refine wm ?_
        refine wm ?_
        refine wm ?_
        refine wm ?_
        refine wv (fun W hm => rv_index (sz := 4) (k := k6) Try.underlying54 Try.type117 rfl rfl rfl (by omega)) ?_
        refine wv (fun W hm => rv_field Try.underlying117 rfl Try.type3 (by decide) rfl rfl) ?_
        refine wv (fun W hm => rv_load Try.underlying3 rfl rfl (hm.focCells (i := 0) rfl rfl 2 _ rfl)) ?_
        refine wv (fun W hm => rv_add rfl rfl) ?_
        refine wv (fun W hm => rv_index (sz := 4) (k := k6) Try.underlying54 Try.type117 rfl rfl rfl (by omega)) ?_
        refine wv (fun W hm => rv_field Try.underlying117 rfl Try.type3 (by decide) rfl rfl) ?_
        refine WM_storeFoc (E := tyGroup) (e := 117) (g := g12) (n := x0.length) (c := c2) (k := k6) (s := 4) (o := 2) (xs := x0) (ck := [.int .i64 ((gt x0 k6).Query), .int .i64 ((gt x0 k6).Value), .int .i64 ((gt x0 k6).Count), .int .i64 ((gt x0 k6).Sum)]) (ck' := [.int .i64 ((gt x0 k6).Query), .int .i64 ((gt x0 k6).Value), .int .i64 (IntKind.i64.wrap (((gt x0 k6).Count) + 1)), .int .i64 ((gt x0 k6).Sum)]) (js := (is)) (fun W hm => (hm.front (n := 0) rfl)) rfl rfl Try.type3 rfl (Nat.le_of_ble_eq_true rfl) rfl rfl rfl rfl (Wd_none rfl) ?_
        refine nt' ?_
        refine sr ?_
        refine wm ?_
        refine wm ?_
        refine wm ?_
        refine wm ?_
        refine wv (fun W hm => rv_index (sz := 4) (k := k6) Try.underlying54 Try.type117 rfl rfl rfl (by omega)) ?_
        refine wv (fun W hm => rv_field Try.underlying117 rfl Try.type3 (by decide) rfl rfl) ?_
        refine wv (fun W hm => rv_load Try.underlying3 rfl rfl (hm.focCells (i := 0) rfl rfl 3 _ rfl)) ?_
        refine wm ?_
        refine wv (fun W hm => rv_add rfl rfl) ?_
        refine wv (fun W hm => rv_index (sz := 4) (k := k6) Try.underlying54 Try.type117 rfl rfl rfl (by omega)) ?_
        refine wv (fun W hm => rv_field Try.underlying117 rfl Try.type3 (by decide) rfl rfl) ?_
        refine WM_storeFoc (E := tyGroup) (e := 117) (g := g12) (n := x0.length) (c := c2) (k := k6) (s := 4) (o := 3) (xs := x0) (ck := [.int .i64 ((gt x0 k6).Query), .int .i64 ((gt x0 k6).Value), .int .i64 (IntKind.i64.wrap (((gt x0 k6).Count) + 1)), .int .i64 ((gt x0 k6).Sum)]) (ck' := [.int .i64 ((gt x0 k6).Query), .int .i64 ((gt x0 k6).Value), .int .i64 (IntKind.i64.wrap (((gt x0 k6).Count) + 1)), .int .i64 (IntKind.i64.wrap (((gt x0 k6).Sum) + x3))]) (js := (is)) (fun W hm => (hm.front (n := 0) rfl)) rfl rfl Try.type3 rfl (Nat.le_of_ble_eq_true rfl) rfl rfl rfl rfl (Wd_none rfl) ?_
        refine nt' ?_
        refine sr ?_
        refine wm ?_
        refine wa ?_
        refine nt' ?_
        refine CM_ret ?_
        refine QM_block_ret ?_
        refine QM_then_ret ?_
        refine QM_then_ret ?_
        refine QM_block_ret ?_
        refine QM_then_ret ?_
        refine QM_items (fun W hm => Mem.unfocus (Mem.join (is := []) (js := (iFoc tyGroup 117 (some ⟨g12, 0, none⟩) x0.length c2 x0 k6 [.int .i64 ((gt x0 k6).Query), .int .i64 ((gt x0 k6).Value), .int .i64 (IntKind.i64.wrap (((gt x0 k6).Count) + 1)), .int .i64 (IntKind.i64.wrap (((gt x0 k6).Sum) + x3))] :: (is))) (fun _ _ hs => tyGroup_join (x := (⟨(gt x0 k6).Query, (gt x0 k6).Value, (IntKind.i64.wrap (((gt x0 k6).Count) + 1)), (IntKind.i64.wrap (((gt x0 k6).Sum) + x3))⟩ : DGroup)) hs) (hm.front (n := 0) rfl))) ?_
        refine QM_r1 rfl (RR_tmp rfl) (fun W hm => ⟨.slice (some ⟨g12, 0, none⟩) x0.length c2, ?_, ?_⟩)
        · first | rw [(show spec_l14Put_m x0 x1 x2 x3 = (x0.set k6 (⟨(gt x0 k6).Query, (gt x0 k6).Value, (IntKind.i64.wrap (((gt x0 k6).Count) + 1)), (IntKind.i64.wrap (((gt x0 k6).Sum) + x3))⟩ : DGroup)) from by unfold spec_l14Put_m; exact fin_inl (rng_ret (body := (fun k (_ : Unit) => spec_l14Put_b1 x0 x1 x2 x3 k)) (k := k6) (s := ()) (show k6 < x0.length from by omega) (show spec_l14Put_b1 x0 x1 x2 x3 k6 = Sum.inl (x0.set k6 (⟨(gt x0 k6).Query, (gt x0 k6).Value, (IntKind.i64.wrap (((gt x0 k6).Count) + 1)), (IntKind.i64.wrap (((gt x0 k6).Sum) + x3))⟩ : DGroup)) from by unfold spec_l14Put_b1; exact cond_t g15 (cond_t g17 (rfl))) hF8) rfl)] | rfl
        · rw [(show spec_l14Put_m x0 x1 x2 x3 = (x0.set k6 (⟨(gt x0 k6).Query, (gt x0 k6).Value, (IntKind.i64.wrap (((gt x0 k6).Count) + 1)), (IntKind.i64.wrap (((gt x0 k6).Sum) + x3))⟩ : DGroup)) from by unfold spec_l14Put_m; exact fin_inl (rng_ret (body := (fun k (_ : Unit) => spec_l14Put_b1 x0 x1 x2 x3 k)) (k := k6) (s := ()) (show k6 < x0.length from by omega) (show spec_l14Put_b1 x0 x1 x2 x3 k6 = Sum.inl (x0.set k6 (⟨(gt x0 k6).Query, (gt x0 k6).Value, (IntKind.i64.wrap (((gt x0 k6).Count) + 1)), (IntKind.i64.wrap (((gt x0 k6).Sum) + x3))⟩ : DGroup)) from by unfold spec_l14Put_b1; exact cond_t g15 (cond_t g17 (rfl))) hF8) rfl)]; exact hm
      · have g17 : (((gt x0 k6).Value) == x2) = false := beq_eq_false_iff_ne.2 h16
        refine CM_condF rfl g17 ?_
        refine CM_skip ?_
        refine QM_block_normal ?_
        refine QM_then ?_
        refine CM_region ?_
        refine wm ?_
        refine wv (fun W hm => rv_addN (p := k6) (q := 1) rfl rfl (by omega)) ?_
        refine wa ?_
        refine WM_nil ?_
        refine QM_items (fun W hm => Mem.unfocus0 (Mem.join (is := []) (js := (iFoc tyGroup 117 (some ⟨g12, 0, none⟩) x0.length c2 x0 k6 [.int .i64 ((gt x0 k6).Query), .int .i64 ((gt x0 k6).Value), .int .i64 ((gt x0 k6).Count), .int .i64 ((gt x0 k6).Sum)] :: (is))) (fun _ _ hs => tyGroup_join (x := (gt x0 k6)) hs) (hm.front (n := 0) rfl))) ?_
        have hn18 := rng_next (R := (List DGroup)) (body := (fun k (_ : Unit) => spec_l14Put_b1 x0 x1 x2 x3 k)) (k := k6) (s := ()) (s' := ()) (show k6 < x0.length from by omega) (show spec_l14Put_b1 x0 x1 x2 x3 k6 = Sum.inr () from by unfold spec_l14Put_b1; exact cond_t g15 (cond_f g17 (rfl))) hF8
        exact QM_round (k6 + 1, (), ()) (subL_cons rfl (subL_cons rfl (subL_cons rfl (subL_cons rfl (subL_cons rfl subL_nil))))) (fun W hm => hm) ⟨(by omega), hn18⟩ (show x0.length - (k6 + 1) < x0.length - k6 from by omega)
    · have g15 : (((gt x0 k6).Query) == x1) = false := beq_eq_false_iff_ne.2 h14
      refine ws g15 ?_
      refine ws g15 ?_
      refine ws g15 ?_
      refine ws g15 ?_
      refine ws g15 ?_
      refine ws g15 ?_
      refine ws g15 ?_
      refine wv (fun W hm => rv_pickF rfl g15 rfl) ?_
      refine nt' ?_
      refine CM_condF rfl rfl ?_
      refine CM_skip ?_
      refine QM_block_normal ?_
      refine QM_then ?_
      refine CM_region ?_
      refine wm ?_
      refine wv (fun W hm => rv_addN (p := k6) (q := 1) rfl rfl (by omega)) ?_
      refine wa ?_
      refine WM_nil ?_
      refine QM_items (fun W hm => Mem.unfocus0 (Mem.join (is := []) (js := (iFoc tyGroup 117 (some ⟨g12, 0, none⟩) x0.length c2 x0 k6 [.int .i64 ((gt x0 k6).Query), .int .i64 ((gt x0 k6).Value), .int .i64 ((gt x0 k6).Count), .int .i64 ((gt x0 k6).Sum)] :: (is))) (fun _ _ hs => tyGroup_join (x := (gt x0 k6)) hs) (hm.front (n := 0) rfl))) ?_
      have hn19 := rng_next (R := (List DGroup)) (body := (fun k (_ : Unit) => spec_l14Put_b1 x0 x1 x2 x3 k)) (k := k6) (s := ()) (s' := ()) (show k6 < x0.length from by omega) (show spec_l14Put_b1 x0 x1 x2 x3 k6 = Sum.inr () from by unfold spec_l14Put_b1; exact cond_f g15 (rfl)) hF8
      exact QM_round (k6 + 1, (), ()) (subL_cons rfl (subL_cons rfl (subL_cons rfl (subL_cons rfl (subL_cons rfl subL_nil))))) (fun W hm => hm) ⟨(by omega), hn19⟩ (show x0.length - (k6 + 1) < x0.length - k6 from by omega)
  · have g11 : (decide (((k6 : Nat) : Int) < ((x0.length : Nat) : Int))) = false := decide_eq_false (by omega)
    refine CM_condF rfl g11 ?_
    refine CM_exit ?_
    refine QM_then_exit ?_
    refine QM_then_exit ?_
    have hE20 : rng (R := (List DGroup)) (fun k (_ : Unit) => spec_l14Put_b1 x0 x1 x2 x3 k) (x0.length - 0) 0 () = Sum.inr () := rng_end hl10 hF8
    refine QM_block_hit ?_
    refine QM_then ?_
    refine sr ?_
    refine wa ?_
    refine nt' ?_
    refine CM_seq ?_
    refine CM_cut (σ := (Nat) × (Unit)) (fun s => [(0, .slice A1 x0.length c2), (1, .int .i64 x1), (2, .int .i64 x2), (3, .int .i64 x3), (10, .int .i64 ((s.1 : Nat) : Int))]) (fun s => (iOwn (tSl tyGroup 117) [.slice A1 x0.length c2] x0 :: is)) (fun s => rngb (R := (List DGroup)) (fun k (s : Nat) => spec_l14Put_b2 x0 x1 x2 k s) (x0.length + 1 - 0) 0 0 = Sum.inr s.1 ∧ s.1 ≤ x0.length) ?_ ?_
    ·
      refine CM_block ?_
      refine CM_loop (σ := Nat × (Nat) × (Unit)) (fun s => [(0, .slice A1 x0.length c2), (1, .int .i64 x1), (2, .int .i64 x2), (3, .int .i64 x3), (10, .int .i64 ((s.2.1 : Nat) : Int))]) (fun s => (iOwn (tSl tyGroup 117) [.slice A1 x0.length c2] x0 :: is)) (fun s => s.1 + (x0.length - s.2.1) + 1 ≤ x0.length + 1 ∧ rngb (R := (List DGroup)) (fun k (s : Nat) => spec_l14Put_b2 x0 x1 x2 k s) (x0.length + 1 - s.1) s.1 s.2.1 = rngb (R := (List DGroup)) (fun k (s : Nat) => spec_l14Put_b2 x0 x1 x2 k s) (x0.length + 1 - 0) 0 0 ∧ s.2.1 ≤ x0.length) (fun s => x0.length + 1 - s.1) (0, 0, ()) (subL_cons rfl (subL_cons rfl (subL_cons rfl (subL_cons rfl (subL_cons rfl subL_nil))))) (fun W hm => hm) ⟨(show 0 + (x0.length - 0) + 1 ≤ x0.length + 1 from by omega), rfl, (show 0 ≤ x0.length from by omega)⟩ ?_
      rintro ⟨k21, s22, ⟨⟩⟩ H25
      obtain ⟨hk23, hF24, hi26⟩ : k21 + (x0.length - s22) + 1 ≤ x0.length + 1 ∧ rngb (R := (List DGroup)) (fun k (s : Nat) => spec_l14Put_b2 x0 x1 x2 k s) (x0.length + 1 - k21) k21 s22 = rngb (R := (List DGroup)) (fun k (s : Nat) => spec_l14Put_b2 x0 x1 x2 k s) (x0.length + 1 - 0) 0 0 ∧ s22 ≤ x0.length := H25
      show CM Try.prog 106 _ _ _ _ [(0, .slice A1 x0.length c2), (1, .int .i64 x1), (2, .int .i64 x2), (3, .int .i64 x3), (10, .int .i64 ((s22 : Nat) : Int))] (iOwn (tSl tyGroup 117) [.slice A1 x0.length c2] x0 :: is)
      refine CM_seq ?_
      refine sr ?_
      refine wm ?_
      refine wm ?_
      refine wv (fun W hm => rv_len Try.underlying54 rfl) ?_
      refine wv (fun W hm => rv_lss rfl rfl) ?_
      refine wm ?_
      by_cases h27 : ((s22 : Nat) : Int) < ((x0.length : Nat) : Int)
      · have g28 : (decide (((s22 : Nat) : Int) < ((x0.length : Nat) : Int))) = true := decide_eq_true h27
        refine wg (fun W hm => rv_move rfl) g28 ?_
        refine wg (fun W hm => rv_move rfl) g28 ?_
        refine WM_formO (n := 0) rfl (by omega) ?_
        rintro g29 rfl
        refine wg (fun W hm => rv_index (sz := 4) (k := s22) Try.underlying54 Try.type117 rfl rfl rfl (by omega)) g28 ?_
        refine wg (fun W hm => rv_field Try.underlying117 rfl Try.type3 (by decide) rfl rfl) g28 ?_
        refine WM_focus (E := tyGroup) (e := 117) (A := (some ⟨g29, 0, none⟩)) (n := x0.length) (c := c2) (xs := x0) (k := s22) (js := (is)) (by omega) (fun W hm => (hm.front (n := 0) rfl)) (fun ck30 => ?_)
        refine WM_split (γ := Unit) (js := fun _ => []) (C := fun _ => ck30 = [.int .i64 ((gt x0 s22).Query), .int .i64 ((gt x0 s22).Value), .int .i64 ((gt x0 s22).Count), .int .i64 ((gt x0 s22).Sum)]) (fun _ _ h => tyGroup_split h) ?_
        rintro ⟨⟩ rfl
        refine wg (fun W hm => rv_load Try.underlying3 rfl rfl (hm.focCells (i := 0) rfl rfl 0 _ rfl)) g28 ?_
        refine wg (fun W hm => rv_move rfl) g28 ?_
        refine wg (fun W hm => rv_lss rfl rfl) g28 ?_
        refine wg (fun W hm => rv_move rfl) g28 ?_
        by_cases h31 : ((gt x0 s22).Query) < x1
        · have g32 : (decide (((gt x0 s22).Query) < x1)) = true := decide_eq_true h31
          refine ws g32 ?_
          refine ws g32 ?_
          refine ws g32 ?_
          refine ws g32 ?_
          refine ws g32 ?_
          refine ws g32 ?_
          refine ws g32 ?_
          refine ws g32 ?_
          refine wu ?_
          refine wu ?_
          refine wu ?_
          refine wu ?_
          refine wu ?_
          refine wu ?_
          refine wu ?_
          refine ws g32 ?_
          refine wg (fun W hm => rv_pickT rfl g32 rfl) g28 ?_
          refine wv (fun W hm => rv_pickT rfl g28 rfl) ?_
          refine nt' ?_
          refine CM_condT rfl rfl ?_
          refine CM_skip ?_
          refine QM_then ?_
          refine CM_block ?_
          refine CM_region ?_
          refine wm ?_
          refine wv (fun W hm => rv_addN (p := s22) (q := 1) rfl rfl (by omega)) ?_
          refine wa ?_
          refine WM_nil ?_
          refine QM_block_normal ?_
          refine QM_items (fun W hm => Mem.unfocus0 (Mem.join (is := []) (js := (iFoc tyGroup 117 (some ⟨g29, 0, none⟩) x0.length c2 x0 s22 [.int .i64 ((gt x0 s22).Query), .int .i64 ((gt x0 s22).Value), .int .i64 ((gt x0 s22).Count), .int .i64 ((gt x0 s22).Sum)] :: (is))) (fun _ _ hs => tyGroup_join (x := (gt x0 s22)) hs) (hm.front (n := 0) rfl))) ?_
          have hn33 := rngb_next (R := (List DGroup)) (body := (fun k (s : Nat) => spec_l14Put_b2 x0 x1 x2 k s)) (k := k21) (s := s22) (s' := s22 + 1) (show k21 < x0.length + 1 from by omega) (show spec_l14Put_b2 x0 x1 x2 k21 s22 = Sum.inr (Sum.inr (s22 + 1)) from by unfold spec_l14Put_b2; exact cond_t g28 (cond_t g32 (rfl))) hF24
          exact QM_round (k21 + 1, s22 + 1, ()) (subL_cons rfl (subL_cons rfl (subL_cons rfl (subL_cons rfl (subL_cons rfl subL_nil))))) (fun W hm => hm) ⟨(show (k21 + 1) + (x0.length - (s22 + 1)) + 1 ≤ x0.length + 1 from by omega), hn33, (show (s22 + 1) ≤ x0.length from by first | omega | (simp only [List.length_append, List.length_cons, List.length_nil] at *; omega))⟩ (show x0.length + 1 - (k21 + 1) < x0.length + 1 - k21 from by omega)
        · have g32 : (decide (((gt x0 s22).Query) < x1)) = false := decide_eq_false h31
          refine wg (fun W hm => rv_move rfl) g32 ?_
          refine wg (fun W hm => rv_move rfl) g32 ?_
          refine wg (fun W hm => rv_index (sz := 4) (k := s22) Try.underlying54 Try.type117 rfl rfl rfl (by omega)) g32 ?_
          refine wg (fun W hm => rv_field Try.underlying117 rfl Try.type3 (by decide) rfl rfl) g32 ?_
          refine wg (fun W hm => rv_load Try.underlying3 rfl rfl (hm.focCells (i := 0) rfl rfl 0 _ rfl)) g32 ?_
          refine wg (fun W hm => rv_move rfl) g32 ?_
          refine wg (fun W hm => rv_eql rfl rfl) g32 ?_
          refine wg (fun W hm => rv_move rfl) g32 ?_
          by_cases h34 : ((gt x0 s22).Query) = x1
          · have g35 : (((gt x0 s22).Query) == x1) = true := beq_iff_eq.2 h34
            refine wg (fun W hm => rv_move rfl) g35 ?_
            refine wg (fun W hm => rv_move rfl) g35 ?_
            refine wg (fun W hm => rv_index (sz := 4) (k := s22) Try.underlying54 Try.type117 rfl rfl rfl (by omega)) g35 ?_
            refine wg (fun W hm => rv_field Try.underlying117 rfl Try.type3 (by decide) rfl rfl) g35 ?_
            refine wg (fun W hm => rv_load Try.underlying3 rfl rfl (hm.focCells (i := 0) rfl rfl 1 _ rfl)) g35 ?_
            refine wg (fun W hm => rv_move rfl) g35 ?_
            refine wg (fun W hm => rv_lss rfl rfl) g35 ?_
            refine wg (fun W hm => rv_pickT rfl g35 rfl) g32 ?_
            refine wg (fun W hm => rv_pickF rfl g32 rfl) g28 ?_
            refine wv (fun W hm => rv_pickT rfl g28 rfl) ?_
            refine nt' ?_
            by_cases h36 : ((gt x0 s22).Value) < x2
            · have g37 : (decide (((gt x0 s22).Value) < x2)) = true := decide_eq_true h36
              refine CM_condT rfl g37 ?_
              refine CM_skip ?_
              refine QM_then ?_
              refine CM_block ?_
              refine CM_region ?_
              refine wm ?_
              refine wv (fun W hm => rv_addN (p := s22) (q := 1) rfl rfl (by omega)) ?_
              refine wa ?_
              refine WM_nil ?_
              refine QM_block_normal ?_
              refine QM_items (fun W hm => Mem.unfocus0 (Mem.join (is := []) (js := (iFoc tyGroup 117 (some ⟨g29, 0, none⟩) x0.length c2 x0 s22 [.int .i64 ((gt x0 s22).Query), .int .i64 ((gt x0 s22).Value), .int .i64 ((gt x0 s22).Count), .int .i64 ((gt x0 s22).Sum)] :: (is))) (fun _ _ hs => tyGroup_join (x := (gt x0 s22)) hs) (hm.front (n := 0) rfl))) ?_
              have hn38 := rngb_next (R := (List DGroup)) (body := (fun k (s : Nat) => spec_l14Put_b2 x0 x1 x2 k s)) (k := k21) (s := s22) (s' := s22 + 1) (show k21 < x0.length + 1 from by omega) (show spec_l14Put_b2 x0 x1 x2 k21 s22 = Sum.inr (Sum.inr (s22 + 1)) from by unfold spec_l14Put_b2; exact cond_t g28 (cond_f g32 (cond_t g35 (cond_t g37 (rfl))))) hF24
              exact QM_round (k21 + 1, s22 + 1, ()) (subL_cons rfl (subL_cons rfl (subL_cons rfl (subL_cons rfl (subL_cons rfl subL_nil))))) (fun W hm => hm) ⟨(show (k21 + 1) + (x0.length - (s22 + 1)) + 1 ≤ x0.length + 1 from by omega), hn38, (show (s22 + 1) ≤ x0.length from by first | omega | (simp only [List.length_append, List.length_cons, List.length_nil] at *; omega))⟩ (show x0.length + 1 - (k21 + 1) < x0.length + 1 - k21 from by omega)
            · have g37 : (decide (((gt x0 s22).Value) < x2)) = false := decide_eq_false h36
              refine CM_condF rfl g37 ?_
              refine CM_exit ?_
              refine QM_then_exit ?_
              refine QM_then_exit ?_
              refine QM_block_hit ?_
              refine QM_items (fun W hm => Mem.unfocus0 (Mem.join (is := []) (js := (iFoc tyGroup 117 (some ⟨g29, 0, none⟩) x0.length c2 x0 s22 [.int .i64 ((gt x0 s22).Query), .int .i64 ((gt x0 s22).Value), .int .i64 ((gt x0 s22).Count), .int .i64 ((gt x0 s22).Sum)] :: (is))) (fun _ _ hs => tyGroup_join (x := (gt x0 s22)) hs) (hm.front (n := 0) rfl))) ?_
              have hE39 := rngb_brk (R := (List DGroup)) (body := (fun k (s : Nat) => spec_l14Put_b2 x0 x1 x2 k s)) (k := k21) (s := s22) (s' := s22) (show k21 < x0.length + 1 from by omega) (show spec_l14Put_b2 x0 x1 x2 k21 s22 = Sum.inr (Sum.inl s22) from by unfold spec_l14Put_b2; exact cond_t g28 (cond_f g32 (cond_t g35 (cond_f g37 (rfl))))) hF24
              exact QM_cut_normal (s22, ()) (subL_cons rfl (subL_cons rfl (subL_cons rfl (subL_cons rfl (subL_cons rfl subL_nil))))) (fun W hm => hm) ⟨hE39, (show s22 ≤ x0.length from by first | omega | (simp only [List.length_append, List.length_cons, List.length_nil] at *; omega))⟩
          · have g35 : (((gt x0 s22).Query) == x1) = false := beq_eq_false_iff_ne.2 h34
            refine ws g35 ?_
            refine ws g35 ?_
            refine ws g35 ?_
            refine ws g35 ?_
            refine ws g35 ?_
            refine ws g35 ?_
            refine ws g35 ?_
            refine wg (fun W hm => rv_pickF rfl g35 rfl) g32 ?_
            refine wg (fun W hm => rv_pickF rfl g32 rfl) g28 ?_
            refine wv (fun W hm => rv_pickT rfl g28 rfl) ?_
            refine nt' ?_
            refine CM_condF rfl rfl ?_
            refine CM_exit ?_
            refine QM_then_exit ?_
            refine QM_then_exit ?_
            refine QM_block_hit ?_
            refine QM_items (fun W hm => Mem.unfocus0 (Mem.join (is := []) (js := (iFoc tyGroup 117 (some ⟨g29, 0, none⟩) x0.length c2 x0 s22 [.int .i64 ((gt x0 s22).Query), .int .i64 ((gt x0 s22).Value), .int .i64 ((gt x0 s22).Count), .int .i64 ((gt x0 s22).Sum)] :: (is))) (fun _ _ hs => tyGroup_join (x := (gt x0 s22)) hs) (hm.front (n := 0) rfl))) ?_
            have hE40 := rngb_brk (R := (List DGroup)) (body := (fun k (s : Nat) => spec_l14Put_b2 x0 x1 x2 k s)) (k := k21) (s := s22) (s' := s22) (show k21 < x0.length + 1 from by omega) (show spec_l14Put_b2 x0 x1 x2 k21 s22 = Sum.inr (Sum.inl s22) from by unfold spec_l14Put_b2; exact cond_t g28 (cond_f g32 (cond_f g35 (rfl)))) hF24
            exact QM_cut_normal (s22, ()) (subL_cons rfl (subL_cons rfl (subL_cons rfl (subL_cons rfl (subL_cons rfl subL_nil))))) (fun W hm => hm) ⟨hE40, (show s22 ≤ x0.length from by first | omega | (simp only [List.length_append, List.length_cons, List.length_nil] at *; omega))⟩
      · have g28 : (decide (((s22 : Nat) : Int) < ((x0.length : Nat) : Int))) = false := decide_eq_false h27
        refine ws g28 ?_
        refine ws g28 ?_
        refine ws g28 ?_
        refine ws g28 ?_
        refine ws g28 ?_
        refine ws g28 ?_
        refine ws g28 ?_
        refine ws g28 ?_
        refine wu ?_
        refine wu ?_
        refine wu ?_
        refine wu ?_
        refine wu ?_
        refine wu ?_
        refine wu ?_
        refine wu ?_
        refine wu ?_
        refine wu ?_
        refine wu ?_
        refine wu ?_
        refine wu ?_
        refine wu ?_
        refine wu ?_
        refine wu ?_
        refine ws g28 ?_
        refine wv (fun W hm => rv_pickF rfl g28 rfl) ?_
        refine nt' ?_
        refine CM_condF rfl rfl ?_
        refine CM_exit ?_
        refine QM_then_exit ?_
        refine QM_then_exit ?_
        refine QM_block_hit ?_
        have hE41 := rngb_brk (R := (List DGroup)) (body := (fun k (s : Nat) => spec_l14Put_b2 x0 x1 x2 k s)) (k := k21) (s := s22) (s' := s22) (show k21 < x0.length + 1 from by omega) (show spec_l14Put_b2 x0 x1 x2 k21 s22 = Sum.inr (Sum.inl s22) from by unfold spec_l14Put_b2; exact cond_f g28 (rfl)) hF24
        exact QM_cut_normal (s22, ()) (subL_cons rfl (subL_cons rfl (subL_cons rfl (subL_cons rfl (subL_cons rfl subL_nil))))) (fun W hm => hm) ⟨hE41, (show s22 ≤ x0.length from by first | omega | (simp only [List.length_append, List.length_cons, List.length_nil] at *; omega))⟩
    ·
      rintro ⟨s22, ⟨⟩⟩ H43
      obtain ⟨hE42, hx44⟩ : rngb (R := (List DGroup)) (fun k (s : Nat) => spec_l14Put_b2 x0 x1 x2 k s) (x0.length + 1 - 0) 0 0 = Sum.inr s22 ∧ s22 ≤ x0.length := H43
      show QM 106 _ _ _ .normal [(0, .slice A1 x0.length c2), (1, .int .i64 x1), (2, .int .i64 x2), (3, .int .i64 x3), (10, .int .i64 ((s22 : Nat) : Int))] (iOwn (tSl tyGroup 117) [.slice A1 x0.length c2] x0 :: is)
      refine QM_then ?_
      refine sr ?_
      refine WM_build0 (E := tyGroup) Try.underlying54 Try.type117 (Wd_none rfl) (by decide) (fun p45 => ?_)
      refine wm ?_
      refine wm ?_
      refine wv (fun W hm => rv_sliceHi (k := s22) Try.underlying54 Try.type117 rfl rfl (by have := rdS_cap (hm.rdSI (n := 1) rfl); omega)) ?_
      refine WM_appendR (F := tyGroup) (E := tyGroup) (e := 117) (v := .slice (some ⟨p45, 0, none⟩) 0 0) (xs := []) (ys := (List.take s22 x0)) (js := (iOwn (tSl tyGroup 117) [.slice A1 x0.length c2] x0 :: is)) (fun W hm => (hm.front (n := 0) rfl)) (fun W hm => src_flat (flat_map (flat_pair flat_int (flat_pair flat_int (flat_pair flat_int flat_int)))) (rdS_take (k := s22) (by omega) (hm.rdSI (n := 1) rfl))) Try.underlying54 Try.type117 rfl rfl rfl (Nat.le_of_ble_eq_true rfl) rfl rfl (show ([].length + (List.take s22 x0).length) * 32 ≤ 140737488355328 from by first | omega | (simp only [List.length_append, List.length_cons, List.length_nil, List.length_take, List.length_drop] at *; omega)) (show [].length + (List.take s22 x0).length ≤ 9223372036854775807 from by first | omega | (simp only [List.length_append, List.length_cons, List.length_nil, List.length_take, List.length_drop] at *; omega)) (Wd_none rfl) (by decide) (fun v47 => ?_)
      refine WM_form (n := 0) rfl ?_
      rintro A48 c49 rfl m50
      refine wa ?_
      refine nt' ?_
      refine sr ?_
      refine wm ?_
      refine wm ?_
      refine wm ?_
      refine wm ?_
      refine wv (fun W hm => rv_build (cs := [.int .i64 x1, .int .i64 x2, .int .i64 1, .int .i64 x3]) rfl (by kernel_rfl)) ?_
      refine WM_build (cs := [.int .i64 x1, .int .i64 x2, .int .i64 1, .int .i64 x3]) Try.underlying54 Try.type117 rfl (by decide) (by decide) rfl (by kernel_rfl) (Wd_none rfl) (by decide) (fun p52 => ?_)
      refine WM_append (E := tyGroup) (e := 117) (v := .slice A48 (List.take s22 x0).length c49) (p := p52) (q := 1) (xs := (List.take s22 x0)) (ys := [(⟨x1, x2, 1, x3⟩ : DGroup)]) (eis := []) (js := (iOwn (tSl tyGroup 117) [.slice A1 x0.length c2] x0 :: is)) (news := [.int .i64 x1, .int .i64 x2, .int .i64 1, .int .i64 x3]) (fun W hm => ((hm.front (n := 1) rfl).front (n := 1) rfl)) (fun _ _ hs => by cases (Sep.nil hs); exact (els_cons (tyGroup_join (x := (⟨x1, x2, 1, x3⟩ : DGroup)) (L := []) rfl) els_nil)) Try.underlying54 Try.type117 rfl rfl rfl (Nat.le_of_ble_eq_true rfl) rfl rfl rfl (show ((List.take s22 x0).length + 1) * 32 ≤ 140737488355328 from by first | omega | (simp only [List.length_append, List.length_cons, List.length_nil, List.length_take, List.length_drop] at *; omega)) (show (List.take s22 x0).length + 1 ≤ 9223372036854775807 from by first | omega | (simp only [List.length_append, List.length_cons, List.length_nil, List.length_take, List.length_drop] at *; omega)) (Wd_none rfl) (by decide) (fun v53 => ?_)
      refine WM_form (n := 0) rfl ?_
      rintro A54 c55 rfl m56
      refine wa ?_
      refine nt' ?_
      refine sr ?_
      refine wm ?_
      refine wm ?_
      refine wm ?_
      refine wv (fun W hm => rv_sliceLo (k := s22) (s := 4) Try.underlying54 Try.type117 rfl rfl rfl (by omega)) ?_
      refine WM_appendR (F := tyGroup) (E := tyGroup) (e := 117) (v := .slice A54 ((List.take s22 x0) ++ [(⟨x1, x2, 1, x3⟩ : DGroup)]).length c55) (xs := ((List.take s22 x0) ++ [(⟨x1, x2, 1, x3⟩ : DGroup)])) (ys := (List.drop s22 x0)) (js := (iOwn (tSl tyGroup 117) [.slice A1 x0.length c2] x0 :: is)) (fun W hm => (hm.front (n := 0) rfl)) (fun W hm => src_flat (flat_map (flat_pair flat_int (flat_pair flat_int (flat_pair flat_int flat_int)))) (rdS_drop (k := s22) (by omega) (hm.rdSI (n := 1) rfl))) Try.underlying54 Try.type117 rfl rfl rfl (Nat.le_of_ble_eq_true rfl) rfl rfl (show (((List.take s22 x0) ++ [(⟨x1, x2, 1, x3⟩ : DGroup)]).length + (List.drop s22 x0).length) * 32 ≤ 140737488355328 from by first | omega | (simp only [List.length_append, List.length_cons, List.length_nil, List.length_take, List.length_drop] at *; omega)) (show ((List.take s22 x0) ++ [(⟨x1, x2, 1, x3⟩ : DGroup)]).length + (List.drop s22 x0).length ≤ 9223372036854775807 from by first | omega | (simp only [List.length_append, List.length_cons, List.length_nil, List.length_take, List.length_drop] at *; omega)) (Wd_none rfl) (by decide) (fun v58 => ?_)
      refine WM_form (n := 0) rfl ?_
      rintro A59 c60 rfl m61
      refine wa ?_
      refine nt' ?_
      refine CM_ret ?_
      refine QM_r1 rfl (RR_tmp rfl) (fun W hm => ⟨.slice A59 (((List.take s22 x0) ++ [(⟨x1, x2, 1, x3⟩ : DGroup)]) ++ (List.drop s22 x0)).length c60, ?_, ?_⟩)
      · first | rw [(show spec_l14Put_m x0 x1 x2 x3 = (((List.take s22 x0) ++ [(⟨x1, x2, 1, x3⟩ : DGroup)]) ++ (List.drop s22 x0)) from by unfold spec_l14Put_m; exact fin_inr hE20 (fin_inr hE42 (rfl)))] | rfl
      · rw [(show spec_l14Put_m x0 x1 x2 x3 = (((List.take s22 x0) ++ [(⟨x1, x2, 1, x3⟩ : DGroup)]) ++ (List.drop s22 x0)) from by unfold spec_l14Put_m; exact fin_inr hE20 (fin_inr hE42 (rfl)))]; exact ((hm.front (n := 0) rfl).front (n := 1) rfl).tail

theorem spec_IsRow_len {r : DRow} (h : spec_IsRow_m r = true) : r.Values.length = 3 := by
  unfold spec_IsRow_m at h
  rw [rng_allN (p := fun k => spec_l1In_m (gt r.Values k) 0 99) (r := false) (fun k _ => by
    unfold spec_IsRow_b1
    cases spec_l1In_m (gt r.Values k) 0 99 <;> rfl)] at h
  by_cases h1 : r.Values.length = 3
  · exact h1
  · rw [beq_eq_false_iff_ne.2 (show ¬ ((r.Values.length : Nat) : Int) = 3 by omega)] at h
    revert h
    cases (List.range r.Values.length).all (fun k => spec_l1In_m (gt r.Values k) 0 99) <;> cases spec_l1In_m r.Id 0 999 <;> intro h <;> cases h
theorem spec_Fine_fact {x y : Int} (h : spec_l14Fine_m x y = true) : (0 ≤ x ∧ x ≤ 2) ∧ (0 ≤ y ∧ y ≤ 2) := by
  unfold spec_l14Fine_m at h
  cases h1 : spec_l1In_m x 0 2 with
  | false => rw [h1] at h; cases h
  | true => rw [h1] at h; exact ⟨spec_l1In_fact h1, spec_l1In_fact h⟩
theorem spec_Put_len (l : List DGroup) (i v n : Int) : (spec_l14Put_m l i v n).length ≤ l.length + 1 := by
  unfold spec_l14Put_m
  rcases rng_find (P := fun r : List DGroup => r.length = l.length) (n := l.length) (b := fun k (_ : Unit) => spec_l14Put_b1 l i v n k) (fun j _ => by
    show (∃ r, spec_l14Put_b1 l i v n j = .inl r ∧ _) ∨ spec_l14Put_b1 l i v n j = .inr ()
    unfold spec_l14Put_b1
    cases (gt l j).Query == i <;> cases (gt l j).Value == v <;> first | exact .inr rfl | exact .inl ⟨_, rfl, List.length_set⟩) (l.length - 0) 0 (by omega) with ⟨r, h1, h2⟩ | h1
  · rw [h1]; show r.length ≤ _; omega
  · rw [h1]
    obtain ⟨s, h2⟩ := rngb_inr (R := List DGroup) (b := fun k (s : Nat) => spec_l14Put_b2 l i v k s) (fun j s => by
      unfold spec_l14Put_b2
      cases decide (((s : Nat) : Int) < ((l.length : Nat) : Int)) <;> cases decide ((gt l s).Query < i) <;> cases (gt l s).Query == i <;> cases decide ((gt l s).Value < v) <;> exact ⟨_, rfl⟩) (l.length + 1 - 0) 0 0
    rw [h2]
    show ((List.take s l ++ [_]) ++ List.drop s l).length ≤ _
    simp only [List.length_append, List.length_take, List.length_drop, List.length_cons, List.length_nil]
    omega
def spec_GroupShared_b2 (x0 : (List DAnnotated)) (x1 : Int) (x2 : Int) (k9 : Nat) (k42 : Nat) (d43 : (List DGroup)) : (List DGroup) ⊕ (((List DGroup)) ⊕ ((List DGroup))) :=
  cond (spec_IsRow_m ((gt x0 k9).Row)) (Sum.inr (Sum.inr (spec_l14Put_m d43 (gt ((gt x0 k9).Set) k42) (gt ((gt x0 k9).Row.Values) (x1.toNat)) (gt ((gt x0 k9).Row.Values) (x2.toNat))))) (Sum.inr (Sum.inl d43))
def spec_GroupShared_b1 (x0 : (List DAnnotated)) (x1 : Int) (x2 : Int) (k9 : Nat) (d10 : (List DGroup)) : (List DGroup) ⊕ (((List DGroup)) ⊕ ((List DGroup))) :=
  cond (spec_l14Fine_m x1 x2) (Sum.elim Sum.inl (fun (s : (List DGroup)) => Sum.inr (Sum.inr s)) (rngb (R := (List DGroup)) (fun k (s : (List DGroup)) => spec_GroupShared_b2 x0 x1 x2 k9 k s) (((gt x0 k9).Set).length - 0) 0 d10)) (Sum.inr (Sum.inl d10))
def spec_GroupShared_m (x0 : (List DAnnotated)) (x1 : Int) (x2 : Int) : (List DGroup) :=
  Sum.elim id (fun (s : (List DGroup)) => s) (rngb (R := (List DGroup)) (fun k (s : (List DGroup)) => spec_GroupShared_b1 x0 x1 x2 k s) (x0.length - 0) 0 [])
set_option maxRecDepth 100000 in
theorem cb40 : Cb Try.prog 40 := ⟨Try.f40, _, Try.func40, rfl, by decide⟩
set_option maxRecDepth 10000 in
set_option maxHeartbeats 4000000 in
theorem spec_GroupShared_c (w : World) (z0 : Value) (x0 : (List DAnnotated)) (x1 : Int) (x2 : Int) (r_0 : rdS tyAnnotated w w.heap.size z0 x0) (s_0 : (x0.length ≤ 68719476736 ∧ ∀ y ∈ x0, smAnnotated 68719476736 y)) (hq : (x0.map fun (a : DAnnotated) => a.Set.length).sum ≤ 68719476736) :
    Calls Try.prog 40 #[z0, .int .i64 x1, .int .i64 x2] w fun e w' => ∃ v : Value, e = .returned (v) ∧ Mem w.heap.size w [iOwn (tSl tyGroup 117) [v] (spec_GroupShared_m x0 x1 x2)] w' := by
  have r5 := r_0
  obtain ⟨m1, A2, c3, rfl, q4⟩ := r_0
  have l6 : x0.length ≤ 68719476736 := s_0.1
  refine call_enterM (L := [(0, .slice A2 x0.length c3), (1, .int .i64 x1), (2, .int .i64 x2)]) (N := 69) Try.func40 rfl rfl (Nat.le_of_ble_eq_true rfl) (argsL_cons rfl (argsL_cons rfl (argsL_cons rfl argsL_nil))) ?_
  refine sr ?_
  refine wa ?_
  refine nt' ?_
  refine sr ?_
  refine WM_build0 (E := tyGroup) Try.underlying54 Try.type117 (Wd_none rfl) (by decide) (fun p7 => ?_)
  refine wa ?_
  refine nt' ?_
  refine CM_seq ?_
  refine sr ?_
  refine wa ?_
  refine nt' ?_
  refine CM_cut (σ := ((List DGroup)) × (Option Addr × Nat)) (fun s => [(7, .slice s.2.1 s.1.length s.2.2)]) (fun s => [iOwn (tSl tyGroup 117) [.slice s.2.1 s.1.length s.2.2] s.1]) (fun s => rngb (R := (List DGroup)) (fun k (s : (List DGroup)) => spec_GroupShared_b1 x0 x1 x2 k s) (x0.length - 0) 0 [] = Sum.inr s.1) ?_ ?_
  ·
    refine CM_block ?_
    refine CM_loop (σ := Nat × ((List DGroup)) × (Option Addr × Nat)) (fun s => [(0, .slice A2 x0.length c3), (1, .int .i64 x1), (2, .int .i64 x2), (7, .slice s.2.2.1 s.2.1.length s.2.2.2), (8, .int .i64 ((s.1 : Nat) : Int))]) (fun s => [iOwn (tSl tyGroup 117) [.slice s.2.2.1 s.2.1.length s.2.2.2] s.2.1]) (fun s => s.1 ≤ x0.length ∧ rngb (R := (List DGroup)) (fun k (s : (List DGroup)) => spec_GroupShared_b1 x0 x1 x2 k s) (x0.length - s.1) s.1 s.2.1 = rngb (R := (List DGroup)) (fun k (s : (List DGroup)) => spec_GroupShared_b1 x0 x1 x2 k s) (x0.length - 0) 0 [] ∧ s.2.1.length ≤ ((x0.take s.1).map fun (a : DAnnotated) => a.Set.length).sum) (fun s => x0.length - s.1) (0, [], ((some ⟨p7, 0, none⟩), 0)) (subL_cons rfl (subL_cons rfl (subL_cons rfl (subL_cons rfl (subL_cons rfl subL_nil))))) (fun W hm => hm) ⟨(by omega), rfl, Nat.zero_le _⟩ ?_
    rintro ⟨k9, d10, ⟨A11, c12⟩⟩ H15
    obtain ⟨hk13, hF14, hi16⟩ : k9 ≤ x0.length ∧ rngb (R := (List DGroup)) (fun k (s : (List DGroup)) => spec_GroupShared_b1 x0 x1 x2 k s) (x0.length - k9) k9 d10 = rngb (R := (List DGroup)) (fun k (s : (List DGroup)) => spec_GroupShared_b1 x0 x1 x2 k s) (x0.length - 0) 0 [] ∧ d10.length ≤ ((x0.take k9).map fun (a : DAnnotated) => a.Set.length).sum := H15
    show CM Try.prog 69 _ _ _ _ [(0, .slice A2 x0.length c3), (1, .int .i64 x1), (2, .int .i64 x2), (7, .slice A11 d10.length c12), (8, .int .i64 ((k9 : Nat) : Int))] [iOwn (tSl tyGroup 117) [.slice A11 d10.length c12] d10]
    refine CM_seq ?_
    refine sr ?_
    refine wm ?_
    refine wm ?_
    refine wv (fun W hm => rv_len Try.underlying26 rfl) ?_
    refine wv (fun W hm => rv_lss rfl rfl) ?_
    refine wm ?_
    by_cases hl17 : k9 < x0.length
    · have g18 : (decide (((k9 : Nat) : Int) < ((x0.length : Nat) : Int))) = true := decide_eq_true (by omega)
      have hq1 := sum_take_succ (w := fun (a : DAnnotated) => a.Set.length) (xs := x0) (j := k9) (by omega)
      have hq2 := sum_take_le (w := fun (a : DAnnotated) => a.Set.length) (xs := x0) (k9 + 1)
      refine wg (fun W hm => rv_move rfl) g18 ?_
      refine wg (fun W hm => rv_move rfl) g18 ?_
      refine WM_callV (cl_fn cb80 rfl) (fun W hm => spec_l14Fine_c W x1 x2) (Wd_some rfl rfl rfl (bw g18 rfl)) (by decide) ?_
      refine wv (fun W hm => rv_pickT rfl g18 rfl) ?_
      refine nt' ?_
      rcases Bool.eq_false_or_eq_true (spec_l14Fine_m x1 x2) with g20 | g20
      ·
        have hfi := spec_Fine_fact g20
        refine CM_condT rfl g20 ?_
        refine CM_skip ?_
        refine QM_then ?_
        refine CM_seq ?_
        refine CM_block ?_
        refine sr ?_
        refine wa ?_
        refine nt' ?_
        obtain ⟨a21, rfl, hb22, he23⟩ := q4 (by omega)
        obtain ⟨_, e29, hc24⟩ := he23 k9 _ (gt_some (show k9 < x0.length from by omega))
        obtain ⟨v25, v27, rfl, r26, r28⟩ := tyAnnotated_rd e29
        have l30 : ((gt x0 k9).Row.Values).length ≤ 68719476736 := (s_0.2 _ (gt_mem (show k9 < x0.length from by omega))).1
        have l31 : ((gt x0 k9).Set).length ≤ 68719476736 := (s_0.2 _ (gt_mem (show k9 < x0.length from by omega))).2
        have r36 := r26
        obtain ⟨m32, A33, c34, rfl, q35⟩ := r26
        have r41 := r28
        obtain ⟨m37, A38, c39, rfl, q40⟩ := r28
        refine CM_cut (σ := ((List DGroup)) × (Option Addr × Nat)) (fun s => [(0, .slice (some a21) x0.length c3), (1, .int .i64 x1), (2, .int .i64 x2), (7, .slice s.2.1 s.1.length s.2.2), (8, .int .i64 ((k9 : Nat) : Int))]) (fun s => [iOwn (tSl tyGroup 117) [.slice s.2.1 s.1.length s.2.2] s.1]) (fun s => rngb (R := (List DGroup)) (fun k (s : (List DGroup)) => spec_GroupShared_b2 x0 x1 x2 k9 k s) (((gt x0 k9).Set).length - 0) 0 d10 = Sum.inr s.1 ∧ s.1.length ≤ d10.length + ((gt x0 k9).Set).length) ?_ ?_
        ·
          refine CM_block ?_
          refine CM_loop (σ := Nat × ((List DGroup)) × (Option Addr × Nat)) (fun s => [(0, .slice (some a21) x0.length c3), (1, .int .i64 x1), (2, .int .i64 x2), (7, .slice s.2.2.1 s.2.1.length s.2.2.2), (8, .int .i64 ((k9 : Nat) : Int)), (9, .int .i64 ((s.1 : Nat) : Int))]) (fun s => [iOwn (tSl tyGroup 117) [.slice s.2.2.1 s.2.1.length s.2.2.2] s.2.1]) (fun s => s.1 ≤ ((gt x0 k9).Set).length ∧ rngb (R := (List DGroup)) (fun k (s : (List DGroup)) => spec_GroupShared_b2 x0 x1 x2 k9 k s) (((gt x0 k9).Set).length - s.1) s.1 s.2.1 = rngb (R := (List DGroup)) (fun k (s : (List DGroup)) => spec_GroupShared_b2 x0 x1 x2 k9 k s) (((gt x0 k9).Set).length - 0) 0 d10 ∧ s.2.1.length ≤ d10.length + s.1) (fun s => ((gt x0 k9).Set).length - s.1) (0, d10, (A11, c12)) (subL_cons rfl (subL_cons rfl (subL_cons rfl (subL_cons rfl (subL_cons rfl (subL_cons rfl subL_nil)))))) (fun W hm => hm) ⟨(by omega), rfl, Nat.le_refl _⟩ ?_
          rintro ⟨k42, d43, ⟨A44, c45⟩⟩ H48
          obtain ⟨hk46, hF47, hi49⟩ : k42 ≤ ((gt x0 k9).Set).length ∧ rngb (R := (List DGroup)) (fun k (s : (List DGroup)) => spec_GroupShared_b2 x0 x1 x2 k9 k s) (((gt x0 k9).Set).length - k42) k42 d43 = rngb (R := (List DGroup)) (fun k (s : (List DGroup)) => spec_GroupShared_b2 x0 x1 x2 k9 k s) (((gt x0 k9).Set).length - 0) 0 d10 ∧ d43.length ≤ d10.length + k42 := H48
          show CM Try.prog 69 _ _ _ _ [(0, .slice (some a21) x0.length c3), (1, .int .i64 x1), (2, .int .i64 x2), (7, .slice A44 d43.length c45), (8, .int .i64 ((k9 : Nat) : Int)), (9, .int .i64 ((k42 : Nat) : Int))] [iOwn (tSl tyGroup 117) [.slice A44 d43.length c45] d43]
          refine CM_seq ?_
          refine sr ?_
          refine wm ?_
          refine wm ?_
          refine wm ?_
          refine wv (fun W hm => rv_index (sz := 3) (k := k9) Try.underlying26 Try.type91 rfl rfl rfl (by omega)) ?_
          refine wv (fun W hm => rv_field Try.underlying91 rfl Try.type33 (by decide) rfl rfl) ?_
          refine wv (fun W hm => rv_load Try.underlying33 rfl rfl ((hm.cell0 (show ((a21.add (k9 * 3)).add 2).block < w.heap.size from by rw [add_block, add_block]; exact hb22.1)).trans (hc24 2 _ rfl))) ?_
          refine wv (fun W hm => rv_len Try.underlying33 rfl) ?_
          refine wv (fun W hm => rv_lss rfl rfl) ?_
          refine wm ?_
          by_cases hl50 : k42 < ((gt x0 k9).Set).length
          · have g51 : (decide (((k42 : Nat) : Int) < ((((gt x0 k9).Set).length : Nat) : Int))) = true := decide_eq_true (by omega)
            refine wg (fun W hm => rv_move rfl) g51 ?_
            refine wg (fun W hm => rv_move rfl) g51 ?_
            refine wg (fun W hm => rv_index (sz := 3) (k := k9) Try.underlying26 Try.type91 rfl rfl rfl (by omega)) g51 ?_
            refine wg (fun W hm => rv_field Try.underlying91 rfl Try.type69 (by decide) rfl rfl) g51 ?_
            refine wg (fun W hm => rv_loadN (cs := [.int .i64 ((gt x0 k9).Row.Id), .slice A33 ((gt x0 k9).Row.Values).length c34]) Try.underlying69 Try.type69 rfl rfl (hm.elPart (show (a21.add (k9 * 3)).block < w.heap.size from by rw [add_block]; exact hb22.1) hc24 rfl)) g51 ?_
            refine WM_callV (cl_fn cb81 rfl) (fun W hm => spec_IsRow_c W _ ((gt x0 k9).Row) (tyRow_mk (x := ((gt x0 k9).Row)) (hm.rdS0 r36))) (Wd_some rfl rfl rfl (bw g51 rfl)) (by decide) ?_
            refine wv (fun W hm => rv_pickT rfl g51 rfl) ?_
            refine nt' ?_
            rcases Bool.eq_false_or_eq_true (spec_IsRow_m ((gt x0 k9).Row)) with g53 | g53
            ·
              have hlr := spec_IsRow_len g53
              refine CM_condT rfl g53 ?_
              refine CM_skip ?_
              refine QM_then ?_
              refine CM_seq ?_
              refine CM_block ?_
              refine CM_regionB (n := 29) (listed := #[false, false, false, false, false, false, false, false, false, false, false, false, false, false, false, false, false, false, false, false, false, false, false, false, false, false, false, false, false]) (s := []) (by kernel_rfl) rfl (by kernel_rfl) (fun W hm => (hm.pick [] (by decide))) ?_
              refine QB_take 0 (listed' := #[true, false, false, false, false, false, false, false, false, false, false, false, false, false, false, false, false, false, false, false, false, false, false, false, false, false, false, false, false]) (by kernel_rfl) rfl (by kernel_rfl) (by kernel_rfl) (by kernel_rfl) (fun _ _ _ h => h) (fun W hm => rv_move rfl) (Wd_none rfl) rfl (by decide) ?_
              refine QB_take 1 (listed' := #[true, true, false, false, false, false, false, false, false, false, false, false, false, false, false, false, false, false, false, false, false, false, false, false, false, false, false, false, false]) (by kernel_rfl) rfl (by kernel_rfl) (by kernel_rfl) (by kernel_rfl) (fun _ _ _ h => h) (fun W hm => rv_move rfl) (Wd_none rfl) rfl (by decide) ?_
              refine QB_take 2 (listed' := #[true, true, true, false, false, false, false, false, false, false, false, false, false, false, false, false, false, false, false, false, false, false, false, false, false, false, false, false, false]) (by kernel_rfl) rfl (by kernel_rfl) (by kernel_rfl) (by kernel_rfl) (fun _ _ _ h => h) (fun W hm => rv_move rfl) (Wd_none rfl) rfl (by decide) ?_
              refine QB_take 3 (listed' := #[true, true, true, true, false, false, false, false, false, false, false, false, false, false, false, false, false, false, false, false, false, false, false, false, false, false, false, false, false]) (by kernel_rfl) rfl (by kernel_rfl) (by kernel_rfl) (by kernel_rfl) (fun _ _ _ h => h) (fun W hm => rv_index (sz := 3) (k := k9) Try.underlying26 Try.type91 rfl rfl rfl (by omega)) (Wd_none rfl) rfl (by decide) ?_
              refine QB_take 4 (listed' := #[true, true, true, true, true, false, false, false, false, false, false, false, false, false, false, false, false, false, false, false, false, false, false, false, false, false, false, false, false]) (by kernel_rfl) rfl (by kernel_rfl) (by kernel_rfl) (by kernel_rfl) (fun _ _ _ h => h) (fun W hm => rv_field Try.underlying91 rfl Try.type33 (by decide) rfl rfl) (Wd_none rfl) rfl (by decide) ?_
              refine QB_take 5 (listed' := #[true, true, true, true, true, true, false, false, false, false, false, false, false, false, false, false, false, false, false, false, false, false, false, false, false, false, false, false, false]) (by kernel_rfl) rfl (by kernel_rfl) (by kernel_rfl) (by kernel_rfl) (fun _ _ _ h => h) (fun W hm => rv_load Try.underlying33 rfl rfl ((hm.cell0 (show ((a21.add (k9 * 3)).add 2).block < w.heap.size from by rw [add_block, add_block]; exact hb22.1)).trans (hc24 2 _ rfl))) (Wd_none rfl) rfl (by decide) ?_
              refine QB_take 6 (listed' := #[true, true, true, true, true, true, true, false, false, false, false, false, false, false, false, false, false, false, false, false, false, false, false, false, false, false, false, false, false]) (by kernel_rfl) rfl (by kernel_rfl) (by kernel_rfl) (by kernel_rfl) (fun _ _ _ h => h) (fun W hm => rv_move rfl) (Wd_none rfl) rfl (by decide) ?_
              obtain ⟨a54, rfl, hb55, he56⟩ := q40 (by omega)
              refine QB_take 7 (listed' := #[true, true, true, true, true, true, true, true, false, false, false, false, false, false, false, false, false, false, false, false, false, false, false, false, false, false, false, false, false]) (by kernel_rfl) rfl (by kernel_rfl) (by kernel_rfl) (by kernel_rfl) (fun _ _ _ h => h) (fun W hm => rv_index (sz := 1) (k := k42) Try.underlying33 Try.type3 rfl rfl rfl (by omega)) (Wd_none rfl) rfl (by decide) ?_
              refine QB_take 8 (listed' := #[true, true, true, true, true, true, true, true, true, false, false, false, false, false, false, false, false, false, false, false, false, false, false, false, false, false, false, false, false]) (by kernel_rfl) rfl (by kernel_rfl) (by kernel_rfl) (by kernel_rfl) (fun _ _ _ h => h) (fun W hm => rv_load Try.underlying3 rfl rfl ((hm.cell0 (show (a54.add (k42 * 1)).block < w.heap.size from by rw [add_block]; exact hb55.1)).trans (rdS_int he56 k42 (by omega)))) (Wd_none rfl) rfl (by decide) ?_
              refine QB_take 9 (listed' := #[true, true, true, true, true, true, true, true, true, true, false, false, false, false, false, false, false, false, false, false, false, false, false, false, false, false, false, false, false]) (by kernel_rfl) rfl (by kernel_rfl) (by kernel_rfl) (by kernel_rfl) (fun _ _ _ h => h) (fun W hm => rv_move rfl) (Wd_none rfl) rfl (by decide) ?_
              refine QB_take 10 (listed' := #[true, true, true, true, true, true, true, true, true, true, true, false, false, false, false, false, false, false, false, false, false, false, false, false, false, false, false, false, false]) (by kernel_rfl) rfl (by kernel_rfl) (by kernel_rfl) (by kernel_rfl) (fun _ _ _ h => h) (fun W hm => rv_move rfl) (Wd_none rfl) rfl (by decide) ?_
              refine QB_take 11 (listed' := #[true, true, true, true, true, true, true, true, true, true, true, true, false, false, false, false, false, false, false, false, false, false, false, false, false, false, false, false, false]) (by kernel_rfl) rfl (by kernel_rfl) (by kernel_rfl) (by kernel_rfl) (fun _ _ _ h => h) (fun W hm => rv_index (sz := 3) (k := k9) Try.underlying26 Try.type91 rfl rfl rfl (by omega)) (Wd_none rfl) rfl (by decide) ?_
              refine QB_take 12 (listed' := #[true, true, true, true, true, true, true, true, true, true, true, true, true, false, false, false, false, false, false, false, false, false, false, false, false, false, false, false, false]) (by kernel_rfl) rfl (by kernel_rfl) (by kernel_rfl) (by kernel_rfl) (fun _ _ _ h => h) (fun W hm => rv_field Try.underlying91 rfl Try.type69 (by decide) rfl rfl) (Wd_none rfl) rfl (by decide) ?_
              refine QB_take 13 (listed' := #[true, true, true, true, true, true, true, true, true, true, true, true, true, true, false, false, false, false, false, false, false, false, false, false, false, false, false, false, false]) (by kernel_rfl) rfl (by kernel_rfl) (by kernel_rfl) (by kernel_rfl) (fun _ _ _ h => h) (fun W hm => rv_fieldA (o := 1) Try.underlying69 rfl Try.type33 (by decide) rfl rfl) (Wd_none rfl) rfl (by decide) ?_
              refine QB_take 14 (listed' := #[true, true, true, true, true, true, true, true, true, true, true, true, true, true, true, false, false, false, false, false, false, false, false, false, false, false, false, false, false]) (by kernel_rfl) rfl (by kernel_rfl) (by kernel_rfl) (by kernel_rfl) (fun _ _ _ h => h) (fun W hm => rv_load Try.underlying33 rfl rfl ((hm.cell0 (show ((a21.add (k9 * 3)).add 1).block < w.heap.size from by rw [add_block, add_block]; exact hb22.1)).trans (hc24 1 _ rfl))) (Wd_none rfl) rfl (by decide) ?_
              refine QB_take 15 (listed' := #[true, true, true, true, true, true, true, true, true, true, true, true, true, true, true, true, false, false, false, false, false, false, false, false, false, false, false, false, false]) (by kernel_rfl) rfl (by kernel_rfl) (by kernel_rfl) (by kernel_rfl) (fun _ _ _ h => h) (fun W hm => rv_move rfl) (Wd_none rfl) rfl (by decide) ?_
              obtain ⟨a57, rfl, hb58, he59⟩ := q35 (by omega)
              refine QB_take 16 (listed' := #[true, true, true, true, true, true, true, true, true, true, true, true, true, true, true, true, true, false, false, false, false, false, false, false, false, false, false, false, false]) (by kernel_rfl) rfl (by kernel_rfl) (by kernel_rfl) (by kernel_rfl) (fun _ _ _ h => h) (fun W hm => rv_indexI (sz := 1) (k := x1) Try.underlying33 Try.type3 rfl rfl rfl (by omega) (by omega)) (Wd_none rfl) rfl (by decide) ?_
              refine QB_take 17 (listed' := #[true, true, true, true, true, true, true, true, true, true, true, true, true, true, true, true, true, true, false, false, false, false, false, false, false, false, false, false, false]) (by kernel_rfl) rfl (by kernel_rfl) (by kernel_rfl) (by kernel_rfl) (fun _ _ _ h => h) (fun W hm => rv_load Try.underlying3 rfl rfl ((hm.cell0 (show (a57.add ((x1.toNat) * 1)).block < w.heap.size from by rw [add_block]; exact hb58.1)).trans (rdS_int he59 (x1.toNat) (by omega)))) (Wd_none rfl) rfl (by decide) ?_
              refine QB_take 18 (listed' := #[true, true, true, true, true, true, true, true, true, true, true, true, true, true, true, true, true, true, true, false, false, false, false, false, false, false, false, false, false]) (by kernel_rfl) rfl (by kernel_rfl) (by kernel_rfl) (by kernel_rfl) (fun _ _ _ h => h) (fun W hm => rv_move rfl) (Wd_none rfl) rfl (by decide) ?_
              refine QB_take 19 (listed' := #[true, true, true, true, true, true, true, true, true, true, true, true, true, true, true, true, true, true, true, true, false, false, false, false, false, false, false, false, false]) (by kernel_rfl) rfl (by kernel_rfl) (by kernel_rfl) (by kernel_rfl) (fun _ _ _ h => h) (fun W hm => rv_move rfl) (Wd_none rfl) rfl (by decide) ?_
              refine QB_take 20 (listed' := #[true, true, true, true, true, true, true, true, true, true, true, true, true, true, true, true, true, true, true, true, true, false, false, false, false, false, false, false, false]) (by kernel_rfl) rfl (by kernel_rfl) (by kernel_rfl) (by kernel_rfl) (fun _ _ _ h => h) (fun W hm => rv_index (sz := 3) (k := k9) Try.underlying26 Try.type91 rfl rfl rfl (by omega)) (Wd_none rfl) rfl (by decide) ?_
              refine QB_take 21 (listed' := #[true, true, true, true, true, true, true, true, true, true, true, true, true, true, true, true, true, true, true, true, true, true, false, false, false, false, false, false, false]) (by kernel_rfl) rfl (by kernel_rfl) (by kernel_rfl) (by kernel_rfl) (fun _ _ _ h => h) (fun W hm => rv_field Try.underlying91 rfl Try.type69 (by decide) rfl rfl) (Wd_none rfl) rfl (by decide) ?_
              refine QB_take 22 (listed' := #[true, true, true, true, true, true, true, true, true, true, true, true, true, true, true, true, true, true, true, true, true, true, true, false, false, false, false, false, false]) (by kernel_rfl) rfl (by kernel_rfl) (by kernel_rfl) (by kernel_rfl) (fun _ _ _ h => h) (fun W hm => rv_fieldA (o := 1) Try.underlying69 rfl Try.type33 (by decide) rfl rfl) (Wd_none rfl) rfl (by decide) ?_
              refine QB_take 23 (listed' := #[true, true, true, true, true, true, true, true, true, true, true, true, true, true, true, true, true, true, true, true, true, true, true, true, false, false, false, false, false]) (by kernel_rfl) rfl (by kernel_rfl) (by kernel_rfl) (by kernel_rfl) (fun _ _ _ h => h) (fun W hm => rv_load Try.underlying33 rfl rfl ((hm.cell0 (show ((a21.add (k9 * 3)).add 1).block < w.heap.size from by rw [add_block, add_block]; exact hb22.1)).trans (hc24 1 _ rfl))) (Wd_none rfl) rfl (by decide) ?_
              refine QB_take 24 (listed' := #[true, true, true, true, true, true, true, true, true, true, true, true, true, true, true, true, true, true, true, true, true, true, true, true, true, false, false, false, false]) (by kernel_rfl) rfl (by kernel_rfl) (by kernel_rfl) (by kernel_rfl) (fun _ _ _ h => h) (fun W hm => rv_move rfl) (Wd_none rfl) rfl (by decide) ?_
              refine QB_take 25 (listed' := #[true, true, true, true, true, true, true, true, true, true, true, true, true, true, true, true, true, true, true, true, true, true, true, true, true, true, false, false, false]) (by kernel_rfl) rfl (by kernel_rfl) (by kernel_rfl) (by kernel_rfl) (fun _ _ _ h => h) (fun W hm => rv_indexI (sz := 1) (k := x2) Try.underlying33 Try.type3 rfl rfl rfl (by omega) (by omega)) (Wd_none rfl) rfl (by decide) ?_
              refine QB_take 26 (listed' := #[true, true, true, true, true, true, true, true, true, true, true, true, true, true, true, true, true, true, true, true, true, true, true, true, true, true, true, false, false]) (by kernel_rfl) rfl (by kernel_rfl) (by kernel_rfl) (by kernel_rfl) (fun _ _ _ h => h) (fun W hm => rv_load Try.underlying3 rfl rfl ((hm.cell0 (show (a57.add ((x2.toNat) * 1)).block < w.heap.size from by rw [add_block]; exact hb58.1)).trans (rdS_int he59 (x2.toNat) (by omega)))) (Wd_none rfl) rfl (by decide) ?_
              refine QB_one 27 (listed' := #[true, true, true, true, true, true, true, true, true, true, true, true, true, true, true, true, true, true, true, true, true, true, true, true, true, true, true, true, false]) (by kernel_rfl) rfl (by kernel_rfl) ?_
              refine WM_callW (χ := Value) (val := fun x => x) (js := fun x => (iOwn (tSl tyGroup 117) [x] (spec_l14Put_m d43 (gt ((gt x0 k9).Set) k42) (gt ((gt x0 k9).Row.Values) (x1.toNat)) (gt ((gt x0 k9).Row.Values) (x2.toNat))) :: [])) (cl_fn cb82 rfl) (fun W hm => spec_l14Put_c w.heap.size w [] W (.slice A44 d43.length c45) d43 (gt ((gt x0 k9).Set) k42) (gt ((gt x0 k9).Row.Values) (x1.toNat)) (gt ((gt x0 k9).Row.Values) (x2.toNat)) (show _ ≤ 68719476736 from by omega) hm) (Wd_none rfl) (by decide) (fun z60 => ?_)
              refine WM_form (n := 0) rfl ?_
              rintro A61 c62 rfl m63
              have hp := spec_Put_len d43 (gt ((gt x0 k9).Set) k42) (gt ((gt x0 k9).Row.Values) (x1.toNat)) (gt ((gt x0 k9).Row.Values) (x2.toNat))
              refine WM_nil ?_
              refine QB_next (fun W hm => (hm.pick [] (by decide))) ?_
              refine QB_take 28 (listed' := #[true, true, true, true, true, true, true, true, true, true, true, true, true, true, true, true, true, true, true, true, true, true, true, true, true, true, true, true, true]) (by kernel_rfl) rfl (by kernel_rfl) (by kernel_rfl) (by kernel_rfl) (fun _ _ _ h => h) (fun W hm => rv_assign rfl) (Wd_none rfl) rfl (by decide) ?_
              refine QB_done (by kernel_rfl) ?_
              refine QM_block_normal ?_
              refine QM_then ?_
              refine CM_region ?_
              refine wm ?_
              refine wv (fun W hm => rv_addN (p := k42) (q := 1) rfl rfl (by omega)) ?_
              refine wa ?_
              refine WM_nil ?_
              have hn65 := rngb_next (R := (List DGroup)) (body := (fun k (s : (List DGroup)) => spec_GroupShared_b2 x0 x1 x2 k9 k s)) (k := k42) (s := d43) (s' := (spec_l14Put_m d43 (gt ((gt x0 k9).Set) k42) (gt ((gt x0 k9).Row.Values) (x1.toNat)) (gt ((gt x0 k9).Row.Values) (x2.toNat)))) (show k42 < ((gt x0 k9).Set).length from by omega) (show spec_GroupShared_b2 x0 x1 x2 k9 k42 d43 = Sum.inr (Sum.inr (spec_l14Put_m d43 (gt ((gt x0 k9).Set) k42) (gt ((gt x0 k9).Row.Values) (x1.toNat)) (gt ((gt x0 k9).Row.Values) (x2.toNat)))) from by unfold spec_GroupShared_b2; exact cond_t g53 (rfl)) hF47
              exact QM_round (k42 + 1, (spec_l14Put_m d43 (gt ((gt x0 k9).Set) k42) (gt ((gt x0 k9).Row.Values) (x1.toNat)) (gt ((gt x0 k9).Row.Values) (x2.toNat))), (A61, c62)) (subL_cons rfl (subL_cons rfl (subL_cons rfl (subL_cons rfl (subL_cons rfl (subL_cons rfl subL_nil)))))) (fun W hm => hm) ⟨(by omega), hn65, (show (spec_l14Put_m d43 (gt ((gt x0 k9).Set) k42) (gt ((gt x0 k9).Row.Values) (x1.toNat)) (gt ((gt x0 k9).Row.Values) (x2.toNat))).length ≤ d10.length + (k42 + 1) from by first | omega | (simp only [List.length_append, List.length_cons, List.length_nil] at *; omega))⟩ (show ((gt x0 k9).Set).length - (k42 + 1) < ((gt x0 k9).Set).length - k42 from by omega)
            ·
              refine CM_condF rfl g53 ?_
              refine CM_exit ?_
              refine QM_then_exit ?_
              refine QM_then_exit ?_
              refine QM_block_hit ?_
              have hE66 := rngb_brk (R := (List DGroup)) (body := (fun k (s : (List DGroup)) => spec_GroupShared_b2 x0 x1 x2 k9 k s)) (k := k42) (s := d43) (s' := d43) (show k42 < ((gt x0 k9).Set).length from by omega) (show spec_GroupShared_b2 x0 x1 x2 k9 k42 d43 = Sum.inr (Sum.inl d43) from by unfold spec_GroupShared_b2; exact cond_f g53 (rfl)) hF47
              exact QM_cut_normal (d43, (A44, c45)) (subL_cons rfl (subL_cons rfl (subL_cons rfl (subL_cons rfl (subL_cons rfl subL_nil))))) (fun W hm => hm) ⟨hE66, (show d43.length ≤ d10.length + ((gt x0 k9).Set).length from by first | omega | (simp only [List.length_append, List.length_cons, List.length_nil] at *; omega))⟩
          · have g51 : (decide (((k42 : Nat) : Int) < ((((gt x0 k9).Set).length : Nat) : Int))) = false := decide_eq_false (by omega)
            refine ws g51 ?_
            refine ws g51 ?_
            refine ws g51 ?_
            refine ws g51 ?_
            refine ws g51 ?_
            refine ws g51 ?_
            refine wv (fun W hm => rv_pickF rfl g51 rfl) ?_
            refine nt' ?_
            refine CM_condF rfl rfl ?_
            refine CM_exit ?_
            refine QM_then_exit ?_
            refine QM_then_exit ?_
            refine QM_block_hit ?_
            have hE67 : rngb (R := (List DGroup)) (fun k (s : (List DGroup)) => spec_GroupShared_b2 x0 x1 x2 k9 k s) (((gt x0 k9).Set).length - 0) 0 d10 = Sum.inr d43 := rngb_end hl50 hF47
            exact QM_cut_normal (d43, (A44, c45)) (subL_cons rfl (subL_cons rfl (subL_cons rfl (subL_cons rfl (subL_cons rfl subL_nil))))) (fun W hm => hm) ⟨hE67, (show d43.length ≤ d10.length + ((gt x0 k9).Set).length from by first | omega | (simp only [List.length_append, List.length_cons, List.length_nil] at *; omega))⟩
        ·
          rintro ⟨d43, ⟨A44, c45⟩⟩ H69
          obtain ⟨hE68, hx70⟩ : rngb (R := (List DGroup)) (fun k (s : (List DGroup)) => spec_GroupShared_b2 x0 x1 x2 k9 k s) (((gt x0 k9).Set).length - 0) 0 d10 = Sum.inr d43 ∧ d43.length ≤ d10.length + ((gt x0 k9).Set).length := H69
          show QM 69 _ _ _ .normal [(0, .slice (some a21) x0.length c3), (1, .int .i64 x1), (2, .int .i64 x2), (7, .slice A44 d43.length c45), (8, .int .i64 ((k9 : Nat) : Int))] [iOwn (tSl tyGroup 117) [.slice A44 d43.length c45] d43]
          refine QM_block_normal ?_
          refine QM_then ?_
          refine CM_region ?_
          refine wm ?_
          refine wv (fun W hm => rv_addN (p := k9) (q := 1) rfl rfl (by omega)) ?_
          refine wa ?_
          refine WM_nil ?_
          have hn71 := rngb_next (R := (List DGroup)) (body := (fun k (s : (List DGroup)) => spec_GroupShared_b1 x0 x1 x2 k s)) (k := k9) (s := d10) (s' := d43) (show k9 < x0.length from by omega) (show spec_GroupShared_b1 x0 x1 x2 k9 d10 = Sum.inr (Sum.inr d43) from by unfold spec_GroupShared_b1; exact cond_t g20 (fin_inr hE68 (rfl))) hF14
          exact QM_round (k9 + 1, d43, (A44, c45)) (subL_cons rfl (subL_cons rfl (subL_cons rfl (subL_cons rfl (subL_cons rfl subL_nil))))) (fun W hm => hm) ⟨(by omega), hn71, (show d43.length ≤ ((x0.take (k9 + 1)).map fun (a : DAnnotated) => a.Set.length).sum from by omega)⟩ (show x0.length - (k9 + 1) < x0.length - k9 from by omega)
      ·
        refine CM_condF rfl g20 ?_
        refine CM_exit ?_
        refine QM_then_exit ?_
        refine QM_then_exit ?_
        refine QM_block_hit ?_
        have hE72 := rngb_brk (R := (List DGroup)) (body := (fun k (s : (List DGroup)) => spec_GroupShared_b1 x0 x1 x2 k s)) (k := k9) (s := d10) (s' := d10) (show k9 < x0.length from by omega) (show spec_GroupShared_b1 x0 x1 x2 k9 d10 = Sum.inr (Sum.inl d10) from by unfold spec_GroupShared_b1; exact cond_f g20 (rfl)) hF14
        exact QM_cut_normal (d10, (A11, c12)) (subL_cons rfl subL_nil) (fun W hm => hm) hE72
    · have g18 : (decide (((k9 : Nat) : Int) < ((x0.length : Nat) : Int))) = false := decide_eq_false (by omega)
      refine ws g18 ?_
      refine ws g18 ?_
      refine ws g18 ?_
      refine wv (fun W hm => rv_pickF rfl g18 rfl) ?_
      refine nt' ?_
      refine CM_condF rfl rfl ?_
      refine CM_exit ?_
      refine QM_then_exit ?_
      refine QM_then_exit ?_
      refine QM_block_hit ?_
      have hE73 : rngb (R := (List DGroup)) (fun k (s : (List DGroup)) => spec_GroupShared_b1 x0 x1 x2 k s) (x0.length - 0) 0 [] = Sum.inr d10 := rngb_end hl17 hF14
      exact QM_cut_normal (d10, (A11, c12)) (subL_cons rfl subL_nil) (fun W hm => hm) hE73
  ·
    rintro ⟨d10, ⟨A11, c12⟩⟩ H75
    have hE74 : rngb (R := (List DGroup)) (fun k (s : (List DGroup)) => spec_GroupShared_b1 x0 x1 x2 k s) (x0.length - 0) 0 [] = Sum.inr d10 := H75
    show QM 69 _ _ _ .normal [(7, .slice A11 d10.length c12)] [iOwn (tSl tyGroup 117) [.slice A11 d10.length c12] d10]
    refine QM_then ?_
    refine sr ?_
    refine wm ?_
    refine wa ?_
    refine nt' ?_
    refine CM_ret ?_
    refine QM_r1 rfl (RR_tmp rfl) (fun W hm => ⟨.slice A11 d10.length c12, ?_, ?_⟩)
    · first | rw [(show spec_GroupShared_m x0 x1 x2 = d10 from by unfold spec_GroupShared_m; exact fin_inr hE74 (rfl))] | rfl
    · rw [(show spec_GroupShared_m x0 x1 x2 = d10 from by unfold spec_GroupShared_m; exact fin_inr hE74 (rfl))]; exact hm

def impl_within_m (x0 : Int) (x1 : Int) (x2 : Int) : Bool :=
  cond (decide (x1 ≤ x0)) (decide (x0 ≤ x2)) false
set_option maxRecDepth 100000 in
theorem cb114 : Cb Try.prog 114 := ⟨Try.f114, _, Try.func114, rfl, by decide⟩
set_option maxRecDepth 10000 in
set_option maxHeartbeats 4000000 in
theorem impl_within_c (w : World) (x0 : Int) (x1 : Int) (x2 : Int) :
    Calls Try.prog 114 #[.int .i64 x0, .int .i64 x1, .int .i64 x2] w fun e w' => e = .returned (.bool (impl_within_m x0 x1 x2)) ∧ Below w.heap.size w w' := by
  refine call_enterM (L := [(0, .int .i64 x0), (1, .int .i64 x1), (2, .int .i64 x2)]) (N := 15) Try.func114 rfl rfl (Nat.le_of_ble_eq_true rfl) (argsL_cons rfl (argsL_cons rfl (argsL_cons rfl argsL_nil))) ?_
  refine sr ?_
  refine wa ?_
  refine nt' ?_
  refine sr ?_
  refine wm ?_
  refine wm ?_
  refine wv (fun W hm => rv_geq rfl rfl) ?_
  refine wm ?_
  by_cases h1 : x1 ≤ x0
  · have g2 : (decide (x1 ≤ x0)) = true := decide_eq_true h1
    refine wg (fun W hm => rv_move rfl) g2 ?_
    refine wg (fun W hm => rv_move rfl) g2 ?_
    refine wg (fun W hm => rv_leq rfl rfl) g2 ?_
    refine wv (fun W hm => rv_pickT rfl g2 rfl) ?_
    refine wa ?_
    refine nt' ?_
    refine CM_ret ?_
    exact QM_ret1 rfl rfl (fun W hm => ⟨ret_b (show impl_within_m x0 x1 x2 = (decide (x0 ≤ x2)) from by unfold impl_within_m; exact cond_t g2 (rfl)), hm.below⟩)
  · have g2 : (decide (x1 ≤ x0)) = false := decide_eq_false h1
    refine ws g2 ?_
    refine ws g2 ?_
    refine ws g2 ?_
    refine wv (fun W hm => rv_pickF rfl g2 rfl) ?_
    refine wa ?_
    refine nt' ?_
    refine CM_ret ?_
    exact QM_ret1 rfl rfl (fun W hm => ⟨ret_b (show impl_within_m x0 x1 x2 = false from by unfold impl_within_m; exact cond_f g2 (rfl)), hm.below⟩)

theorem impl_within_fact {x a b : Int} (h : impl_within_m x a b = true) : a ≤ x ∧ x ≤ b := by
  unfold impl_within_m at h
  by_cases h1 : a ≤ x
  · rw [decide_eq_true h1] at h
    exact ⟨h1, of_decide_eq_true h⟩
  · rw [decide_eq_false h1] at h
    cases h
theorem impl_within_iff (x a b : Int) : impl_within_m x a b = decide (a ≤ x ∧ x ≤ b) := by
  unfold impl_within_m
  by_cases h1 : a ≤ x
  · by_cases h2 : x ≤ b
    · simp [h1, h2]
    · simp [h1, h2]
  · simp [h1]

def impl_isField_m (x0 : Int) : Bool :=
  (impl_within_m x0 0 2)
set_option maxRecDepth 100000 in
theorem cb86 : Cb Try.prog 86 := ⟨Try.f86, _, Try.func86, rfl, by decide⟩
set_option maxRecDepth 10000 in
set_option maxHeartbeats 4000000 in
theorem impl_isField_c (w : World) (x0 : Int) :
    Calls Try.prog 86 #[.int .i64 x0] w fun e w' => e = .returned (.bool (impl_isField_m x0)) ∧ Below w.heap.size w w' := by
  refine call_enterM (L := [(0, .int .i64 x0)]) (N := 5) Try.func86 rfl rfl (Nat.le_of_ble_eq_true rfl) (argsL_cons rfl argsL_nil) ?_
  refine sr ?_
  refine wa ?_
  refine nt' ?_
  refine sr ?_
  refine wm ?_
  refine WM_callV (cl_fn cb114 rfl) (fun W hm => impl_within_c W x0 0 2) (Wd_none rfl) (by decide) ?_
  refine wa ?_
  refine nt' ?_
  refine CM_ret ?_
  exact QM_ret1 rfl rfl (fun W hm => ⟨ret_b (show impl_isField_m x0 = (impl_within_m x0 0 2) from by unfold impl_isField_m; exact rfl), hm.below⟩)

def impl_IsRow_b1 (x0 : DRow) (k9 : Nat) : Bool ⊕ (Unit) :=
  cond (impl_within_m (gt x0.Values k9) 0 99) (Sum.inr ()) (Sum.inl false)
def impl_IsRow_m (x0 : DRow) : Bool :=
  Sum.elim id (fun (s : Unit) => cond (impl_within_m x0.Id 0 999) (((x0.Values.length : Nat) : Int) == 3) false) (rng (R := Bool) (fun k (_ : Unit) => impl_IsRow_b1 x0 k) (x0.Values.length - 0) 0 ())
set_option maxRecDepth 100000 in
theorem cb87 : Cb Try.prog 87 := ⟨Try.f87, _, Try.func87, rfl, by decide⟩
set_option maxRecDepth 10000 in
set_option maxHeartbeats 4000000 in
theorem impl_IsRow_c (w : World) (z0 : List Value) (x0 : DRow) (r_0 : tyRow.rd w w.heap.size z0 x0) :
    Calls Try.prog 87 #[.agg z0.toArray] w fun e w' => e = .returned (.bool (impl_IsRow_m x0)) ∧ Below w.heap.size w w' := by
  obtain ⟨v1, rfl, r2⟩ := tyRow_rd r_0
  have r7 := r2
  obtain ⟨m3, A4, c5, rfl, q6⟩ := r2
  refine call_enterM (L := [(0, .agg #[.int .i64 x0.Id, .slice A4 x0.Values.length c5])]) (N := 25) Try.func87 rfl rfl (Nat.le_of_ble_eq_true rfl) (argsL_cons rfl argsL_nil) ?_
  refine sr ?_
  refine WM_box rfl (Wd_none rfl) (by decide) (fun p8 => ?_)
  refine wa ?_
  refine nt' ?_
  refine CM_seq ?_
  refine sr ?_
  refine wv (fun W hm => rv_field Try.underlying69 rfl Try.type33 (by decide) rfl rfl) ?_
  refine wv (fun W hm => rv_load Try.underlying33 rfl rfl (hm.boxCell (n := 0) (o := 1) rfl rfl)) ?_
  refine wv (fun W hm => rv_len Try.underlying33 rfl) ?_
  refine wm ?_
  refine nt' ?_
  refine CM_block ?_
  refine CM_loop (σ := Nat × (Unit) × (Unit)) (fun s => [(1, .pointer (some (⟨p8, 0, none⟩ : Addr))), (6, .slice A4 x0.Values.length c5), (7, .int .i64 ((x0.Values.length : Nat) : Int)), (8, .int .i64 ((s.1 : Nat) : Int))]) (fun s => [iBox p8 69 [.int .i64 x0.Id, .slice A4 x0.Values.length c5]]) (fun s => s.1 ≤ x0.Values.length ∧ rng (R := Bool) (fun k (_ : Unit) => impl_IsRow_b1 x0 k) (x0.Values.length - s.1) s.1 s.2.1 = rng (R := Bool) (fun k (_ : Unit) => impl_IsRow_b1 x0 k) (x0.Values.length - 0) 0 ()) (fun s => x0.Values.length - s.1) (0, (), ()) (subL_cons rfl (subL_cons rfl (subL_cons rfl (subL_cons rfl subL_nil)))) (fun W hm => hm) ⟨(by omega), rfl⟩ ?_
  rintro ⟨k9, ⟨⟩, ⟨⟩⟩ H12
  obtain ⟨hk10, hF11⟩ : k9 ≤ x0.Values.length ∧ rng (R := Bool) (fun k (_ : Unit) => impl_IsRow_b1 x0 k) (x0.Values.length - k9) k9 () = rng (R := Bool) (fun k (_ : Unit) => impl_IsRow_b1 x0 k) (x0.Values.length - 0) 0 () := H12
  show CM Try.prog 25 _ _ _ _ [(1, .pointer (some (⟨p8, 0, none⟩ : Addr))), (6, .slice A4 x0.Values.length c5), (7, .int .i64 ((x0.Values.length : Nat) : Int)), (8, .int .i64 ((k9 : Nat) : Int))] [iBox p8 69 [.int .i64 x0.Id, .slice A4 x0.Values.length c5]]
  refine sr ?_
  refine wv (fun W hm => rv_lss rfl rfl) ?_
  refine nt' ?_
  refine CM_seq ?_
  by_cases hl13 : k9 < x0.Values.length
  · have g14 : (decide (((k9 : Nat) : Int) < ((x0.Values.length : Nat) : Int))) = true := decide_eq_true (by omega)
    refine CM_condT rfl g14 ?_
    refine CM_skip ?_
    refine QM_then ?_
    refine CM_seq ?_
    refine CM_block ?_
    refine sr ?_
    obtain ⟨a15, rfl, hb16, he17⟩ := q6 (by omega)
    refine wv (fun W hm => rv_index (sz := 1) (k := k9) Try.underlying33 Try.type3 rfl rfl rfl (by omega)) ?_
    refine wv (fun W hm => rv_load Try.underlying3 rfl rfl ((hm.cell0 (show (a15.add (k9 * 1)).block < w.heap.size from by rw [add_block]; exact hb16.1)).trans (rdS_int he17 k9 (by omega)))) ?_
    refine wa ?_
    refine nt' ?_
    refine sr ?_
    refine wm ?_
    refine WM_callV (cl_fn cb114 rfl) (fun W hm => impl_within_c W (gt x0.Values k9) 0 99) (Wd_none rfl) (by decide) ?_
    refine wv (fun W hm => rv_not rfl) ?_
    refine nt' ?_
    rcases Bool.eq_false_or_eq_true (impl_within_m (gt x0.Values k9) 0 99) with g19 | g19
    ·
      have hw := impl_within_fact g19
      refine CM_condF rfl (nt g19) ?_
      refine CM_skip ?_
      refine QM_block_normal ?_
      refine QM_then ?_
      refine CM_region ?_
      refine wv (fun W hm => rv_addN (p := k9) (q := 1) rfl rfl (by omega)) ?_
      refine wm ?_
      refine WM_nil ?_
      have hn20 := rng_next (R := Bool) (body := (fun k (_ : Unit) => impl_IsRow_b1 x0 k)) (k := k9) (s := ()) (s' := ()) (show k9 < x0.Values.length from by omega) (show impl_IsRow_b1 x0 k9 = Sum.inr () from by unfold impl_IsRow_b1; exact cond_t g19 (rfl)) hF11
      exact QM_round (k9 + 1, (), ()) (subL_cons rfl (subL_cons rfl (subL_cons rfl (subL_cons rfl subL_nil)))) (fun W hm => hm) ⟨(by omega), hn20⟩ (show x0.Values.length - (k9 + 1) < x0.Values.length - k9 from by omega)
    ·
      refine CM_condT rfl (nf g19) ?_
      refine sr ?_
      refine wa ?_
      refine nt' ?_
      refine CM_ret ?_
      refine QM_block_ret ?_
      refine QM_then_ret ?_
      refine QM_then_ret ?_
      refine QM_block_ret ?_
      refine QM_then_ret ?_
      exact QM_ret1 rfl rfl (fun W hm => ⟨ret_b (show impl_IsRow_m x0 = false from by unfold impl_IsRow_m; exact fin_inl (rng_ret (body := (fun k (_ : Unit) => impl_IsRow_b1 x0 k)) (k := k9) (s := ()) (show k9 < x0.Values.length from by omega) (show impl_IsRow_b1 x0 k9 = Sum.inl false from by unfold impl_IsRow_b1; exact cond_f g19 (rfl)) hF11) rfl), hm.below⟩)
  · have g14 : (decide (((k9 : Nat) : Int) < ((x0.Values.length : Nat) : Int))) = false := decide_eq_false (by omega)
    refine CM_condF rfl g14 ?_
    refine CM_exit ?_
    refine QM_then_exit ?_
    refine QM_then_exit ?_
    have hE21 : rng (R := Bool) (fun k (_ : Unit) => impl_IsRow_b1 x0 k) (x0.Values.length - 0) 0 () = Sum.inr () := rng_end hl13 hF11
    refine QM_block_hit ?_
    refine QM_then ?_
    refine sr ?_
    refine wv (fun W hm => rv_field Try.underlying69 rfl Try.type3 (by decide) rfl rfl) ?_
    refine wv (fun W hm => rv_load Try.underlying3 rfl rfl (hm.boxCell (n := 0) (o := 0) rfl rfl)) ?_
    refine WM_callV (cl_fn cb114 rfl) (fun W hm => impl_within_c W x0.Id 0 999) (Wd_none rfl) (by decide) ?_
    refine wm ?_
    rcases Bool.eq_false_or_eq_true (impl_within_m x0.Id 0 999) with g23 | g23
    ·
      have hw := impl_within_fact g23
      refine wg (fun W hm => rv_field Try.underlying69 rfl Try.type33 (by decide) rfl rfl) g23 ?_
      refine wg (fun W hm => rv_load Try.underlying33 rfl rfl (hm.boxCell (n := 0) (o := 1) rfl rfl)) g23 ?_
      refine wg (fun W hm => rv_len Try.underlying33 rfl) g23 ?_
      refine wg (fun W hm => rv_eql rfl rfl) g23 ?_
      refine wv (fun W hm => rv_pickT rfl g23 rfl) ?_
      refine wa ?_
      refine nt' ?_
      refine CM_ret ?_
      exact QM_ret1 rfl rfl (fun W hm => ⟨ret_b (show impl_IsRow_m x0 = (((x0.Values.length : Nat) : Int) == 3) from by unfold impl_IsRow_m; exact fin_inr hE21 (cond_t g23 (rfl))), hm.below⟩)
    ·
      refine ws g23 ?_
      refine ws g23 ?_
      refine ws g23 ?_
      refine ws g23 ?_
      refine wv (fun W hm => rv_pickF rfl g23 rfl) ?_
      refine wa ?_
      refine nt' ?_
      refine CM_ret ?_
      exact QM_ret1 rfl rfl (fun W hm => ⟨ret_b (show impl_IsRow_m x0 = false from by unfold impl_IsRow_m; exact fin_inr hE21 (cond_f g23 (rfl))), hm.below⟩)

def cmp_isNaN_int_m (x0 : Int) : Bool :=
  (x0 != x0)
set_option maxRecDepth 100000 in
theorem cb134 : Cb Try.prog 134 := ⟨Try.f134, _, Try.func134, rfl, by decide⟩
set_option maxRecDepth 10000 in
set_option maxHeartbeats 4000000 in
theorem cmp_isNaN_int_c (w : World) (x0 : Int) :
    Calls Try.prog 134 #[.int .i64 x0] w fun e w' => e = .returned (.bool (cmp_isNaN_int_m x0)) ∧ Below w.heap.size w w' := by
  refine call_enterM (L := [(0, .int .i64 x0)]) (N := 6) Try.func134 rfl rfl (Nat.le_of_ble_eq_true rfl) (argsL_cons rfl argsL_nil) ?_
  refine sr ?_
  refine wa ?_
  refine nt' ?_
  refine sr ?_
  refine wm ?_
  refine wm ?_
  refine wv (fun W hm => rv_neq rfl rfl) ?_
  refine wa ?_
  refine nt' ?_
  refine CM_ret ?_
  exact QM_ret1 rfl rfl (fun W hm => ⟨ret_b (show cmp_isNaN_int_m x0 = (x0 != x0) from by unfold cmp_isNaN_int_m; exact rfl), hm.below⟩)

def cmp_Compare_int_m (x0 : Int) (x1 : Int) : Int :=
  cond (cmp_isNaN_int_m x0) (cond (cmp_isNaN_int_m x1) 0 (-1)) (cond (cmp_isNaN_int_m x1) 1 (cond (decide (x0 < x1)) (-1) (cond (decide (x1 < x0)) 1 0)))
set_option maxRecDepth 100000 in
theorem cb122 : Cb Try.prog 122 := ⟨Try.f122, _, Try.func122, rfl, by decide⟩
set_option maxRecDepth 10000 in
set_option maxHeartbeats 4000000 in
theorem cmp_Compare_int_c (w : World) (x0 : Int) (x1 : Int) :
    Calls Try.prog 122 #[.int .i64 x0, .int .i64 x1] w fun e w' => e = .returned (.int .i64 (cmp_Compare_int_m x0 x1)) ∧ Below w.heap.size w w' := by
  refine call_enterM (L := [(0, .int .i64 x0), (1, .int .i64 x1)]) (N := 20) Try.func122 rfl rfl (Nat.le_of_ble_eq_true rfl) (argsL_cons rfl (argsL_cons rfl argsL_nil)) ?_
  refine sr ?_
  refine wa ?_
  refine nt' ?_
  refine sr ?_
  refine wm ?_
  refine WM_callV (cl_fn cb134 rfl) (fun W hm => cmp_isNaN_int_c W x0) (Wd_none rfl) (by decide) ?_
  refine wa ?_
  refine nt' ?_
  refine sr ?_
  refine wm ?_
  refine WM_callV (cl_fn cb134 rfl) (fun W hm => cmp_isNaN_int_c W x1) (Wd_none rfl) (by decide) ?_
  refine wa ?_
  refine nt' ?_
  refine CM_seq ?_
  refine sr ?_
  refine wm ?_
  refine nt' ?_
  rcases Bool.eq_false_or_eq_true (cmp_isNaN_int_m x0) with g2 | g2
  ·
    refine CM_condT rfl g2 ?_
    refine CM_seq ?_
    refine sr ?_
    refine wm ?_
    refine nt' ?_
    rcases Bool.eq_false_or_eq_true (cmp_isNaN_int_m x1) with g4 | g4
    ·
      refine CM_condT rfl g4 ?_
      refine sr ?_
      refine wa ?_
      refine nt' ?_
      refine CM_ret ?_
      refine QM_then_ret ?_
      refine QM_then_ret ?_
      exact QM_ret1 rfl rfl (fun W hm => ⟨ret_i (show cmp_Compare_int_m x0 x1 = 0 from by unfold cmp_Compare_int_m; exact cond_t g2 (cond_t g4 (rfl))), hm.below⟩)
    ·
      refine CM_condF rfl g4 ?_
      refine CM_skip ?_
      refine QM_then ?_
      refine sr ?_
      refine wa ?_
      refine nt' ?_
      refine CM_ret ?_
      refine QM_then_ret ?_
      exact QM_ret1 rfl rfl (fun W hm => ⟨ret_i (show cmp_Compare_int_m x0 x1 = (-1) from by unfold cmp_Compare_int_m; exact cond_t g2 (cond_f g4 (rfl))), hm.below⟩)
  ·
    refine CM_condF rfl g2 ?_
    refine CM_skip ?_
    refine QM_then ?_
    refine CM_seq ?_
    refine sr ?_
    refine wm ?_
    refine nt' ?_
    rcases Bool.eq_false_or_eq_true (cmp_isNaN_int_m x1) with g6 | g6
    ·
      refine CM_condT rfl g6 ?_
      refine sr ?_
      refine wa ?_
      refine nt' ?_
      refine CM_ret ?_
      refine QM_then_ret ?_
      exact QM_ret1 rfl rfl (fun W hm => ⟨ret_i (show cmp_Compare_int_m x0 x1 = 1 from by unfold cmp_Compare_int_m; exact cond_f g2 (cond_t g6 (rfl))), hm.below⟩)
    ·
      refine CM_condF rfl g6 ?_
      refine CM_skip ?_
      refine QM_then ?_
      refine CM_seq ?_
      refine sr ?_
      refine wm ?_
      refine wm ?_
      refine wv (fun W hm => rv_lss rfl rfl) ?_
      refine nt' ?_
      by_cases h7 : x0 < x1
      · have g8 : (decide (x0 < x1)) = true := decide_eq_true h7
        refine CM_condT rfl g8 ?_
        refine sr ?_
        refine wa ?_
        refine nt' ?_
        refine CM_ret ?_
        refine QM_then_ret ?_
        exact QM_ret1 rfl rfl (fun W hm => ⟨ret_i (show cmp_Compare_int_m x0 x1 = (-1) from by unfold cmp_Compare_int_m; exact cond_f g2 (cond_f g6 (cond_t g8 (rfl)))), hm.below⟩)
      · have g8 : (decide (x0 < x1)) = false := decide_eq_false h7
        refine CM_condF rfl g8 ?_
        refine CM_skip ?_
        refine QM_then ?_
        refine CM_seq ?_
        refine sr ?_
        refine wm ?_
        refine wm ?_
        refine wv (fun W hm => rv_gtr rfl rfl) ?_
        refine nt' ?_
        by_cases h9 : x1 < x0
        · have g10 : (decide (x1 < x0)) = true := decide_eq_true h9
          refine CM_condT rfl g10 ?_
          refine sr ?_
          refine wa ?_
          refine nt' ?_
          refine CM_ret ?_
          refine QM_then_ret ?_
          exact QM_ret1 rfl rfl (fun W hm => ⟨ret_i (show cmp_Compare_int_m x0 x1 = 1 from by unfold cmp_Compare_int_m; exact cond_f g2 (cond_f g6 (cond_f g8 (cond_t g10 (rfl))))), hm.below⟩)
        · have g10 : (decide (x1 < x0)) = false := decide_eq_false h9
          refine CM_condF rfl g10 ?_
          refine CM_skip ?_
          refine QM_then ?_
          refine sr ?_
          refine wa ?_
          refine nt' ?_
          refine CM_ret ?_
          exact QM_ret1 rfl rfl (fun W hm => ⟨ret_i (show cmp_Compare_int_m x0 x1 = 0 from by unfold cmp_Compare_int_m; exact cond_f g2 (cond_f g6 (cond_f g8 (cond_f g10 (rfl))))), hm.below⟩)

def impl_compareGroups_m (x0 : DGroup) (x1 : DGroup) : Int :=
  cond (x0.Query != x1.Query) (cmp_Compare_int_m x0.Query x1.Query) (cmp_Compare_int_m x0.Value x1.Value)
set_option maxRecDepth 100000 in
theorem cb89 : Cb Try.prog 89 := ⟨Try.f89, _, Try.func89, rfl, by decide⟩
set_option maxRecDepth 10000 in
set_option maxHeartbeats 4000000 in
theorem impl_compareGroups_c (w : World) (z0 : List Value) (x0 : DGroup) (z1 : List Value) (x1 : DGroup) (r_0 : tyGroup.rd w w.heap.size z0 x0) (r_1 : tyGroup.rd w w.heap.size z1 x1) :
    Calls Try.prog 89 #[.agg z0.toArray, .agg z1.toArray] w fun e w' => e = .returned (.int .i64 (impl_compareGroups_m x0 x1)) ∧ Below w.heap.size w w' := by
  obtain rfl := tyGroup_rd r_0
  obtain rfl := tyGroup_rd r_1
  refine call_enterM (L := [(0, .agg #[.int .i64 x0.Query, .int .i64 x0.Value, .int .i64 x0.Count, .int .i64 x0.Sum]), (1, .agg #[.int .i64 x1.Query, .int .i64 x1.Value, .int .i64 x1.Count, .int .i64 x1.Sum])]) (N := 20) Try.func89 rfl rfl (Nat.le_of_ble_eq_true rfl) (argsL_cons rfl (argsL_cons rfl argsL_nil)) ?_
  refine sr ?_
  refine WM_box rfl (Wd_none rfl) (by decide) (fun p1 => ?_)
  refine WM_box rfl (Wd_none rfl) (by decide) (fun p2 => ?_)
  refine wa ?_
  refine nt' ?_
  refine CM_seq ?_
  refine sr ?_
  refine wv (fun W hm => rv_field Try.underlying117 rfl Try.type3 (by decide) rfl rfl) ?_
  refine wv (fun W hm => rv_load Try.underlying3 rfl rfl (hm.boxCell (n := 1) (o := 0) rfl rfl)) ?_
  refine wv (fun W hm => rv_field Try.underlying117 rfl Try.type3 (by decide) rfl rfl) ?_
  refine wv (fun W hm => rv_load Try.underlying3 rfl rfl (hm.boxCell (n := 0) (o := 0) rfl rfl)) ?_
  refine wv (fun W hm => rv_neq rfl rfl) ?_
  refine nt' ?_
  by_cases h3 : x0.Query = x1.Query
  · have g4 : (x0.Query != x1.Query) = false := by rw [h3]; exact bne_self_eq_false _
    refine CM_condF rfl g4 ?_
    refine CM_skip ?_
    refine QM_then ?_
    refine sr ?_
    refine wv (fun W hm => rv_field Try.underlying117 rfl Try.type3 (by decide) rfl rfl) ?_
    refine wv (fun W hm => rv_load Try.underlying3 rfl rfl (hm.boxCell (n := 1) (o := 1) rfl rfl)) ?_
    refine wv (fun W hm => rv_field Try.underlying117 rfl Try.type3 (by decide) rfl rfl) ?_
    refine wv (fun W hm => rv_load Try.underlying3 rfl rfl (hm.boxCell (n := 0) (o := 1) rfl rfl)) ?_
    refine WM_callV (cl_fn cb122 rfl) (fun W hm => cmp_Compare_int_c W x0.Value x1.Value) (Wd_none rfl) (by decide) ?_
    refine wa ?_
    refine nt' ?_
    refine CM_ret ?_
    exact QM_ret1 rfl rfl (fun W hm => ⟨ret_i (show impl_compareGroups_m x0 x1 = (cmp_Compare_int_m x0.Value x1.Value) from by unfold impl_compareGroups_m; exact cond_f g4 (rfl)), hm.below⟩)
  · have g4 : (x0.Query != x1.Query) = true := bne_iff_ne.2 h3
    refine CM_condT rfl g4 ?_
    refine sr ?_
    refine wv (fun W hm => rv_field Try.underlying117 rfl Try.type3 (by decide) rfl rfl) ?_
    refine wv (fun W hm => rv_load Try.underlying3 rfl rfl (hm.boxCell (n := 1) (o := 0) rfl rfl)) ?_
    refine wv (fun W hm => rv_field Try.underlying117 rfl Try.type3 (by decide) rfl rfl) ?_
    refine wv (fun W hm => rv_load Try.underlying3 rfl rfl (hm.boxCell (n := 0) (o := 0) rfl rfl)) ?_
    refine WM_callV (cl_fn cb122 rfl) (fun W hm => cmp_Compare_int_c W x0.Query x1.Query) (Wd_none rfl) (by decide) ?_
    refine wa ?_
    refine nt' ?_
    refine CM_ret ?_
    refine QM_then_ret ?_
    exact QM_ret1 rfl rfl (fun W hm => ⟨ret_i (show impl_compareGroups_m x0 x1 = (cmp_Compare_int_m x0.Query x1.Query) from by unfold impl_compareGroups_m; exact cond_t g4 (rfl)), hm.below⟩)

set_option maxRecDepth 100000 in
theorem cb140 : Cb Try.prog 140 := ⟨Try.f140, _, Try.func140, rfl, by decide⟩
set_option maxRecDepth 10000 in
set_option maxHeartbeats 4000000 in
theorem srt88_swr_c {α : Type} [Inhabited α] (K : Ck α) (hK : K.s = 4) (cf : α → α → Int) (fc : FuncId) (B : Nat) (w0 : World) (is : List It) (H : CmpOk Try.prog fc K B w0 is cf) (A : Option Addr) (n c : Nat) (hn : n ≤ 68719476736) (a : Nat) (b : Nat) (k : Nat) (xs : List (List Value × α)) (h1 : a + k ≤ n) (h2 : b + k ≤ n) (w : World) (hm : Mem B w0 (iOwn (tSl (tCk K) 117) [.slice A n c] xs :: is) w) :
    Calls Try.prog 140 #[.slice A n c, .int .i64 ((a : Nat) : Int), .int .i64 ((b : Nat) : Int), .int .i64 ((k : Nat) : Int), .func (.func fc) #[] #[]] w fun e w' => e = .returned (.tuple #[]) ∧ Mem B w0 (iOwn (tSl (tCk K) 117) [.slice A n c] (swr k a b xs) :: is) w' := by
  refine call_enterW (L := [(0, .slice A n c), (1, .int .i64 ((a : Nat) : Int)), (2, .int .i64 ((b : Nat) : Int)), (3, .int .i64 ((k : Nat) : Int)), (4, .func (.func fc) #[] #[])]) (N := 38) Try.func140 rfl rfl (Nat.le_of_ble_eq_true rfl) (argsL_cons rfl (argsL_cons rfl (argsL_cons rfl (argsL_cons rfl (argsL_cons rfl argsL_nil))))) hm ?_
  refine sr ?_
  refine wa ?_
  refine nt' ?_
  refine CM_block ?_
  refine CM_loop (σ := Nat × List (List Value × α)) (fun s => [(0, .slice A n c), (1, .int .i64 ((a : Nat) : Int)), (2, .int .i64 ((b : Nat) : Int)), (3, .int .i64 ((k : Nat) : Int)), (10, .int .i64 ((s.1 : Nat) : Int))]) (fun s => (iOwn (tSl (tCk K) 117) [.slice A n c] s.2 :: is)) (fun s => swr (k - s.1) (a + s.1) (b + s.1) s.2 = swr k a b xs ∧ s.1 ≤ k) (fun s => k - s.1) (0, xs) (subL_cons rfl (subL_cons rfl (subL_cons rfl (subL_cons rfl (subL_cons rfl subL_nil))))) (fun W hm => hm) ⟨(show swr (k - 0) (a + 0) (b + 0) xs = swr k a b xs from rfl), (show 0 ≤ k from by omega)⟩ ?_
  rintro ⟨i, d⟩ H1
  obtain ⟨hF, hi⟩ : swr (k - i) (a + i) (b + i) d = swr k a b xs ∧ i ≤ k := H1
  show CM Try.prog 38 _ _ _ _ [(0, .slice A n c), (1, .int .i64 ((a : Nat) : Int)), (2, .int .i64 ((b : Nat) : Int)), (3, .int .i64 ((k : Nat) : Int)), (10, .int .i64 ((i : Nat) : Int))] (iOwn (tSl (tCk K) 117) [.slice A n c] d :: is)
  refine CM_seq ?_
  refine sr ?_
  refine wm ?_
  refine wm ?_
  refine wv (fun W hm => rv_lss rfl rfl) ?_
  refine nt' ?_
  by_cases h2 : ((i : Nat) : Int) < ((k : Nat) : Int)
  · have g3 : (decide (((i : Nat) : Int) < ((k : Nat) : Int))) = true := decide_eq_true h2
    refine CM_condT rfl g3 ?_
    refine CM_skip ?_
    refine QM_then ?_
    refine CM_seq ?_
    refine CM_block ?_
    refine CM_formO (n := 0) rfl (by omega) ?_
    rintro g5 rfl
    refine CM_ck ?_
    intro hR4
    refine CM_cut (σ := Unit) (fun _ => [(0, .slice (some ⟨g5, 0, none⟩) n c), (1, .int .i64 ((a : Nat) : Int)), (2, .int .i64 ((b : Nat) : Int)), (3, .int .i64 ((k : Nat) : Int)), (10, .int .i64 ((i : Nat) : Int))]) (fun _ => (iOwn (tSl (tCk K) 117) [.slice (some ⟨g5, 0, none⟩) n c] ((d.set (a + i) (gt d (b + i))).set (b + i) (gt d (a + i))) :: is)) (fun _ => True) ?_ ?_
    ·
      refine CM_regionB (n := 24) (listed := #[false, false, false, false, false, false, false, false, false, false, false, false, false, false, false, false, false, false, false, false, false, false, false, false]) (s := (is)) (by kernel_rfl) rfl (by kernel_rfl) (fun W hm => (hm).tail) ?_
      refine QB_take 0 (listed' := #[true, false, false, false, false, false, false, false, false, false, false, false, false, false, false, false, false, false, false, false, false, false, false, false]) (by kernel_rfl) rfl (by kernel_rfl) (by kernel_rfl) (by kernel_rfl) (fun _ _ _ h => h) (fun W hm => rv_move rfl) (Wd_none rfl) rfl (by decide) ?_
      refine QB_take 1 (listed' := #[true, true, false, false, false, false, false, false, false, false, false, false, false, false, false, false, false, false, false, false, false, false, false, false]) (by kernel_rfl) rfl (by kernel_rfl) (by kernel_rfl) (by kernel_rfl) (fun _ _ _ h => h) (fun W hm => rv_move rfl) (Wd_none rfl) rfl (by decide) ?_
      refine QB_take 2 (listed' := #[true, true, true, false, false, false, false, false, false, false, false, false, false, false, false, false, false, false, false, false, false, false, false, false]) (by kernel_rfl) rfl (by kernel_rfl) (by kernel_rfl) (by kernel_rfl) (fun _ _ _ h => h) (fun W hm => rv_move rfl) (Wd_none rfl) rfl (by decide) ?_
      refine QB_take 3 (listed' := #[true, true, true, true, false, false, false, false, false, false, false, false, false, false, false, false, false, false, false, false, false, false, false, false]) (by kernel_rfl) rfl (by kernel_rfl) (by kernel_rfl) (by kernel_rfl) (fun _ _ _ h => h) (fun W hm => rv_addN (p := a) (q := i) rfl rfl (by omega)) (Wd_none rfl) rfl (by decide) ?_
      refine QB_take 4 (listed' := #[true, true, true, true, true, false, false, false, false, false, false, false, false, false, false, false, false, false, false, false, false, false, false, false]) (by kernel_rfl) rfl (by kernel_rfl) (by kernel_rfl) (by kernel_rfl) (fun _ _ _ h => h) (fun W hm => rv_move rfl) (Wd_none rfl) rfl (by decide) ?_
      refine QB_take 5 (listed' := #[true, true, true, true, true, true, false, false, false, false, false, false, false, false, false, false, false, false, false, false, false, false, false, false]) (by kernel_rfl) rfl (by kernel_rfl) (by kernel_rfl) (by kernel_rfl) (fun _ _ _ h => h) (fun W hm => rv_move rfl) (Wd_none rfl) rfl (by decide) ?_
      refine QB_take 6 (listed' := #[true, true, true, true, true, true, true, false, false, false, false, false, false, false, false, false, false, false, false, false, false, false, false, false]) (by kernel_rfl) rfl (by kernel_rfl) (by kernel_rfl) (by kernel_rfl) (fun _ _ _ h => h) (fun W hm => rv_move rfl) (Wd_none rfl) rfl (by decide) ?_
      refine QB_take 7 (listed' := #[true, true, true, true, true, true, true, true, false, false, false, false, false, false, false, false, false, false, false, false, false, false, false, false]) (by kernel_rfl) rfl (by kernel_rfl) (by kernel_rfl) (by kernel_rfl) (fun _ _ _ h => h) (fun W hm => rv_addN (p := b) (q := i) rfl rfl (by omega)) (Wd_none rfl) rfl (by decide) ?_
      refine QB_take 8 (listed' := #[true, true, true, true, true, true, true, true, true, false, false, false, false, false, false, false, false, false, false, false, false, false, false, false]) (by kernel_rfl) rfl (by kernel_rfl) (by kernel_rfl) (by kernel_rfl) (fun _ _ _ h => h) (fun W hm => rv_move rfl) (Wd_none rfl) rfl (by decide) ?_
      refine QB_take 9 (listed' := #[true, true, true, true, true, true, true, true, true, true, false, false, false, false, false, false, false, false, false, false, false, false, false, false]) (by kernel_rfl) rfl (by kernel_rfl) (by kernel_rfl) (by kernel_rfl) (fun _ _ _ h => h) (fun W hm => rv_move rfl) (Wd_none rfl) rfl (by decide) ?_
      refine QB_take 10 (listed' := #[true, true, true, true, true, true, true, true, true, true, true, false, false, false, false, false, false, false, false, false, false, false, false, false]) (by kernel_rfl) rfl (by kernel_rfl) (by kernel_rfl) (by kernel_rfl) (fun _ _ _ h => h) (fun W hm => rv_move rfl) (Wd_none rfl) rfl (by decide) ?_
      refine QB_take 11 (listed' := #[true, true, true, true, true, true, true, true, true, true, true, true, false, false, false, false, false, false, false, false, false, false, false, false]) (by kernel_rfl) rfl (by kernel_rfl) (by kernel_rfl) (by kernel_rfl) (fun _ _ _ h => h) (fun W hm => rv_addN (p := b) (q := i) rfl rfl (by omega)) (Wd_none rfl) rfl (by decide) ?_
      refine QB_take 12 (listed' := #[true, true, true, true, true, true, true, true, true, true, true, true, true, false, false, false, false, false, false, false, false, false, false, false]) (by kernel_rfl) rfl (by kernel_rfl) (by kernel_rfl) (by kernel_rfl) (fun _ _ _ h => h) (fun W hm => rv_index (sz := K.s) (k := b + i) Try.underlying54 Try.type117 hK.symm rfl rfl (by omega)) (Wd_none rfl) rfl (by decide) ?_
      refine QB_take 14 (listed' := #[true, true, true, true, true, true, true, true, true, true, true, true, true, false, true, false, false, false, false, false, false, false, false, false]) (by kernel_rfl) rfl (by kernel_rfl) (by kernel_rfl) (by kernel_rfl) (fun _ _ _ h => h) (fun W hm => rv_move rfl) (Wd_none rfl) rfl (by decide) ?_
      refine QB_take 15 (listed' := #[true, true, true, true, true, true, true, true, true, true, true, true, true, false, true, true, false, false, false, false, false, false, false, false]) (by kernel_rfl) rfl (by kernel_rfl) (by kernel_rfl) (by kernel_rfl) (fun _ _ _ h => h) (fun W hm => rv_move rfl) (Wd_none rfl) rfl (by decide) ?_
      refine QB_take 16 (listed' := #[true, true, true, true, true, true, true, true, true, true, true, true, true, false, true, true, true, false, false, false, false, false, false, false]) (by kernel_rfl) rfl (by kernel_rfl) (by kernel_rfl) (by kernel_rfl) (fun _ _ _ h => h) (fun W hm => rv_move rfl) (Wd_none rfl) rfl (by decide) ?_
      refine QB_take 17 (listed' := #[true, true, true, true, true, true, true, true, true, true, true, true, true, false, true, true, true, true, false, false, false, false, false, false]) (by kernel_rfl) rfl (by kernel_rfl) (by kernel_rfl) (by kernel_rfl) (fun _ _ _ h => h) (fun W hm => rv_addN (p := a) (q := i) rfl rfl (by omega)) (Wd_none rfl) rfl (by decide) ?_
      refine QB_take 18 (listed' := #[true, true, true, true, true, true, true, true, true, true, true, true, true, false, true, true, true, true, true, false, false, false, false, false]) (by kernel_rfl) rfl (by kernel_rfl) (by kernel_rfl) (by kernel_rfl) (fun _ _ _ h => h) (fun W hm => rv_index (sz := K.s) (k := a + i) Try.underlying54 Try.type117 hK.symm rfl rfl (by omega)) (Wd_none rfl) rfl (by decide) ?_
      refine QB_all [13, 19] (by kernel_rfl) (by decide) ?_
      refine QBs_cons (listed' := #[true, true, true, true, true, true, true, true, true, true, true, true, true, true, true, true, true, true, true, false, false, false, false, false]) (by kernel_rfl) rfl ?_ ?_
      ·
        refine wv (fun W hm => rv_loadCk Try.underlying117 Try.type117 hK.symm rfl hm (by omega)) ?_
        refine WM_nil ?_
        refine QB_next (fun W hm => (hm).tail) ?_
        refine QB_one 19 (listed' := #[true, true, true, true, true, true, true, true, true, true, true, true, true, true, true, true, true, true, true, true, false, false, false, false]) (by kernel_rfl) rfl (by kernel_rfl) ?_
        refine wv (fun W hm => rv_loadCk Try.underlying117 Try.type117 hK.symm rfl hm (by omega)) ?_
        refine WM_nil ?_
        refine QB_next (fun W hm => (hm).tail) ?_
        refine QB_take 20 (listed' := #[true, true, true, true, true, true, true, true, true, true, true, true, true, true, true, true, true, true, true, true, true, false, false, false]) (by kernel_rfl) rfl (by kernel_rfl) (by kernel_rfl) (by kernel_rfl) (fun _ _ _ h => h) (fun W hm => rv_index (sz := K.s) (k := a + i) Try.underlying54 Try.type117 hK.symm rfl rfl (by omega)) (Wd_none rfl) rfl (by decide) ?_
        refine QB_one 21 (listed' := #[true, true, true, true, true, true, true, true, true, true, true, true, true, true, true, true, true, true, true, true, true, true, false, false]) (by kernel_rfl) rfl (by kernel_rfl) ?_
        refine WM_setEl (E := tCk K) (e := 117) (u := .agg (gt d (b + i)).1.toArray) (k := (a + i)) (p := g5) (n := n) (xs := d) (eis := []) (js := is) (yv := (gt d (b + i))) (fun W hm => hm) (fun _ _ hs => ⟨hs, rfl, (hR4 (b + i) (by omega))⟩) rfl Try.type117 hK.symm (by omega) rfl rfl (Wd_none rfl) ?_
        refine WM_nil ?_
        refine QB_next (fun W hm => (hm).tail) ?_
        refine QB_take 22 (listed' := #[true, true, true, true, true, true, true, true, true, true, true, true, true, true, true, true, true, true, true, true, true, true, true, false]) (by kernel_rfl) rfl (by kernel_rfl) (by kernel_rfl) (by kernel_rfl) (fun _ _ _ h => h) (fun W hm => rv_index (sz := K.s) (k := b + i) Try.underlying54 Try.type117 hK.symm rfl rfl (by omega)) (Wd_none rfl) rfl (by decide) ?_
        refine QB_one 23 (listed' := #[true, true, true, true, true, true, true, true, true, true, true, true, true, true, true, true, true, true, true, true, true, true, true, true]) (by kernel_rfl) rfl (by kernel_rfl) ?_
        refine WM_setEl (E := tCk K) (e := 117) (u := .agg (gt d (a + i)).1.toArray) (k := (b + i)) (p := g5) (n := n) (xs := (d.set (a + i) (gt d (b + i)))) (eis := []) (js := is) (yv := (gt d (a + i))) (fun W hm => hm) (fun _ _ hs => ⟨hs, rfl, (hR4 (a + i) (by omega))⟩) rfl Try.type117 hK.symm (by omega) rfl rfl (Wd_none rfl) ?_
        refine WM_nil ?_
        refine QB_next (fun W hm => (hm).tail) ?_
        refine QB_done (by kernel_rfl) ?_
        exact QM_cut_normal () (subL_cons rfl (subL_cons rfl (subL_cons rfl (subL_cons rfl (subL_cons rfl subL_nil))))) (fun W hm => hm) trivial
      refine QBs_cons (listed' := #[true, true, true, true, true, true, true, true, true, true, true, true, true, false, true, true, true, true, true, true, false, false, false, false]) (by kernel_rfl) rfl ?_ ?_
      ·
        refine wv (fun W hm => rv_loadCk Try.underlying117 Try.type117 hK.symm rfl hm (by omega)) ?_
        refine WM_nil ?_
        refine QB_next (fun W hm => (hm).tail) ?_
        refine QB_one 13 (listed' := #[true, true, true, true, true, true, true, true, true, true, true, true, true, true, true, true, true, true, true, true, false, false, false, false]) (by kernel_rfl) rfl (by kernel_rfl) ?_
        refine wv (fun W hm => rv_loadCk Try.underlying117 Try.type117 hK.symm rfl hm (by omega)) ?_
        refine WM_nil ?_
        refine QB_next (fun W hm => (hm).tail) ?_
        refine QB_take 20 (listed' := #[true, true, true, true, true, true, true, true, true, true, true, true, true, true, true, true, true, true, true, true, true, false, false, false]) (by kernel_rfl) rfl (by kernel_rfl) (by kernel_rfl) (by kernel_rfl) (fun _ _ _ h => h) (fun W hm => rv_index (sz := K.s) (k := a + i) Try.underlying54 Try.type117 hK.symm rfl rfl (by omega)) (Wd_none rfl) rfl (by decide) ?_
        refine QB_one 21 (listed' := #[true, true, true, true, true, true, true, true, true, true, true, true, true, true, true, true, true, true, true, true, true, true, false, false]) (by kernel_rfl) rfl (by kernel_rfl) ?_
        refine WM_setEl (E := tCk K) (e := 117) (u := .agg (gt d (b + i)).1.toArray) (k := (a + i)) (p := g5) (n := n) (xs := d) (eis := []) (js := is) (yv := (gt d (b + i))) (fun W hm => hm) (fun _ _ hs => ⟨hs, rfl, (hR4 (b + i) (by omega))⟩) rfl Try.type117 hK.symm (by omega) rfl rfl (Wd_none rfl) ?_
        refine WM_nil ?_
        refine QB_next (fun W hm => (hm).tail) ?_
        refine QB_take 22 (listed' := #[true, true, true, true, true, true, true, true, true, true, true, true, true, true, true, true, true, true, true, true, true, true, true, false]) (by kernel_rfl) rfl (by kernel_rfl) (by kernel_rfl) (by kernel_rfl) (fun _ _ _ h => h) (fun W hm => rv_index (sz := K.s) (k := b + i) Try.underlying54 Try.type117 hK.symm rfl rfl (by omega)) (Wd_none rfl) rfl (by decide) ?_
        refine QB_one 23 (listed' := #[true, true, true, true, true, true, true, true, true, true, true, true, true, true, true, true, true, true, true, true, true, true, true, true]) (by kernel_rfl) rfl (by kernel_rfl) ?_
        refine WM_setEl (E := tCk K) (e := 117) (u := .agg (gt d (a + i)).1.toArray) (k := (b + i)) (p := g5) (n := n) (xs := (d.set (a + i) (gt d (b + i)))) (eis := []) (js := is) (yv := (gt d (a + i))) (fun W hm => hm) (fun _ _ hs => ⟨hs, rfl, (hR4 (a + i) (by omega))⟩) rfl Try.type117 hK.symm (by omega) rfl rfl (Wd_none rfl) ?_
        refine WM_nil ?_
        refine QB_next (fun W hm => (hm).tail) ?_
        refine QB_done (by kernel_rfl) ?_
        exact QM_cut_normal () (subL_cons rfl (subL_cons rfl (subL_cons rfl (subL_cons rfl (subL_cons rfl subL_nil))))) (fun W hm => hm) trivial
      exact QBs_nil
    ·
      rintro ⟨⟩ -
      show QM 38 _ _ _ .normal [(0, .slice (some ⟨g5, 0, none⟩) n c), (1, .int .i64 ((a : Nat) : Int)), (2, .int .i64 ((b : Nat) : Int)), (3, .int .i64 ((k : Nat) : Int)), (10, .int .i64 ((i : Nat) : Int))] (iOwn (tSl (tCk K) 117) [.slice (some ⟨g5, 0, none⟩) n c] ((d.set (a + i) (gt d (b + i))).set (b + i) (gt d (a + i))) :: is)
      refine QM_block_normal ?_
      refine QM_then ?_
      refine CM_region ?_
      refine wm ?_
      refine wv (fun W hm => rv_addN (p := i) (q := 1) rfl rfl (by omega)) ?_
      refine wa ?_
      refine WM_nil ?_
      exact QM_round (i + 1, ((d.set (a + i) (gt d (b + i))).set (b + i) (gt d (a + i)))) (subL_cons rfl (subL_cons rfl (subL_cons rfl (subL_cons rfl (subL_cons rfl subL_nil))))) (fun W hm => hm) ⟨(show swr (k - (i + 1)) (a + (i + 1)) (b + (i + 1)) ((d.set (a + i) (gt d (b + i))).set (b + i) (gt d (a + i))) = swr k a b xs from (swr_step (by omega)).symm.trans hF), (show (i + 1) ≤ k from by omega)⟩ (show k - (i + 1) < k - i from by omega)
  · have g3 : (decide (((i : Nat) : Int) < ((k : Nat) : Int))) = false := decide_eq_false h2
    refine CM_condF rfl g3 ?_
    refine CM_exit ?_
    refine QM_then_exit ?_
    refine QM_then_exit ?_
    refine QM_block_hit ?_
    have hE : swr k a b xs = d := ((swr_end (by omega)).symm.trans hF).symm
    exact QM_ret0 rfl (fun W hm => ⟨rfl, by rw [hE]; exact hm⟩)

set_option maxRecDepth 100000 in
theorem cb132 : Cb Try.prog 132 := ⟨Try.f132, _, Try.func132, rfl, by decide⟩
set_option maxRecDepth 10000 in
set_option maxHeartbeats 4000000 in
theorem srt88_ins_c {α : Type} [Inhabited α] (K : Ck α) (hK : K.s = 4) (cf : α → α → Int) (fc : FuncId) (B : Nat) (w0 : World) (is : List It) (H : CmpOk Try.prog fc K B w0 is cf) (A : Option Addr) (n c : Nat) (hn : n ≤ 68719476736) (a : Nat) (b : Nat) (xs : List (List Value × α)) (h1 : a ≤ n) (h2 : b ≤ n) (w : World) (hm : Mem B w0 (iOwn (tSl (tCk K) 117) [.slice A n c] xs :: is) w) :
    Calls Try.prog 132 #[.slice A n c, .int .i64 ((a : Nat) : Int), .int .i64 ((b : Nat) : Int), .func (.func fc) #[] #[]] w fun e w' => e = .returned (.tuple #[]) ∧ Mem B w0 (iOwn (tSl (tCk K) 117) [.slice A n c] (insL (ltc cf) a (b - a - 1) (a + 1) xs) :: is) w' := by
  refine call_enterW (L := [(0, .slice A n c), (1, .int .i64 ((a : Nat) : Int)), (2, .int .i64 ((b : Nat) : Int)), (3, .func (.func fc) #[] #[])]) (N := 53) Try.func132 rfl rfl (Nat.le_of_ble_eq_true rfl) (argsL_cons rfl (argsL_cons rfl (argsL_cons rfl (argsL_cons rfl argsL_nil)))) hm ?_
  refine sr ?_
  refine wm ?_
  refine wv (fun W hm => rv_addN (p := a) (q := 1) rfl rfl (by omega)) ?_
  refine wa ?_
  refine nt' ?_
  refine CM_block ?_
  refine CM_loop (σ := Nat × List (List Value × α)) (fun s => [(0, .slice A n c), (1, .int .i64 ((a : Nat) : Int)), (2, .int .i64 ((b : Nat) : Int)), (3, .func (.func fc) #[] #[]), (8, .int .i64 ((s.1 : Nat) : Int))]) (fun s => (iOwn (tSl (tCk K) 117) [.slice A n c] s.2 :: is)) (fun s => insL (ltc cf) a (b - s.1) s.1 s.2 = insL (ltc cf) a (b - a - 1) (a + 1) xs ∧ a < s.1) (fun s => b - s.1) (a + 1, xs) (subL_cons rfl (subL_cons rfl (subL_cons rfl (subL_cons rfl (subL_cons rfl subL_nil))))) (fun W hm => hm) ⟨(show insL (ltc cf) a (b - (a + 1)) (a + 1) xs = insL (ltc cf) a (b - a - 1) (a + 1) xs from by rw [show b - (a + 1) = b - a - 1 by omega]), (show a < (a + 1) from by omega)⟩ ?_
  rintro ⟨i, d⟩ H1
  obtain ⟨hF, hai⟩ : insL (ltc cf) a (b - i) i d = insL (ltc cf) a (b - a - 1) (a + 1) xs ∧ a < i := H1
  show CM Try.prog 53 _ _ _ _ [(0, .slice A n c), (1, .int .i64 ((a : Nat) : Int)), (2, .int .i64 ((b : Nat) : Int)), (3, .func (.func fc) #[] #[]), (8, .int .i64 ((i : Nat) : Int))] (iOwn (tSl (tCk K) 117) [.slice A n c] d :: is)
  refine CM_seq ?_
  refine sr ?_
  refine wm ?_
  refine wm ?_
  refine wv (fun W hm => rv_lss rfl rfl) ?_
  refine nt' ?_
  by_cases h2 : ((i : Nat) : Int) < ((b : Nat) : Int)
  · have g3 : (decide (((i : Nat) : Int) < ((b : Nat) : Int))) = true := decide_eq_true h2
    refine CM_condT rfl g3 ?_
    refine CM_skip ?_
    refine QM_then ?_
    refine CM_seq ?_
    refine CM_block ?_
    refine sr ?_
    refine wm ?_
    refine wa ?_
    refine nt' ?_
    refine CM_block ?_
    refine CM_loop (σ := Nat × List (List Value × α)) (fun s => [(0, .slice A n c), (1, .int .i64 ((a : Nat) : Int)), (2, .int .i64 ((b : Nat) : Int)), (3, .func (.func fc) #[] #[]), (8, .int .i64 ((i : Nat) : Int)), (9, .int .i64 ((s.1 : Nat) : Int))]) (fun s => (iOwn (tSl (tCk K) 117) [.slice A n c] s.2 :: is)) (fun s => ins1 (ltc cf) a s.1 s.2 = ins1 (ltc cf) a i d ∧ s.1 ≤ i ∧ a ≤ s.1) (fun s => s.1) (i, d) (subL_cons rfl (subL_cons rfl (subL_cons rfl (subL_cons rfl (subL_cons rfl (subL_cons rfl subL_nil)))))) (fun W hm => hm) ⟨(show ins1 (ltc cf) a i d = ins1 (ltc cf) a i d from rfl), (show i ≤ i from by omega), (show a ≤ i from by omega)⟩ ?_
    rintro ⟨j, e⟩ H4
    obtain ⟨hG, hji, haj⟩ : ins1 (ltc cf) a j e = ins1 (ltc cf) a i d ∧ j ≤ i ∧ a ≤ j := H4
    show CM Try.prog 53 _ _ _ _ [(0, .slice A n c), (1, .int .i64 ((a : Nat) : Int)), (2, .int .i64 ((b : Nat) : Int)), (3, .func (.func fc) #[] #[]), (8, .int .i64 ((i : Nat) : Int)), (9, .int .i64 ((j : Nat) : Int))] (iOwn (tSl (tCk K) 117) [.slice A n c] e :: is)
    refine CM_seq ?_
    refine CM_seq ?_
    refine CM_formO (n := 0) rfl (by omega) ?_
    rintro g5 rfl
    refine CM_regionD (by kernel_rfl) (by kernel_rfl) ?_
    refine qm ?_
    refine qm ?_
    refine qv (fun W hm => rv_gtr rfl rfl) ?_
    refine qm ?_
    by_cases h6 : ((a : Nat) : Int) < ((j : Nat) : Int)
    · have g7 : (decide (((a : Nat) : Int) < ((j : Nat) : Int))) = true := decide_eq_true h6
      refine qg (fun W hm => rv_move rfl) g7 ?_
      refine qg (fun W hm => rv_move rfl) g7 ?_
      refine qg (fun W hm => rv_move rfl) g7 ?_
      refine qg (fun W hm => rv_index (sz := K.s) (k := j) Try.underlying54 Try.type117 hK.symm rfl rfl (by omega)) g7 ?_
      refine qg (fun W hm => rv_loadCk Try.underlying117 Try.type117 hK.symm rfl hm (by omega)) g7 ?_
      refine qg (fun W hm => rv_move rfl) g7 ?_
      refine qg (fun W hm => rv_move rfl) g7 ?_
      refine qg (fun W hm => rv_subN (p := j) (q := 1) rfl rfl (by omega) (by omega)) g7 ?_
      refine qg (fun W hm => rv_index (sz := K.s) (k := j - 1) Try.underlying54 Try.type117 hK.symm rfl rfl (by omega)) g7 ?_
      refine qg (fun W hm => rv_loadCk Try.underlying117 Try.type117 hK.symm rfl hm (by omega)) g7 ?_
      refine QR_callV (cl_val (first := []) (caps := []) (vs := [.agg (gt e j).1.toArray, .agg (gt e (j - 1)).1.toArray]) (args := [.agg (gt e j).1.toArray, .agg (gt e (j - 1)).1.toArray]) H.cb rfl rfl rfl) (fun W hm => H.go W (gt e j) (gt e (j - 1)) hm.tail (hm.ck (by omega)).1 (hm.ck (by omega)).1) (Wd_some rfl rfl rfl (bw g7 rfl)) (by decide) ?_
      refine qg (fun W hm => rv_lss rfl rfl) g7 ?_
      refine qv (fun W hm => rv_pickT rfl g7 rfl) ?_
      refine nq' ?_
      by_cases h8 : (cf (gt e j).2 (gt e (j - 1)).2) < 0
      · have g9 : (decide ((cf (gt e j).2 (gt e (j - 1)).2) < 0)) = true := decide_eq_true h8
        refine CM_condT rfl g9 ?_
        refine CM_skip ?_
        refine QM_then ?_
        refine CM_seq ?_
        refine CM_block ?_
        refine CM_ck ?_
        intro hR10
        refine CM_cut (σ := Unit) (fun _ => [(0, .slice (some ⟨g5, 0, none⟩) n c), (1, .int .i64 ((a : Nat) : Int)), (2, .int .i64 ((b : Nat) : Int)), (3, .func (.func fc) #[] #[]), (8, .int .i64 ((i : Nat) : Int)), (9, .int .i64 ((j : Nat) : Int))]) (fun _ => (iOwn (tSl (tCk K) 117) [.slice (some ⟨g5, 0, none⟩) n c] ((e.set j (gt e (j - 1))).set (j - 1) (gt e j)) :: is)) (fun _ => True) ?_ ?_
        ·
          refine CM_regionB (n := 18) (listed := #[false, false, false, false, false, false, false, false, false, false, false, false, false, false, false, false, false, false]) (s := (is)) (by kernel_rfl) rfl (by kernel_rfl) (fun W hm => (hm).tail) ?_
          refine QB_take 0 (listed' := #[true, false, false, false, false, false, false, false, false, false, false, false, false, false, false, false, false, false]) (by kernel_rfl) rfl (by kernel_rfl) (by kernel_rfl) (by kernel_rfl) (fun _ _ _ h => h) (fun W hm => rv_move rfl) (Wd_none rfl) rfl (by decide) ?_
          refine QB_take 1 (listed' := #[true, true, false, false, false, false, false, false, false, false, false, false, false, false, false, false, false, false]) (by kernel_rfl) rfl (by kernel_rfl) (by kernel_rfl) (by kernel_rfl) (fun _ _ _ h => h) (fun W hm => rv_move rfl) (Wd_none rfl) rfl (by decide) ?_
          refine QB_take 2 (listed' := #[true, true, true, false, false, false, false, false, false, false, false, false, false, false, false, false, false, false]) (by kernel_rfl) rfl (by kernel_rfl) (by kernel_rfl) (by kernel_rfl) (fun _ _ _ h => h) (fun W hm => rv_move rfl) (Wd_none rfl) rfl (by decide) ?_
          refine QB_take 3 (listed' := #[true, true, true, true, false, false, false, false, false, false, false, false, false, false, false, false, false, false]) (by kernel_rfl) rfl (by kernel_rfl) (by kernel_rfl) (by kernel_rfl) (fun _ _ _ h => h) (fun W hm => rv_move rfl) (Wd_none rfl) rfl (by decide) ?_
          refine QB_take 4 (listed' := #[true, true, true, true, true, false, false, false, false, false, false, false, false, false, false, false, false, false]) (by kernel_rfl) rfl (by kernel_rfl) (by kernel_rfl) (by kernel_rfl) (fun _ _ _ h => h) (fun W hm => rv_subN (p := j) (q := 1) rfl rfl (by omega) (by omega)) (Wd_none rfl) rfl (by decide) ?_
          refine QB_take 5 (listed' := #[true, true, true, true, true, true, false, false, false, false, false, false, false, false, false, false, false, false]) (by kernel_rfl) rfl (by kernel_rfl) (by kernel_rfl) (by kernel_rfl) (fun _ _ _ h => h) (fun W hm => rv_move rfl) (Wd_none rfl) rfl (by decide) ?_
          refine QB_take 6 (listed' := #[true, true, true, true, true, true, true, false, false, false, false, false, false, false, false, false, false, false]) (by kernel_rfl) rfl (by kernel_rfl) (by kernel_rfl) (by kernel_rfl) (fun _ _ _ h => h) (fun W hm => rv_move rfl) (Wd_none rfl) rfl (by decide) ?_
          refine QB_take 7 (listed' := #[true, true, true, true, true, true, true, true, false, false, false, false, false, false, false, false, false, false]) (by kernel_rfl) rfl (by kernel_rfl) (by kernel_rfl) (by kernel_rfl) (fun _ _ _ h => h) (fun W hm => rv_subN (p := j) (q := 1) rfl rfl (by omega) (by omega)) (Wd_none rfl) rfl (by decide) ?_
          refine QB_take 8 (listed' := #[true, true, true, true, true, true, true, true, true, false, false, false, false, false, false, false, false, false]) (by kernel_rfl) rfl (by kernel_rfl) (by kernel_rfl) (by kernel_rfl) (fun _ _ _ h => h) (fun W hm => rv_index (sz := K.s) (k := j - 1) Try.underlying54 Try.type117 hK.symm rfl rfl (by omega)) (Wd_none rfl) rfl (by decide) ?_
          refine QB_take 10 (listed' := #[true, true, true, true, true, true, true, true, true, false, true, false, false, false, false, false, false, false]) (by kernel_rfl) rfl (by kernel_rfl) (by kernel_rfl) (by kernel_rfl) (fun _ _ _ h => h) (fun W hm => rv_move rfl) (Wd_none rfl) rfl (by decide) ?_
          refine QB_take 11 (listed' := #[true, true, true, true, true, true, true, true, true, false, true, true, false, false, false, false, false, false]) (by kernel_rfl) rfl (by kernel_rfl) (by kernel_rfl) (by kernel_rfl) (fun _ _ _ h => h) (fun W hm => rv_move rfl) (Wd_none rfl) rfl (by decide) ?_
          refine QB_take 12 (listed' := #[true, true, true, true, true, true, true, true, true, false, true, true, true, false, false, false, false, false]) (by kernel_rfl) rfl (by kernel_rfl) (by kernel_rfl) (by kernel_rfl) (fun _ _ _ h => h) (fun W hm => rv_index (sz := K.s) (k := j) Try.underlying54 Try.type117 hK.symm rfl rfl (by omega)) (Wd_none rfl) rfl (by decide) ?_
          refine QB_all [9, 13] (by kernel_rfl) (by decide) ?_
          refine QBs_cons (listed' := #[true, true, true, true, true, true, true, true, true, true, true, true, true, false, false, false, false, false]) (by kernel_rfl) rfl ?_ ?_
          ·
            refine wv (fun W hm => rv_loadCk Try.underlying117 Try.type117 hK.symm rfl hm (by omega)) ?_
            refine WM_nil ?_
            refine QB_next (fun W hm => (hm).tail) ?_
            refine QB_one 13 (listed' := #[true, true, true, true, true, true, true, true, true, true, true, true, true, true, false, false, false, false]) (by kernel_rfl) rfl (by kernel_rfl) ?_
            refine wv (fun W hm => rv_loadCk Try.underlying117 Try.type117 hK.symm rfl hm (by omega)) ?_
            refine WM_nil ?_
            refine QB_next (fun W hm => (hm).tail) ?_
            refine QB_take 14 (listed' := #[true, true, true, true, true, true, true, true, true, true, true, true, true, true, true, false, false, false]) (by kernel_rfl) rfl (by kernel_rfl) (by kernel_rfl) (by kernel_rfl) (fun _ _ _ h => h) (fun W hm => rv_index (sz := K.s) (k := j) Try.underlying54 Try.type117 hK.symm rfl rfl (by omega)) (Wd_none rfl) rfl (by decide) ?_
            refine QB_one 15 (listed' := #[true, true, true, true, true, true, true, true, true, true, true, true, true, true, true, true, false, false]) (by kernel_rfl) rfl (by kernel_rfl) ?_
            refine WM_setEl (E := tCk K) (e := 117) (u := .agg (gt e (j - 1)).1.toArray) (k := j) (p := g5) (n := n) (xs := e) (eis := []) (js := is) (yv := (gt e (j - 1))) (fun W hm => hm) (fun _ _ hs => ⟨hs, rfl, (hR10 (j - 1) (by omega))⟩) rfl Try.type117 hK.symm (by omega) rfl rfl (Wd_none rfl) ?_
            refine WM_nil ?_
            refine QB_next (fun W hm => (hm).tail) ?_
            refine QB_take 16 (listed' := #[true, true, true, true, true, true, true, true, true, true, true, true, true, true, true, true, true, false]) (by kernel_rfl) rfl (by kernel_rfl) (by kernel_rfl) (by kernel_rfl) (fun _ _ _ h => h) (fun W hm => rv_index (sz := K.s) (k := j - 1) Try.underlying54 Try.type117 hK.symm rfl rfl (by omega)) (Wd_none rfl) rfl (by decide) ?_
            refine QB_one 17 (listed' := #[true, true, true, true, true, true, true, true, true, true, true, true, true, true, true, true, true, true]) (by kernel_rfl) rfl (by kernel_rfl) ?_
            refine WM_setEl (E := tCk K) (e := 117) (u := .agg (gt e j).1.toArray) (k := (j - 1)) (p := g5) (n := n) (xs := (e.set j (gt e (j - 1)))) (eis := []) (js := is) (yv := (gt e j)) (fun W hm => hm) (fun _ _ hs => ⟨hs, rfl, (hR10 j (by omega))⟩) rfl Try.type117 hK.symm (by omega) rfl rfl (Wd_none rfl) ?_
            refine WM_nil ?_
            refine QB_next (fun W hm => (hm).tail) ?_
            refine QB_done (by kernel_rfl) ?_
            exact QM_cut_normal () (subL_cons rfl (subL_cons rfl (subL_cons rfl (subL_cons rfl (subL_cons rfl (subL_cons rfl subL_nil)))))) (fun W hm => hm) trivial
          refine QBs_cons (listed' := #[true, true, true, true, true, true, true, true, true, false, true, true, true, true, false, false, false, false]) (by kernel_rfl) rfl ?_ ?_
          ·
            refine wv (fun W hm => rv_loadCk Try.underlying117 Try.type117 hK.symm rfl hm (by omega)) ?_
            refine WM_nil ?_
            refine QB_next (fun W hm => (hm).tail) ?_
            refine QB_one 9 (listed' := #[true, true, true, true, true, true, true, true, true, true, true, true, true, true, false, false, false, false]) (by kernel_rfl) rfl (by kernel_rfl) ?_
            refine wv (fun W hm => rv_loadCk Try.underlying117 Try.type117 hK.symm rfl hm (by omega)) ?_
            refine WM_nil ?_
            refine QB_next (fun W hm => (hm).tail) ?_
            refine QB_take 14 (listed' := #[true, true, true, true, true, true, true, true, true, true, true, true, true, true, true, false, false, false]) (by kernel_rfl) rfl (by kernel_rfl) (by kernel_rfl) (by kernel_rfl) (fun _ _ _ h => h) (fun W hm => rv_index (sz := K.s) (k := j) Try.underlying54 Try.type117 hK.symm rfl rfl (by omega)) (Wd_none rfl) rfl (by decide) ?_
            refine QB_one 15 (listed' := #[true, true, true, true, true, true, true, true, true, true, true, true, true, true, true, true, false, false]) (by kernel_rfl) rfl (by kernel_rfl) ?_
            refine WM_setEl (E := tCk K) (e := 117) (u := .agg (gt e (j - 1)).1.toArray) (k := j) (p := g5) (n := n) (xs := e) (eis := []) (js := is) (yv := (gt e (j - 1))) (fun W hm => hm) (fun _ _ hs => ⟨hs, rfl, (hR10 (j - 1) (by omega))⟩) rfl Try.type117 hK.symm (by omega) rfl rfl (Wd_none rfl) ?_
            refine WM_nil ?_
            refine QB_next (fun W hm => (hm).tail) ?_
            refine QB_take 16 (listed' := #[true, true, true, true, true, true, true, true, true, true, true, true, true, true, true, true, true, false]) (by kernel_rfl) rfl (by kernel_rfl) (by kernel_rfl) (by kernel_rfl) (fun _ _ _ h => h) (fun W hm => rv_index (sz := K.s) (k := j - 1) Try.underlying54 Try.type117 hK.symm rfl rfl (by omega)) (Wd_none rfl) rfl (by decide) ?_
            refine QB_one 17 (listed' := #[true, true, true, true, true, true, true, true, true, true, true, true, true, true, true, true, true, true]) (by kernel_rfl) rfl (by kernel_rfl) ?_
            refine WM_setEl (E := tCk K) (e := 117) (u := .agg (gt e j).1.toArray) (k := (j - 1)) (p := g5) (n := n) (xs := (e.set j (gt e (j - 1)))) (eis := []) (js := is) (yv := (gt e j)) (fun W hm => hm) (fun _ _ hs => ⟨hs, rfl, (hR10 j (by omega))⟩) rfl Try.type117 hK.symm (by omega) rfl rfl (Wd_none rfl) ?_
            refine WM_nil ?_
            refine QB_next (fun W hm => (hm).tail) ?_
            refine QB_done (by kernel_rfl) ?_
            exact QM_cut_normal () (subL_cons rfl (subL_cons rfl (subL_cons rfl (subL_cons rfl (subL_cons rfl (subL_cons rfl subL_nil)))))) (fun W hm => hm) trivial
          exact QBs_nil
        ·
          rintro ⟨⟩ -
          show QM 53 _ _ _ .normal [(0, .slice (some ⟨g5, 0, none⟩) n c), (1, .int .i64 ((a : Nat) : Int)), (2, .int .i64 ((b : Nat) : Int)), (3, .func (.func fc) #[] #[]), (8, .int .i64 ((i : Nat) : Int)), (9, .int .i64 ((j : Nat) : Int))] (iOwn (tSl (tCk K) 117) [.slice (some ⟨g5, 0, none⟩) n c] ((e.set j (gt e (j - 1))).set (j - 1) (gt e j)) :: is)
          refine QM_block_normal ?_
          refine QM_then ?_
          refine CM_region ?_
          refine wm ?_
          refine wv (fun W hm => rv_subN (p := j) (q := 1) rfl rfl (by omega) (by omega)) ?_
          refine wa ?_
          refine WM_nil ?_
          exact QM_round (j - 1, ((e.set j (gt e (j - 1))).set (j - 1) (gt e j))) (subL_cons rfl (subL_cons rfl (subL_cons rfl (subL_cons rfl (subL_cons rfl (subL_cons rfl subL_nil)))))) (fun W hm => hm) ⟨(show ins1 (ltc cf) a (j - 1) ((e.set j (gt e (j - 1))).set (j - 1) (gt e j)) = ins1 (ltc cf) a i d from (ins1_t (by omega) (show decide (cf (gt e j).2 (gt e (j - 1)).2 < 0) = true from decide_eq_true (by omega))).symm.trans hG), (show (j - 1) ≤ i from by omega), (show a ≤ (j - 1) from by omega)⟩ (show (j - 1) < j from by omega)
      · have g9 : (decide ((cf (gt e j).2 (gt e (j - 1)).2) < 0)) = false := decide_eq_false h8
        refine CM_condF rfl g9 ?_
        refine CM_exit ?_
        refine QM_then_exit ?_
        refine QM_then_exit ?_
        refine QM_block_hit ?_
        refine QM_block_normal ?_
        refine QM_then ?_
        refine CM_region ?_
        refine wm ?_
        refine wv (fun W hm => rv_addN (p := i) (q := 1) rfl rfl (by omega)) ?_
        refine wa ?_
        refine WM_nil ?_
        exact QM_round (i + 1, e) (subL_cons rfl (subL_cons rfl (subL_cons rfl (subL_cons rfl (subL_cons rfl subL_nil))))) (fun W hm => hm) ⟨(show insL (ltc cf) a (b - (i + 1)) (i + 1) e = insL (ltc cf) a (b - a - 1) (a + 1) xs from (congrArg (insL (ltc cf) a (b - (i + 1)) (i + 1)) ((ins1_f (by rintro ⟨q1, q2⟩; have q3 := of_decide_eq_true (p := cf (gt e j).2 (gt e (j - 1)).2 < 0) q2; omega)).symm.trans hG)).trans ((insL_step (by omega)).symm.trans hF)), (show a < (i + 1) from by omega)⟩ (show b - (i + 1) < b - i from by omega)
    · have g7 : (decide (((a : Nat) : Int) < ((j : Nat) : Int))) = false := decide_eq_false h6
      refine qs g7 ?_
      refine qs g7 ?_
      refine qs g7 ?_
      refine qs g7 ?_
      refine qs g7 ?_
      refine qs g7 ?_
      refine qs g7 ?_
      refine qs g7 ?_
      refine qs g7 ?_
      refine qs g7 ?_
      refine qs g7 ?_
      refine qs g7 ?_
      refine qv (fun W hm => rv_pickF rfl g7 rfl) ?_
      refine nq' ?_
      refine CM_condF rfl rfl ?_
      refine CM_exit ?_
      refine QM_then_exit ?_
      refine QM_then_exit ?_
      refine QM_block_hit ?_
      refine QM_block_normal ?_
      refine QM_then ?_
      refine CM_region ?_
      refine wm ?_
      refine wv (fun W hm => rv_addN (p := i) (q := 1) rfl rfl (by omega)) ?_
      refine wa ?_
      refine WM_nil ?_
      exact QM_round (i + 1, e) (subL_cons rfl (subL_cons rfl (subL_cons rfl (subL_cons rfl (subL_cons rfl subL_nil))))) (fun W hm => hm) ⟨(show insL (ltc cf) a (b - (i + 1)) (i + 1) e = insL (ltc cf) a (b - a - 1) (a + 1) xs from (congrArg (insL (ltc cf) a (b - (i + 1)) (i + 1)) ((ins1_f (by rintro ⟨q1, q2⟩; have q3 := of_decide_eq_true (p := cf (gt e j).2 (gt e (j - 1)).2 < 0) q2; omega)).symm.trans hG)).trans ((insL_step (by omega)).symm.trans hF)), (show a < (i + 1) from by omega)⟩ (show b - (i + 1) < b - i from by omega)
  · have g3 : (decide (((i : Nat) : Int) < ((b : Nat) : Int))) = false := decide_eq_false h2
    refine CM_condF rfl g3 ?_
    refine CM_exit ?_
    refine QM_then_exit ?_
    refine QM_then_exit ?_
    refine QM_block_hit ?_
    have hE : insL (ltc cf) a (b - a - 1) (a + 1) xs = d := ((insL_end (by omega)).symm.trans hF).symm
    exact QM_ret0 rfl (fun W hm => ⟨rfl, by rw [hE]; exact hm⟩)

set_option maxRecDepth 100000 in
theorem cb137 : Cb Try.prog 137 := ⟨Try.f137, _, Try.func137, rfl, by decide⟩
set_option maxRecDepth 10000 in
set_option maxHeartbeats 4000000 in
theorem srt88_rot_c {α : Type} [Inhabited α] (K : Ck α) (hK : K.s = 4) (cf : α → α → Int) (fc : FuncId) (B : Nat) (w0 : World) (is : List It) (H : CmpOk Try.prog fc K B w0 is cf) (A : Option Addr) (n c : Nat) (hn : n ≤ 68719476736) (a : Nat) (m : Nat) (b : Nat) (xs : List (List Value × α)) (h1 : a < m) (h2 : m < b) (h3 : b ≤ n) (w : World) (hm : Mem B w0 (iOwn (tSl (tCk K) 117) [.slice A n c] xs :: is) w) :
    Calls Try.prog 137 #[.slice A n c, .int .i64 ((a : Nat) : Int), .int .i64 ((m : Nat) : Int), .int .i64 ((b : Nat) : Int), .func (.func fc) #[] #[]] w fun e w' => e = .returned (.tuple #[]) ∧ Mem B w0 (iOwn (tSl (tCk K) 117) [.slice A n c] (rot (b - a) m (m - a) (b - m) xs) :: is) w' := by
  refine call_enterW (L := [(0, .slice A n c), (1, .int .i64 ((a : Nat) : Int)), (2, .int .i64 ((m : Nat) : Int)), (3, .int .i64 ((b : Nat) : Int)), (4, .func (.func fc) #[] #[])]) (N := 58) Try.func137 rfl rfl (Nat.le_of_ble_eq_true rfl) (argsL_cons rfl (argsL_cons rfl (argsL_cons rfl (argsL_cons rfl (argsL_cons rfl argsL_nil))))) hm ?_
  refine sr ?_
  refine wm ?_
  refine wm ?_
  refine wv (fun W hm => rv_subN (p := m) (q := a) rfl rfl (by omega) (by omega)) ?_
  refine wa ?_
  refine nt' ?_
  refine sr ?_
  refine wm ?_
  refine wm ?_
  refine wv (fun W hm => rv_subN (p := b) (q := m) rfl rfl (by omega) (by omega)) ?_
  refine wa ?_
  refine nt' ?_
  refine CM_seq ?_
  refine CM_block ?_
  refine CM_loop (σ := Nat × Nat × Nat × List (List Value × α)) (fun s => [(0, .slice A n c), (2, .int .i64 ((m : Nat) : Int)), (4, .func (.func fc) #[] #[]), (10, .int .i64 ((s.1 : Nat) : Int)), (11, .int .i64 ((s.2.1 : Nat) : Int))]) (fun s => (iOwn (tSl (tCk K) 117) [.slice A n c] s.2.2.2 :: is)) (fun s => rot s.2.2.1 m s.1 s.2.1 s.2.2.2 = rot (b - a) m (m - a) (b - m) xs ∧ s.1 + s.2.1 ≤ s.2.2.1 ∧ 0 < s.1 ∧ 0 < s.2.1 ∧ a + s.1 ≤ m ∧ m + s.2.1 ≤ b) (fun s => s.1 + s.2.1) (m - a, b - m, b - a, xs) (subL_cons rfl (subL_cons rfl (subL_cons rfl (subL_cons rfl (subL_cons rfl subL_nil))))) (fun W hm => hm) ⟨(show rot (b - a) m (m - a) (b - m) xs = rot (b - a) m (m - a) (b - m) xs from rfl), (show (m - a) + (b - m) ≤ (b - a) from by omega), (show 0 < (m - a) from by omega), (show 0 < (b - m) from by omega), (show a + (m - a) ≤ m from by omega), (show m + (b - m) ≤ b from by omega)⟩ ?_
  rintro ⟨i, j, f, d⟩ H1
  obtain ⟨hF, hf5, hf6, hf7, hf8, hf9⟩ : rot f m i j d = rot (b - a) m (m - a) (b - m) xs ∧ i + j ≤ f ∧ 0 < i ∧ 0 < j ∧ a + i ≤ m ∧ m + j ≤ b := H1
  show CM Try.prog 58 _ _ _ _ [(0, .slice A n c), (2, .int .i64 ((m : Nat) : Int)), (4, .func (.func fc) #[] #[]), (10, .int .i64 ((i : Nat) : Int)), (11, .int .i64 ((j : Nat) : Int))] (iOwn (tSl (tCk K) 117) [.slice A n c] d :: is)
  refine CM_seq ?_
  refine sr ?_
  refine wm ?_
  refine wm ?_
  refine wv (fun W hm => rv_neq rfl rfl) ?_
  refine nt' ?_
  by_cases h2 : ((i : Nat) : Int) = ((j : Nat) : Int)
  · have g3 : (((i : Nat) : Int) != ((j : Nat) : Int)) = false := by rw [h2]; exact bne_self_eq_false _
    refine CM_condF rfl g3 ?_
    refine CM_exit ?_
    refine QM_then_exit ?_
    refine QM_then_exit ?_
    refine QM_block_hit ?_
    refine QM_then ?_
    refine CM_region ?_
    refine wm ?_
    refine wm ?_
    refine wm ?_
    refine wv (fun W hm => rv_subN (p := m) (q := i) rfl rfl (by omega) (by omega)) ?_
    refine wm ?_
    refine wm ?_
    refine wm ?_
    refine WM_callW (χ := Unit) (val := fun _ => .tuple #[]) (js := fun _ => (iOwn (tSl (tCk K) 117) [.slice A n c] (swr i (m - i) m d) :: is)) (cl_fn cb140 rfl) (fun W hm => (srt88_swr_c K hK cf fc B w0 is H A n c hn (m - i) m i d (by omega) (by omega) W hm).mono (fun _ _ h => ⟨(), h.1, h.2⟩)) (Wd_none rfl) (by decide) (fun _ => ?_)
    refine WM_nil ?_
    have hE : rot (b - a) m (m - a) (b - m) xs = (swr i (m - i) m d) := ((rot_eq (by omega) hf5 hf6).symm.trans hF).symm
    exact QM_ret0 rfl (fun W hm => ⟨rfl, by rw [hE]; exact hm⟩)
  · have g3 : (((i : Nat) : Int) != ((j : Nat) : Int)) = true := bne_iff_ne.2 h2
    refine CM_condT rfl g3 ?_
    refine CM_skip ?_
    refine QM_then ?_
    refine CM_block ?_
    refine sr ?_
    refine wm ?_
    refine wm ?_
    refine wv (fun W hm => rv_gtr rfl rfl) ?_
    refine nt' ?_
    by_cases h4 : ((j : Nat) : Int) < ((i : Nat) : Int)
    · have g5 : (decide (((j : Nat) : Int) < ((i : Nat) : Int))) = true := decide_eq_true h4
      refine CM_condT rfl g5 ?_
      refine sr ?_
      refine wm ?_
      refine wm ?_
      refine wm ?_
      refine wv (fun W hm => rv_subN (p := m) (q := i) rfl rfl (by omega) (by omega)) ?_
      refine wm ?_
      refine wm ?_
      refine wm ?_
      refine WM_callW (χ := Unit) (val := fun _ => .tuple #[]) (js := fun _ => (iOwn (tSl (tCk K) 117) [.slice A n c] (swr j (m - i) m d) :: is)) (cl_fn cb140 rfl) (fun W hm => (srt88_swr_c K hK cf fc B w0 is H A n c hn (m - i) m j d (by omega) (by omega) W hm).mono (fun _ _ h => ⟨(), h.1, h.2⟩)) (Wd_none rfl) (by decide) (fun _ => ?_)
      refine nt' ?_
      refine CM_region ?_
      refine wm ?_
      refine wm ?_
      refine wv (fun W hm => rv_subN (p := i) (q := j) rfl rfl (by omega) (by omega)) ?_
      refine wa ?_
      refine WM_nil ?_
      refine QM_block_normal ?_
      exact QM_round (i - j, j, f - 1, (swr j (m - i) m d)) (subL_cons rfl (subL_cons rfl (subL_cons rfl (subL_cons rfl (subL_cons rfl subL_nil))))) (fun W hm => hm) ⟨(show rot (f - 1) m (i - j) j (swr j (m - i) m d) = rot (b - a) m (m - a) (b - m) xs from (rot_gt (by omega) hf5).symm.trans hF), (show (i - j) + j ≤ (f - 1) from by omega), (show 0 < (i - j) from by omega), (show 0 < j from by omega), (show a + (i - j) ≤ m from by omega), (show m + j ≤ b from by omega)⟩ (show (i - j) + j < i + j from by omega)
    · have g5 : (decide (((j : Nat) : Int) < ((i : Nat) : Int))) = false := decide_eq_false h4
      refine CM_condF rfl g5 ?_
      refine sr ?_
      refine wm ?_
      refine wm ?_
      refine wm ?_
      refine wv (fun W hm => rv_subN (p := m) (q := i) rfl rfl (by omega) (by omega)) ?_
      refine wm ?_
      refine wm ?_
      refine wv (fun W hm => rv_addN (p := m) (q := j) rfl rfl (by omega)) ?_
      refine wm ?_
      refine wv (fun W hm => rv_subN (p := m + j) (q := i) rfl rfl (by omega) (by omega)) ?_
      refine wm ?_
      refine wm ?_
      refine WM_callW (χ := Unit) (val := fun _ => .tuple #[]) (js := fun _ => (iOwn (tSl (tCk K) 117) [.slice A n c] (swr i (m - i) (m + j - i) d) :: is)) (cl_fn cb140 rfl) (fun W hm => (srt88_swr_c K hK cf fc B w0 is H A n c hn (m - i) (m + j - i) i d (by omega) (by omega) W hm).mono (fun _ _ h => ⟨(), h.1, h.2⟩)) (Wd_none rfl) (by decide) (fun _ => ?_)
      refine nt' ?_
      refine CM_region ?_
      refine wm ?_
      refine wm ?_
      refine wv (fun W hm => rv_subN (p := j) (q := i) rfl rfl (by omega) (by omega)) ?_
      refine wa ?_
      refine WM_nil ?_
      refine QM_block_normal ?_
      exact QM_round (i, j - i, f - 1, (swr i (m - i) (m + j - i) d)) (subL_cons rfl (subL_cons rfl (subL_cons rfl (subL_cons rfl (subL_cons rfl subL_nil))))) (fun W hm => hm) ⟨(show rot (f - 1) m i (j - i) (swr i (m - i) (m + j - i) d) = rot (b - a) m (m - a) (b - m) xs from (rot_lt (by omega) hf5).symm.trans hF), (show i + (j - i) ≤ (f - 1) from by omega), (show 0 < i from by omega), (show 0 < (j - i) from by omega), (show a + i ≤ m from by omega), (show m + (j - i) ≤ b from by omega)⟩ (show i + (j - i) < i + j from by omega)

end Go.Proofs.Ytjcdginailhfmaa
