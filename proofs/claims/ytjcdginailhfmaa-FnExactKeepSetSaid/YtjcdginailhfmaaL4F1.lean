/-
  Contracts of functions, printed by a program of ours.
-/
import Derived.Test.YtjcdginailhfmaaDat
namespace Go.Proofs.Ytjcdginailhfmaa
open Go.RowKit
def laws_szIntS_m (x0 : (List Int)) (x1 : Int) : Int :=
  cond (decide ((IntKind.i64.wrap (x1 - ((x0.length : Nat) : Int))) < 0)) (-1) (IntKind.i64.wrap (x1 - ((x0.length : Nat) : Int)))
theorem cb102 : Cb Try.prog 102 := ⟨Try.f102, _, Try.func102, rfl, by decide⟩
set_option maxRecDepth 10000 in
set_option maxHeartbeats 4000000 in
theorem laws_szIntS_c (w : World) (z0 : Value) (x0 : (List Int)) (x1 : Int) (r_0 : rdS tInt w w.heap.size z0 x0) :
    Calls Try.prog 102 #[z0, .int .i64 x1] w fun e w' => e = .returned (.int .i64 (laws_szIntS_m x0 x1)) ∧ Below w.heap.size w w' := by
  have r5 := r_0
  obtain ⟨m1, A2, c3, rfl, q4⟩ := r_0
  refine call_enterM (L := [(0, .slice A2 x0.length c3), (1, .int .i64 x1)]) (N := 12) Try.func102 rfl rfl (Nat.le_of_ble_eq_true rfl) (argsL_cons rfl (argsL_cons rfl argsL_nil)) ?_
  refine sr ?_
  refine wa ?_
  refine nt' ?_
  refine sr ?_
  refine wm ?_
  refine wm ?_
  refine wv (fun W hm => rv_len Try.underlying33 rfl) ?_
  refine wv (fun W hm => rv_sub rfl rfl) ?_
  refine wa ?_
  refine nt' ?_
  refine CM_seq ?_
  refine sr ?_
  refine wm ?_
  refine wv (fun W hm => rv_lss rfl rfl) ?_
  refine nt' ?_
  by_cases h6 : (IntKind.i64.wrap (x1 - ((x0.length : Nat) : Int))) < 0
  · have g7 : (decide ((IntKind.i64.wrap (x1 - ((x0.length : Nat) : Int))) < 0)) = true := decide_eq_true h6
    refine CM_condT rfl g7 ?_
    refine sr ?_
    refine wa ?_
    refine nt' ?_
    refine CM_ret ?_
    refine QM_then_ret ?_
    exact QM_ret1 rfl rfl (fun W hm => ⟨ret_i (show laws_szIntS_m x0 x1 = (-1) from by unfold laws_szIntS_m; exact cond_t g7 (rfl)), hm.below⟩)
  · have g7 : (decide ((IntKind.i64.wrap (x1 - ((x0.length : Nat) : Int))) < 0)) = false := decide_eq_false h6
    refine CM_condF rfl g7 ?_
    refine CM_skip ?_
    refine QM_then ?_
    refine sr ?_
    refine wm ?_
    refine wa ?_
    refine nt' ?_
    refine CM_ret ?_
    exact QM_ret1 rfl rfl (fun W hm => ⟨ret_i (show laws_szIntS_m x0 x1 = (IntKind.i64.wrap (x1 - ((x0.length : Nat) : Int))) from by unfold laws_szIntS_m; exact cond_f g7 (rfl)), hm.below⟩)

def laws_szRow_m (x0 : DRow) (x1 : Int) : Int :=
  cond (decide ((laws_szIntS_m x0.Values x1) < 0)) (-1) (laws_szIntS_m x0.Values x1)
theorem cb79 : Cb Try.prog 79 := ⟨Try.f79, _, Try.func79, rfl, by decide⟩
set_option maxRecDepth 10000 in
set_option maxHeartbeats 4000000 in
theorem laws_szRow_c (w : World) (z0 : List Value) (x0 : DRow) (x1 : Int) (r_0 : tyLRow.rd w w.heap.size z0 x0) :
    Calls Try.prog 79 #[.agg z0.toArray, .int .i64 x1] w fun e w' => e = .returned (.int .i64 (laws_szRow_m x0 x1)) ∧ Below w.heap.size w w' := by
  obtain ⟨v1, rfl, r2⟩ := tyLRow_rd r_0
  have r7 := r2
  obtain ⟨m3, A4, c5, rfl, q6⟩ := r2
  refine call_enterM (L := [(0, .agg #[.int .i64 x0.Id, .slice A4 x0.Values.length c5]), (1, .int .i64 x1)]) (N := 12) Try.func79 rfl rfl (Nat.le_of_ble_eq_true rfl) (argsL_cons rfl (argsL_cons rfl argsL_nil)) ?_
  refine sr ?_
  refine WM_box rfl (Wd_none rfl) (by decide) (fun p8 => ?_)
  refine wa ?_
  refine nt' ?_
  refine sr ?_
  refine wv (fun W hm => rv_field Try.underlying63 rfl Try.type33 (by decide) rfl rfl) ?_
  refine wv (fun W hm => rv_load Try.underlying33 rfl rfl (hm.boxCell (n := 0) (o := 1) rfl rfl)) ?_
  refine wm ?_
  refine WM_callV (cl_fn cb102 rfl) (fun W hm => laws_szIntS_c W _ x0.Values x1 (hm.rdS0 r7)) (Wd_none rfl) (by decide) ?_
  refine wa ?_
  refine nt' ?_
  refine CM_seq ?_
  refine sr ?_
  refine wm ?_
  refine wv (fun W hm => rv_lss rfl rfl) ?_
  refine nt' ?_
  by_cases h9 : (laws_szIntS_m x0.Values x1) < 0
  · have g10 : (decide ((laws_szIntS_m x0.Values x1) < 0)) = true := decide_eq_true h9
    refine CM_condT rfl g10 ?_
    refine sr ?_
    refine wa ?_
    refine nt' ?_
    refine CM_ret ?_
    refine QM_then_ret ?_
    exact QM_ret1 rfl rfl (fun W hm => ⟨ret_i (show laws_szRow_m x0 x1 = (-1) from by unfold laws_szRow_m; exact cond_t g10 (rfl)), hm.below⟩)
  · have g10 : (decide ((laws_szIntS_m x0.Values x1) < 0)) = false := decide_eq_false h9
    refine CM_condF rfl g10 ?_
    refine CM_skip ?_
    refine QM_then ?_
    refine sr ?_
    refine wm ?_
    refine wa ?_
    refine nt' ?_
    refine CM_ret ?_
    exact QM_ret1 rfl rfl (fun W hm => ⟨ret_i (show laws_szRow_m x0 x1 = (laws_szIntS_m x0.Values x1) from by unfold laws_szRow_m; exact cond_f g10 (rfl)), hm.below⟩)

def laws_szAnnotated_m (x0 : DAnnotated) (x1 : Int) : Int :=
  cond (decide ((laws_szRow_m x0.Row x1) < 0)) (-1) (cond (decide ((laws_szIntS_m x0.Set (laws_szRow_m x0.Row x1)) < 0)) (-1) (laws_szIntS_m x0.Set (laws_szRow_m x0.Row x1)))
theorem cb56 : Cb Try.prog 56 := ⟨Try.f56, _, Try.func56, rfl, by decide⟩
set_option maxRecDepth 10000 in
set_option maxHeartbeats 4000000 in
theorem laws_szAnnotated_c (w : World) (z0 : List Value) (x0 : DAnnotated) (x1 : Int) (r_0 : tyLAnnotated.rd w w.heap.size z0 x0) :
    Calls Try.prog 56 #[.agg z0.toArray, .int .i64 x1] w fun e w' => e = .returned (.int .i64 (laws_szAnnotated_m x0 x1)) ∧ Below w.heap.size w w' := by
  obtain ⟨v1, v3, rfl, r2, r4⟩ := tyLAnnotated_rd r_0
  have r9 := r2
  obtain ⟨m5, A6, c7, rfl, q8⟩ := r2
  have r14 := r4
  obtain ⟨m10, A11, c12, rfl, q13⟩ := r4
  refine call_enterM (L := [(0, .agg #[.int .i64 x0.Row.Id, .slice A6 x0.Row.Values.length c7, .slice A11 x0.Set.length c12]), (1, .int .i64 x1)]) (N := 18) Try.func56 rfl rfl (Nat.le_of_ble_eq_true rfl) (argsL_cons rfl (argsL_cons rfl argsL_nil)) ?_
  refine sr ?_
  refine WM_box rfl (Wd_none rfl) (by decide) (fun p15 => ?_)
  refine wa ?_
  refine nt' ?_
  refine sr ?_
  refine wv (fun W hm => rv_field Try.underlying88 rfl Try.type63 (by decide) rfl rfl) ?_
  refine wv (fun W hm => rv_loadN (cs := [.int .i64 x0.Row.Id, .slice A6 x0.Row.Values.length c7]) Try.underlying63 Try.type63 rfl rfl (hm.boxPart (n := 0) rfl rfl)) ?_
  refine wm ?_
  refine WM_callV (cl_fn cb79 rfl) (fun W hm => laws_szRow_c W _ x0.Row x1 (tyLRow_mk (x := x0.Row) (hm.rdS0 r9))) (Wd_none rfl) (by decide) ?_
  refine wa ?_
  refine nt' ?_
  refine CM_seq ?_
  refine sr ?_
  refine wm ?_
  refine wv (fun W hm => rv_lss rfl rfl) ?_
  refine nt' ?_
  by_cases h16 : (laws_szRow_m x0.Row x1) < 0
  · have g17 : (decide ((laws_szRow_m x0.Row x1) < 0)) = true := decide_eq_true h16
    refine CM_condT rfl g17 ?_
    refine sr ?_
    refine wa ?_
    refine nt' ?_
    refine CM_ret ?_
    refine QM_then_ret ?_
    exact QM_ret1 rfl rfl (fun W hm => ⟨ret_i (show laws_szAnnotated_m x0 x1 = (-1) from by unfold laws_szAnnotated_m; exact cond_t g17 (rfl)), hm.below⟩)
  · have g17 : (decide ((laws_szRow_m x0.Row x1) < 0)) = false := decide_eq_false h16
    refine CM_condF rfl g17 ?_
    refine CM_skip ?_
    refine QM_then ?_
    refine sr ?_
    refine wv (fun W hm => rv_field Try.underlying88 rfl Try.type33 (by decide) rfl rfl) ?_
    refine wv (fun W hm => rv_load Try.underlying33 rfl rfl (hm.boxCell (n := 0) (o := 2) rfl rfl)) ?_
    refine wm ?_
    refine WM_callV (cl_fn cb102 rfl) (fun W hm => laws_szIntS_c W _ x0.Set (laws_szRow_m x0.Row x1) (hm.rdS0 r14)) (Wd_none rfl) (by decide) ?_
    refine wa ?_
    refine nt' ?_
    refine CM_seq ?_
    refine sr ?_
    refine wm ?_
    refine wv (fun W hm => rv_lss rfl rfl) ?_
    refine nt' ?_
    by_cases h18 : (laws_szIntS_m x0.Set (laws_szRow_m x0.Row x1)) < 0
    · have g19 : (decide ((laws_szIntS_m x0.Set (laws_szRow_m x0.Row x1)) < 0)) = true := decide_eq_true h18
      refine CM_condT rfl g19 ?_
      refine sr ?_
      refine wa ?_
      refine nt' ?_
      refine CM_ret ?_
      refine QM_then_ret ?_
      exact QM_ret1 rfl rfl (fun W hm => ⟨ret_i (show laws_szAnnotated_m x0 x1 = (-1) from by unfold laws_szAnnotated_m; exact cond_f g17 (cond_t g19 (rfl))), hm.below⟩)
    · have g19 : (decide ((laws_szIntS_m x0.Set (laws_szRow_m x0.Row x1)) < 0)) = false := decide_eq_false h18
      refine CM_condF rfl g19 ?_
      refine CM_skip ?_
      refine QM_then ?_
      refine sr ?_
      refine wm ?_
      refine wa ?_
      refine nt' ?_
      refine CM_ret ?_
      exact QM_ret1 rfl rfl (fun W hm => ⟨ret_i (show laws_szAnnotated_m x0 x1 = (laws_szIntS_m x0.Set (laws_szRow_m x0.Row x1)) from by unfold laws_szAnnotated_m; exact cond_f g17 (cond_f g19 (rfl))), hm.below⟩)

def laws_szAnnotatedS_b1 (x0 : (List DAnnotated)) (k8 : Nat) (s9 : Int) : Int ⊕ (Int) :=
  cond (decide ((laws_szAnnotated_m (gt x0 k8) s9) < 0)) (Sum.inl (-1)) (Sum.inr (laws_szAnnotated_m (gt x0 k8) s9))
def laws_szAnnotatedS_m (x0 : (List DAnnotated)) (x1 : Int) : Int :=
  cond (decide ((IntKind.i64.wrap (x1 - ((x0.length : Nat) : Int))) < 0)) (-1) (Sum.elim id (fun (s : Int) => s) (rng (R := Int) (fun k (s : Int) => laws_szAnnotatedS_b1 x0 k s) (x0.length - 0) 0 (IntKind.i64.wrap (x1 - ((x0.length : Nat) : Int)))))
theorem cb11 : Cb Try.prog 11 := ⟨Try.f11, _, Try.func11, rfl, by decide⟩
set_option maxRecDepth 10000 in
set_option maxHeartbeats 4000000 in
theorem laws_szAnnotatedS_c (w : World) (z0 : Value) (x0 : (List DAnnotated)) (x1 : Int) (r_0 : rdS tyLAnnotated w w.heap.size z0 x0) :
    Calls Try.prog 11 #[z0, .int .i64 x1] w fun e w' => e = .returned (.int .i64 (laws_szAnnotatedS_m x0 x1)) ∧ Below w.heap.size w w' := by
  have r5 := r_0
  obtain ⟨m1, A2, c3, rfl, q4⟩ := r_0
  refine call_enterM (L := [(0, .slice A2 x0.length c3), (1, .int .i64 x1)]) (N := 27) Try.func11 rfl rfl (Nat.le_of_ble_eq_true rfl) (argsL_cons rfl (argsL_cons rfl argsL_nil)) ?_
  refine sr ?_
  refine wa ?_
  refine nt' ?_
  refine sr ?_
  refine wm ?_
  refine wm ?_
  refine wv (fun W hm => rv_len Try.underlying22 rfl) ?_
  refine wv (fun W hm => rv_sub rfl rfl) ?_
  refine wa ?_
  refine nt' ?_
  refine CM_seq ?_
  refine sr ?_
  refine wm ?_
  refine wv (fun W hm => rv_lss rfl rfl) ?_
  refine nt' ?_
  by_cases h6 : (IntKind.i64.wrap (x1 - ((x0.length : Nat) : Int))) < 0
  · have g7 : (decide ((IntKind.i64.wrap (x1 - ((x0.length : Nat) : Int))) < 0)) = true := decide_eq_true h6
    refine CM_condT rfl g7 ?_
    refine sr ?_
    refine wa ?_
    refine nt' ?_
    refine CM_ret ?_
    refine QM_then_ret ?_
    exact QM_ret1 rfl rfl (fun W hm => ⟨ret_i (show laws_szAnnotatedS_m x0 x1 = (-1) from by unfold laws_szAnnotatedS_m; exact cond_t g7 (rfl)), hm.below⟩)
  · have g7 : (decide ((IntKind.i64.wrap (x1 - ((x0.length : Nat) : Int))) < 0)) = false := decide_eq_false h6
    refine CM_condF rfl g7 ?_
    refine CM_skip ?_
    refine QM_then ?_
    refine CM_seq ?_
    refine sr ?_
    refine wa ?_
    refine nt' ?_
    refine CM_block ?_
    refine CM_loop (σ := Nat × (Int) × (Unit)) (fun s => [(0, .slice A2 x0.length c3), (1, .int .i64 s.2.1), (5, .int .i64 ((s.1 : Nat) : Int))]) (fun s => []) (fun s => s.1 ≤ x0.length ∧ rng (R := Int) (fun k (s : Int) => laws_szAnnotatedS_b1 x0 k s) (x0.length - s.1) s.1 s.2.1 = rng (R := Int) (fun k (s : Int) => laws_szAnnotatedS_b1 x0 k s) (x0.length - 0) 0 (IntKind.i64.wrap (x1 - ((x0.length : Nat) : Int)))) (fun s => x0.length - s.1) (0, (IntKind.i64.wrap (x1 - ((x0.length : Nat) : Int))), ()) (subL_cons rfl (subL_cons rfl (subL_cons rfl subL_nil))) (fun W hm => hm) ⟨(by omega), rfl⟩ ?_
    rintro ⟨k8, s9, ⟨⟩⟩ H12
    obtain ⟨hk10, hF11⟩ : k8 ≤ x0.length ∧ rng (R := Int) (fun k (s : Int) => laws_szAnnotatedS_b1 x0 k s) (x0.length - k8) k8 s9 = rng (R := Int) (fun k (s : Int) => laws_szAnnotatedS_b1 x0 k s) (x0.length - 0) 0 (IntKind.i64.wrap (x1 - ((x0.length : Nat) : Int))) := H12
    show CM Try.prog 27 _ _ _ _ [(0, .slice A2 x0.length c3), (1, .int .i64 s9), (5, .int .i64 ((k8 : Nat) : Int))] []
    refine CM_seq ?_
    refine sr ?_
    refine wm ?_
    refine wm ?_
    refine wv (fun W hm => rv_len Try.underlying22 rfl) ?_
    refine wv (fun W hm => rv_lss rfl rfl) ?_
    refine nt' ?_
    by_cases hl13 : k8 < x0.length
    · have g14 : (decide (((k8 : Nat) : Int) < ((x0.length : Nat) : Int))) = true := decide_eq_true (by omega)
      refine CM_condT rfl g14 ?_
      refine CM_skip ?_
      refine QM_then ?_
      refine CM_seq ?_
      refine CM_block ?_
      refine sr ?_
      refine wm ?_
      refine wm ?_
      obtain ⟨a15, rfl, hb16, he17⟩ := q4 (by omega)
      refine wv (fun W hm => rv_index (sz := 3) (k := k8) Try.underlying22 Try.type88 rfl rfl rfl (by omega)) ?_
      obtain ⟨_, e23, hc18⟩ := he17 k8 _ (gt_some (show k8 < x0.length from by omega))
      obtain ⟨v19, v21, rfl, r20, r22⟩ := tyLAnnotated_rd e23
      have r28 := r20
      obtain ⟨m24, A25, c26, rfl, q27⟩ := r20
      have r33 := r22
      obtain ⟨m29, A30, c31, rfl, q32⟩ := r22
      refine wv (fun W hm => rv_loadN (cs := [.int .i64 ((gt x0 k8).Row.Id), .slice A25 ((gt x0 k8).Row.Values).length c26, .slice A30 ((gt x0 k8).Set).length c31]) Try.underlying88 Try.type88 rfl rfl (hm.elCells (show (a15.add (k8 * 3)).block < w.heap.size from by rw [add_block]; exact hb16.1) hc18)) ?_
      refine wm ?_
      refine WM_callV (cl_fn cb56 rfl) (fun W hm => laws_szAnnotated_c W _ (gt x0 k8) s9 (tyLAnnotated_mk (x := (gt x0 k8)) (hm.rdS0 r28) (hm.rdS0 r33))) (Wd_none rfl) (by decide) ?_
      refine wa ?_
      refine nt' ?_
      refine sr ?_
      refine wm ?_
      refine wv (fun W hm => rv_lss rfl rfl) ?_
      refine nt' ?_
      by_cases h34 : (laws_szAnnotated_m (gt x0 k8) s9) < 0
      · have g35 : (decide ((laws_szAnnotated_m (gt x0 k8) s9) < 0)) = true := decide_eq_true h34
        refine CM_condT rfl g35 ?_
        refine sr ?_
        refine wa ?_
        refine nt' ?_
        refine CM_ret ?_
        refine QM_block_ret ?_
        refine QM_then_ret ?_
        refine QM_then_ret ?_
        refine QM_block_ret ?_
        refine QM_then_ret ?_
        exact QM_ret1 rfl rfl (fun W hm => ⟨ret_i (show laws_szAnnotatedS_m x0 x1 = (-1) from by unfold laws_szAnnotatedS_m; exact cond_f g7 (fin_inl (rng_ret (body := (fun k (s : Int) => laws_szAnnotatedS_b1 x0 k s)) (k := k8) (s := s9) (show k8 < x0.length from by omega) (show laws_szAnnotatedS_b1 x0 k8 s9 = Sum.inl (-1) from by unfold laws_szAnnotatedS_b1; exact cond_t g35 (rfl)) hF11) rfl)), hm.below⟩)
      · have g35 : (decide ((laws_szAnnotated_m (gt x0 k8) s9) < 0)) = false := decide_eq_false h34
        refine CM_condF rfl g35 ?_
        refine CM_skip ?_
        refine QM_block_normal ?_
        refine QM_then ?_
        refine CM_region ?_
        refine wm ?_
        refine wv (fun W hm => rv_addN (p := k8) (q := 1) rfl rfl (by omega)) ?_
        refine wa ?_
        refine WM_nil ?_
        have hn36 := rng_next (R := Int) (body := (fun k (s : Int) => laws_szAnnotatedS_b1 x0 k s)) (k := k8) (s := s9) (s' := (laws_szAnnotated_m (gt x0 k8) s9)) (show k8 < x0.length from by omega) (show laws_szAnnotatedS_b1 x0 k8 s9 = Sum.inr (laws_szAnnotated_m (gt x0 k8) s9) from by unfold laws_szAnnotatedS_b1; exact cond_f g35 (rfl)) hF11
        exact QM_round (k8 + 1, (laws_szAnnotated_m (gt x0 k8) s9), ()) (subL_cons rfl (subL_cons rfl (subL_cons rfl subL_nil))) (fun W hm => hm) ⟨(by omega), hn36⟩ (show x0.length - (k8 + 1) < x0.length - k8 from by omega)
    · have g14 : (decide (((k8 : Nat) : Int) < ((x0.length : Nat) : Int))) = false := decide_eq_false (by omega)
      refine CM_condF rfl g14 ?_
      refine CM_exit ?_
      refine QM_then_exit ?_
      refine QM_then_exit ?_
      have hE37 : rng (R := Int) (fun k (s : Int) => laws_szAnnotatedS_b1 x0 k s) (x0.length - 0) 0 (IntKind.i64.wrap (x1 - ((x0.length : Nat) : Int))) = Sum.inr s9 := rng_end hl13 hF11
      refine QM_block_hit ?_
      refine QM_then ?_
      refine sr ?_
      refine wm ?_
      refine wa ?_
      refine nt' ?_
      refine CM_ret ?_
      exact QM_ret1 rfl rfl (fun W hm => ⟨ret_i (show laws_szAnnotatedS_m x0 x1 = s9 from by unfold laws_szAnnotatedS_m; exact cond_f g7 (fin_inr hE37 (rfl))), hm.below⟩)

def laws_toIntS_b1 (x0 : (List Int)) (k9 : Nat) (d10 : (List Int)) : (List Int) ⊕ ((List Int)) :=
  Sum.inr (d10.set k9 (gt x0 k9))
def laws_toIntS_m (x0 : (List Int)) : (List Int) :=
  Sum.elim id (fun (s : (List Int)) => s) (rng (R := (List Int)) (fun k (s : (List Int)) => laws_toIntS_b1 x0 k s) (x0.length - 0) 0 (List.replicate x0.length (0 : Int)))
theorem cb21 : Cb Try.prog 21 := ⟨Try.f21, _, Try.func21, rfl, by decide⟩
set_option maxRecDepth 10000 in
set_option maxHeartbeats 4000000 in
theorem laws_toIntS_c (w : World) (z0 : Value) (x0 : (List Int)) (r_0 : rdS tInt w w.heap.size z0 x0) (s_0 : x0.length ≤ 68719476736) :
    Calls Try.prog 21 #[z0] w fun e w' => ∃ v : Value, e = .returned (v) ∧ Mem w.heap.size w [iOwn (tSl tInt 3) [v] (laws_toIntS_m x0)] w' := by
  have r5 := r_0
  obtain ⟨m1, A2, c3, rfl, q4⟩ := r_0
  have l6 : x0.length ≤ 68719476736 := s_0
  refine call_enterM (L := [(0, .slice A2 x0.length c3)]) (N := 22) Try.func21 rfl rfl (Nat.le_of_ble_eq_true rfl) (argsL_cons rfl argsL_nil) ?_
  refine sr ?_
  refine wa ?_
  refine nt' ?_
  refine sr ?_
  refine wm ?_
  refine wv (fun W hm => rv_len Try.underlying33 rfl) ?_
  refine WM_make (E := tInt) (n := x0.length) (x0 := (0 : Int)) Try.underlying33 Try.type3 rfl rfl rfl (fun _ => tInt_own) rfl rfl (show x0.length * 8 ≤ 281474976710656 from by omega) (by omega) (Wd_none rfl) (by decide) (fun p7 => ?_)
  refine wa ?_
  refine nt' ?_
  refine CM_seq ?_
  refine sr ?_
  refine wa ?_
  refine nt' ?_
  refine CM_block ?_
  refine CM_loop (σ := Nat × ((List Int)) × (Unit)) (fun s => [(0, .slice A2 x0.length c3), (3, .slice (some ⟨p7, 0, none⟩) x0.length x0.length), (4, .int .i64 ((s.1 : Nat) : Int))]) (fun s => [iOwn (tSl tInt 3) [.slice (some ⟨p7, 0, none⟩) x0.length x0.length] s.2.1]) (fun s => s.1 ≤ x0.length ∧ rng (R := (List Int)) (fun k (s : (List Int)) => laws_toIntS_b1 x0 k s) (x0.length - s.1) s.1 s.2.1 = rng (R := (List Int)) (fun k (s : (List Int)) => laws_toIntS_b1 x0 k s) (x0.length - 0) 0 (List.replicate x0.length (0 : Int))) (fun s => x0.length - s.1) (0, (List.replicate x0.length (0 : Int)), ()) (subL_cons rfl (subL_cons rfl (subL_cons rfl subL_nil))) (fun W hm => hm) ⟨(by omega), rfl⟩ ?_
  rintro ⟨k9, d10, ⟨⟩⟩ H13
  obtain ⟨hk11, hF12⟩ : k9 ≤ x0.length ∧ rng (R := (List Int)) (fun k (s : (List Int)) => laws_toIntS_b1 x0 k s) (x0.length - k9) k9 d10 = rng (R := (List Int)) (fun k (s : (List Int)) => laws_toIntS_b1 x0 k s) (x0.length - 0) 0 (List.replicate x0.length (0 : Int)) := H13
  show CM Try.prog 22 _ _ _ _ [(0, .slice A2 x0.length c3), (3, .slice (some ⟨p7, 0, none⟩) x0.length x0.length), (4, .int .i64 ((k9 : Nat) : Int))] [iOwn (tSl tInt 3) [.slice (some ⟨p7, 0, none⟩) x0.length x0.length] d10]
  refine CM_seq ?_
  refine sr ?_
  refine wm ?_
  refine wm ?_
  refine wv (fun W hm => rv_len Try.underlying33 rfl) ?_
  refine wv (fun W hm => rv_lss rfl rfl) ?_
  refine nt' ?_
  by_cases hl14 : k9 < x0.length
  · have g15 : (decide (((k9 : Nat) : Int) < ((x0.length : Nat) : Int))) = true := decide_eq_true (by omega)
    refine CM_condT rfl g15 ?_
    refine CM_skip ?_
    refine QM_then ?_
    refine CM_seq ?_
    refine CM_block ?_
    refine CM_region ?_
    refine wm ?_
    refine wm ?_
    refine wm ?_
    refine wm ?_
    obtain ⟨a16, rfl, hb17, he18⟩ := q4 (by omega)
    refine wv (fun W hm => rv_index (sz := 1) (k := k9) Try.underlying33 Try.type3 rfl rfl rfl (by omega)) ?_
    refine wv (fun W hm => rv_load Try.underlying3 rfl rfl ((hm.cell0 (show (a16.add (k9 * 1)).block < w.heap.size from by rw [add_block]; exact hb17.1)).trans (rdS_int he18 k9 (by omega)))) ?_
    refine wv (fun W hm => rv_index (sz := 1) (k := k9) Try.underlying33 Try.type3 rfl rfl rfl (by omega)) ?_
    refine WM_setEl (E := tInt) (e := 3) (u := .int .i64 (gt x0 k9)) (k := k9) (p := p7) (n := x0.length) (xs := d10) (eis := []) (js := []) (yv := (gt x0 k9)) (fun W hm => hm) (fun _ _ hs => (Sep.nil hs ▸ tInt_own)) rfl Try.type3 rfl (by omega) rfl rfl (Wd_none rfl) ?_
    refine WM_nil ?_
    refine QM_block_normal ?_
    refine QM_then ?_
    refine CM_region ?_
    refine wm ?_
    refine wv (fun W hm => rv_addN (p := k9) (q := 1) rfl rfl (by omega)) ?_
    refine wa ?_
    refine WM_nil ?_
    have hn19 := rng_next (R := (List Int)) (body := (fun k (s : (List Int)) => laws_toIntS_b1 x0 k s)) (k := k9) (s := d10) (s' := (d10.set k9 (gt x0 k9))) (show k9 < x0.length from by omega) (show laws_toIntS_b1 x0 k9 d10 = Sum.inr (d10.set k9 (gt x0 k9)) from by unfold laws_toIntS_b1; exact rfl) hF12
    exact QM_round (k9 + 1, (d10.set k9 (gt x0 k9)), ()) (subL_cons rfl (subL_cons rfl (subL_cons rfl subL_nil))) (fun W hm => hm) ⟨(by omega), hn19⟩ (show x0.length - (k9 + 1) < x0.length - k9 from by omega)
  · have g15 : (decide (((k9 : Nat) : Int) < ((x0.length : Nat) : Int))) = false := decide_eq_false (by omega)
    refine CM_condF rfl g15 ?_
    refine CM_exit ?_
    refine QM_then_exit ?_
    refine QM_then_exit ?_
    have hE20 : rng (R := (List Int)) (fun k (s : (List Int)) => laws_toIntS_b1 x0 k s) (x0.length - 0) 0 (List.replicate x0.length (0 : Int)) = Sum.inr d10 := rng_end hl14 hF12
    refine QM_block_hit ?_
    refine QM_then ?_
    refine sr ?_
    refine wm ?_
    refine wa ?_
    refine nt' ?_
    refine CM_ret ?_
    refine QM_r1 rfl (RR_tmp rfl) (fun W hm => ⟨.slice (some ⟨p7, 0, none⟩) x0.length x0.length, ?_, ?_⟩)
    · first | rw [(show laws_toIntS_m x0 = d10 from by unfold laws_toIntS_m; exact fin_inr hE20 (rfl))] | rfl
    · rw [(show laws_toIntS_m x0 = d10 from by unfold laws_toIntS_m; exact fin_inr hE20 (rfl))]; exact hm

def laws_toRow_m (x0 : DRow) : DRow :=
  (⟨x0.Id, (laws_toIntS_m x0.Values)⟩ : DRow)
theorem cb83 : Cb Try.prog 83 := ⟨Try.f83, _, Try.func83, rfl, by decide⟩
set_option maxRecDepth 10000 in
set_option maxHeartbeats 4000000 in
theorem laws_toRow_c (w : World) (z0 : List Value) (x0 : DRow) (r_0 : tyLRow.rd w w.heap.size z0 x0) (s_0 : smRow 68719476736 x0) :
    Calls Try.prog 83 #[.agg z0.toArray] w fun e w' => ∃ v : List Value, e = .returned (.agg v.toArray) ∧ Mem w.heap.size w [iOwn tyRow v (laws_toRow_m x0)] w' := by
  obtain ⟨v1, rfl, r2⟩ := tyLRow_rd r_0
  have r7 := r2
  obtain ⟨m3, A4, c5, rfl, q6⟩ := r2
  have l8 : x0.Values.length ≤ 68719476736 := s_0
  refine call_enterM (L := [(0, .agg #[.int .i64 x0.Id, .slice A4 x0.Values.length c5])]) (N := 12) Try.func83 rfl rfl (Nat.le_of_ble_eq_true rfl) (argsL_cons rfl argsL_nil) ?_
  refine sr ?_
  refine WM_box rfl (Wd_none rfl) (by decide) (fun p9 => ?_)
  refine WM_alloc Try.type69 rfl (Wd_none rfl) (by decide) (fun p10 => ?_)
  refine nt' ?_
  refine sr ?_
  refine WM_alloc Try.type69 rfl (Wd_none rfl) (by decide) (fun p11 => ?_)
  refine nt' ?_
  refine sr ?_
  refine wv (fun W hm => rv_field Try.underlying63 rfl Try.type3 (by decide) rfl rfl) ?_
  refine wv (fun W hm => rv_load Try.underlying3 rfl rfl (hm.boxCell (n := 2) (o := 0) rfl rfl)) ?_
  refine wv (fun W hm => rv_field Try.underlying69 rfl Try.type3 (by decide) rfl rfl) ?_
  refine WM_storeBox (p := p11) (o := 0) (cs := [.int .i64 0, .slice none 0 0]) (cs' := [.int .i64 x0.Id, .slice none 0 0]) (js := [iBox p10 69 [.int .i64 0, .slice none 0 0], iBox p9 63 [.int .i64 x0.Id, .slice A4 x0.Values.length c5]]) (fun W hm => hm) Try.type3 rfl (Nat.le_of_ble_eq_true rfl) rfl rfl rfl rfl (Wd_none rfl) ?_
  refine nt' ?_
  refine sr ?_
  refine wv (fun W hm => rv_field Try.underlying63 rfl Try.type33 (by decide) rfl rfl) ?_
  refine wv (fun W hm => rv_load Try.underlying33 rfl rfl (hm.boxCell (n := 2) (o := 1) rfl rfl)) ?_
  refine WM_call (χ := Value) (val := fun x => x) (js := fun x => [iOwn (tSl tInt 3) [x] (laws_toIntS_m x0.Values)]) (cl_fn cb21 rfl) (fun W hm => laws_toIntS_c W _ x0.Values (hm.rdS0 r7) s_0) (Wd_none rfl) (by decide) (fun z12 => ?_)
  refine WM_form (n := 0) rfl ?_
  rintro A13 c14 rfl m15
  refine wv (fun W hm => rv_field Try.underlying69 rfl Try.type33 (by decide) rfl rfl) ?_
  refine WM_storeBox (p := p11) (o := 1) (cs := [.int .i64 x0.Id, .slice none 0 0]) (cs' := [.int .i64 x0.Id, .slice A13 (laws_toIntS_m x0.Values).length c14]) (js := [iOwn (tSl tInt 3) [.slice A13 (laws_toIntS_m x0.Values).length c14] (laws_toIntS_m x0.Values), iBox p10 69 [.int .i64 0, .slice none 0 0], iBox p9 63 [.int .i64 x0.Id, .slice A4 x0.Values.length c5]]) (fun W hm => (hm.pick [1, 0, 2, 3] (by decide))) Try.type33 rfl (Nat.le_of_ble_eq_true rfl) rfl rfl rfl rfl (Wd_none rfl) ?_
  refine nt' ?_
  refine sr ?_
  refine wv (fun W hm => rv_loadN (cs := [.int .i64 x0.Id, .slice A13 (laws_toIntS_m x0.Values).length c14]) Try.underlying69 Try.type69 rfl rfl (hm.boxCells (n := 0) rfl)) ?_
  refine WM_storeBox (p := p10) (o := 0) (cs := [.int .i64 0, .slice none 0 0]) (cs' := [.int .i64 x0.Id, .slice A13 (laws_toIntS_m x0.Values).length c14]) (js := [iBox p11 69 [.int .i64 x0.Id, .slice A13 (laws_toIntS_m x0.Values).length c14], iOwn (tSl tInt 3) [.slice A13 (laws_toIntS_m x0.Values).length c14] (laws_toIntS_m x0.Values), iBox p9 63 [.int .i64 x0.Id, .slice A4 x0.Values.length c5]]) (fun W hm => (hm.pick [2, 0, 1, 3] (by decide))) Try.type69 rfl (Nat.le_of_ble_eq_true rfl) rfl rfl rfl rfl (Wd_none rfl) ?_
  refine nt' ?_
  refine CM_ret ?_
  refine QM_r1 rfl (RR_cell (n := 0) rfl rfl Try.underlying69 Try.type69 rfl) (fun W hm => ⟨[.int .i64 x0.Id, .slice A13 (laws_toIntS_m x0.Values).length c14], ?_, ?_⟩)
  · first | rw [(show laws_toRow_m x0 = (⟨x0.Id, (laws_toIntS_m x0.Values)⟩ : DRow) from by unfold laws_toRow_m; exact rfl)] | rfl
  · rw [(show laws_toRow_m x0 = (⟨x0.Id, (laws_toIntS_m x0.Values)⟩ : DRow) from by unfold laws_toRow_m; exact rfl)]; exact Mem.join (is := [iOwn (tSl tInt 3) [.slice A13 (laws_toIntS_m x0.Values).length c14] (laws_toIntS_m x0.Values)]) (js := []) (fun _ _ hs => tyRow_join (x := (⟨x0.Id, (laws_toIntS_m x0.Values)⟩ : DRow)) hs) (hm.pick [2] (by decide))

def laws_toAnnotated_m (x0 : DAnnotated) : DAnnotated :=
  (⟨(laws_toRow_m x0.Row), (laws_toIntS_m x0.Set)⟩ : DAnnotated)
theorem cb59 : Cb Try.prog 59 := ⟨Try.f59, _, Try.func59, rfl, by decide⟩
set_option maxRecDepth 10000 in
set_option maxHeartbeats 4000000 in
theorem laws_toAnnotated_c (w : World) (z0 : List Value) (x0 : DAnnotated) (r_0 : tyLAnnotated.rd w w.heap.size z0 x0) (s_0 : smAnnotated 68719476736 x0) :
    Calls Try.prog 59 #[.agg z0.toArray] w fun e w' => ∃ v : List Value, e = .returned (.agg v.toArray) ∧ Mem w.heap.size w [iOwn tyAnnotated v (laws_toAnnotated_m x0)] w' := by
  obtain ⟨v1, v3, rfl, r2, r4⟩ := tyLAnnotated_rd r_0
  have r9 := r2
  obtain ⟨m5, A6, c7, rfl, q8⟩ := r2
  have r14 := r4
  obtain ⟨m10, A11, c12, rfl, q13⟩ := r4
  have l15 : x0.Row.Values.length ≤ 68719476736 := s_0.1
  have l16 : x0.Set.length ≤ 68719476736 := s_0.2
  refine call_enterM (L := [(0, .agg #[.int .i64 x0.Row.Id, .slice A6 x0.Row.Values.length c7, .slice A11 x0.Set.length c12])]) (N := 13) Try.func59 rfl rfl (Nat.le_of_ble_eq_true rfl) (argsL_cons rfl argsL_nil) ?_
  refine sr ?_
  refine WM_box rfl (Wd_none rfl) (by decide) (fun p17 => ?_)
  refine WM_alloc Try.type91 rfl (Wd_none rfl) (by decide) (fun p18 => ?_)
  refine nt' ?_
  refine sr ?_
  refine WM_alloc Try.type91 rfl (Wd_none rfl) (by decide) (fun p19 => ?_)
  refine nt' ?_
  refine sr ?_
  refine wv (fun W hm => rv_field Try.underlying88 rfl Try.type63 (by decide) rfl rfl) ?_
  refine wv (fun W hm => rv_loadN (cs := [.int .i64 x0.Row.Id, .slice A6 x0.Row.Values.length c7]) Try.underlying63 Try.type63 rfl rfl (hm.boxPart (n := 2) rfl rfl)) ?_
  refine WM_call (χ := List Value) (val := fun x => .agg x.toArray) (js := fun x => [iOwn tyRow x (laws_toRow_m x0.Row)]) (cl_fn cb83 rfl) (fun W hm => laws_toRow_c W _ x0.Row (tyLRow_mk (x := x0.Row) (hm.rdS0 r9)) s_0.1) (Wd_none rfl) (by decide) (fun z20 => ?_)
  refine WM_split (γ := Value) (js := fun g => [iOwn (tSl tInt 3) [g] ((laws_toRow_m x0.Row).Values)]) (C := fun g => z20 = [.int .i64 ((laws_toRow_m x0.Row).Id), g]) (fun _ _ h => tyRow_split h) ?_
  rintro v21 rfl
  refine WM_form (n := 0) rfl ?_
  rintro A22 c23 rfl m24
  refine wv (fun W hm => rv_field Try.underlying91 rfl Try.type69 (by decide) rfl rfl) ?_
  refine WM_storeBox (p := p19) (o := 0) (cs := [.int .i64 0, .slice none 0 0, .slice none 0 0]) (cs' := [.int .i64 ((laws_toRow_m x0.Row).Id), .slice A22 ((laws_toRow_m x0.Row).Values).length c23, .slice none 0 0]) (js := [iOwn (tSl tInt 3) [.slice A22 ((laws_toRow_m x0.Row).Values).length c23] ((laws_toRow_m x0.Row).Values), iBox p18 91 [.int .i64 0, .slice none 0 0, .slice none 0 0], iBox p17 88 [.int .i64 x0.Row.Id, .slice A6 x0.Row.Values.length c7, .slice A11 x0.Set.length c12]]) (fun W hm => (hm.pick [1, 0, 2, 3] (by decide))) Try.type69 rfl (Nat.le_of_ble_eq_true rfl) rfl rfl rfl rfl (Wd_none rfl) ?_
  refine nt' ?_
  refine sr ?_
  refine wv (fun W hm => rv_field Try.underlying88 rfl Try.type33 (by decide) rfl rfl) ?_
  refine wv (fun W hm => rv_load Try.underlying33 rfl rfl (hm.boxCell (n := 3) (o := 2) rfl rfl)) ?_
  refine WM_call (χ := Value) (val := fun x => x) (js := fun x => [iOwn (tSl tInt 3) [x] (laws_toIntS_m x0.Set)]) (cl_fn cb21 rfl) (fun W hm => laws_toIntS_c W _ x0.Set (hm.rdS0 r14) s_0.2) (Wd_none rfl) (by decide) (fun z26 => ?_)
  refine WM_form (n := 0) rfl ?_
  rintro A27 c28 rfl m29
  refine wv (fun W hm => rv_field Try.underlying91 rfl Try.type33 (by decide) rfl rfl) ?_
  refine WM_storeBox (p := p19) (o := 2) (cs := [.int .i64 ((laws_toRow_m x0.Row).Id), .slice A22 ((laws_toRow_m x0.Row).Values).length c23, .slice none 0 0]) (cs' := [.int .i64 ((laws_toRow_m x0.Row).Id), .slice A22 ((laws_toRow_m x0.Row).Values).length c23, .slice A27 (laws_toIntS_m x0.Set).length c28]) (js := [iOwn (tSl tInt 3) [.slice A27 (laws_toIntS_m x0.Set).length c28] (laws_toIntS_m x0.Set), iOwn (tSl tInt 3) [.slice A22 ((laws_toRow_m x0.Row).Values).length c23] ((laws_toRow_m x0.Row).Values), iBox p18 91 [.int .i64 0, .slice none 0 0, .slice none 0 0], iBox p17 88 [.int .i64 x0.Row.Id, .slice A6 x0.Row.Values.length c7, .slice A11 x0.Set.length c12]]) (fun W hm => (hm.pick [1, 0, 2, 3, 4] (by decide))) Try.type33 rfl (Nat.le_of_ble_eq_true rfl) rfl rfl rfl rfl (Wd_none rfl) ?_
  refine nt' ?_
  refine sr ?_
  refine wv (fun W hm => rv_loadN (cs := [.int .i64 ((laws_toRow_m x0.Row).Id), .slice A22 ((laws_toRow_m x0.Row).Values).length c23, .slice A27 (laws_toIntS_m x0.Set).length c28]) Try.underlying91 Try.type91 rfl rfl (hm.boxCells (n := 0) rfl)) ?_
  refine WM_storeBox (p := p18) (o := 0) (cs := [.int .i64 0, .slice none 0 0, .slice none 0 0]) (cs' := [.int .i64 ((laws_toRow_m x0.Row).Id), .slice A22 ((laws_toRow_m x0.Row).Values).length c23, .slice A27 (laws_toIntS_m x0.Set).length c28]) (js := [iBox p19 91 [.int .i64 ((laws_toRow_m x0.Row).Id), .slice A22 ((laws_toRow_m x0.Row).Values).length c23, .slice A27 (laws_toIntS_m x0.Set).length c28], iOwn (tSl tInt 3) [.slice A27 (laws_toIntS_m x0.Set).length c28] (laws_toIntS_m x0.Set), iOwn (tSl tInt 3) [.slice A22 ((laws_toRow_m x0.Row).Values).length c23] ((laws_toRow_m x0.Row).Values), iBox p17 88 [.int .i64 x0.Row.Id, .slice A6 x0.Row.Values.length c7, .slice A11 x0.Set.length c12]]) (fun W hm => (hm.pick [3, 0, 1, 2, 4] (by decide))) Try.type91 rfl (Nat.le_of_ble_eq_true rfl) rfl rfl rfl rfl (Wd_none rfl) ?_
  refine nt' ?_
  refine CM_ret ?_
  refine QM_r1 rfl (RR_cell (n := 0) rfl rfl Try.underlying91 Try.type91 rfl) (fun W hm => ⟨[.int .i64 ((laws_toRow_m x0.Row).Id), .slice A22 ((laws_toRow_m x0.Row).Values).length c23, .slice A27 (laws_toIntS_m x0.Set).length c28], ?_, ?_⟩)
  · first | rw [(show laws_toAnnotated_m x0 = (⟨(laws_toRow_m x0.Row), (laws_toIntS_m x0.Set)⟩ : DAnnotated) from by unfold laws_toAnnotated_m; exact rfl)] | rfl
  · rw [(show laws_toAnnotated_m x0 = (⟨(laws_toRow_m x0.Row), (laws_toIntS_m x0.Set)⟩ : DAnnotated) from by unfold laws_toAnnotated_m; exact rfl)]; exact Mem.join (is := [iOwn (tSl tInt 3) [.slice A22 ((laws_toRow_m x0.Row).Values).length c23] ((laws_toRow_m x0.Row).Values), iOwn (tSl tInt 3) [.slice A27 (laws_toIntS_m x0.Set).length c28] (laws_toIntS_m x0.Set)]) (js := []) (fun _ _ hs => tyAnnotated_join (x := (⟨(laws_toRow_m x0.Row), (laws_toIntS_m x0.Set)⟩ : DAnnotated)) hs) (hm.pick [3, 2] (by decide))

def laws_toAnnotatedS_b1 (x0 : (List DAnnotated)) (k9 : Nat) (d10 : (List DAnnotated)) : (List DAnnotated) ⊕ ((List DAnnotated)) :=
  Sum.inr (d10.set k9 (laws_toAnnotated_m (gt x0 k9)))
def laws_toAnnotatedS_m (x0 : (List DAnnotated)) : (List DAnnotated) :=
  Sum.elim id (fun (s : (List DAnnotated)) => s) (rng (R := (List DAnnotated)) (fun k (s : (List DAnnotated)) => laws_toAnnotatedS_b1 x0 k s) (x0.length - 0) 0 (List.replicate x0.length (⟨(⟨(0 : Int), []⟩ : DRow), []⟩ : DAnnotated)))
theorem cb13 : Cb Try.prog 13 := ⟨Try.f13, _, Try.func13, rfl, by decide⟩
set_option maxRecDepth 10000 in
set_option maxHeartbeats 4000000 in
theorem laws_toAnnotatedS_c (w : World) (z0 : Value) (x0 : (List DAnnotated)) (r_0 : rdS tyLAnnotated w w.heap.size z0 x0) (s_0 : (x0.length ≤ 68719476736 ∧ ∀ y ∈ x0, smAnnotated 68719476736 y)) :
    Calls Try.prog 13 #[z0] w fun e w' => ∃ v : Value, e = .returned (v) ∧ Mem w.heap.size w [iOwn (tSl tyAnnotated 91) [v] (laws_toAnnotatedS_m x0)] w' := by
  have r5 := r_0
  obtain ⟨m1, A2, c3, rfl, q4⟩ := r_0
  have l6 : x0.length ≤ 68719476736 := s_0.1
  refine call_enterM (L := [(0, .slice A2 x0.length c3)]) (N := 23) Try.func13 rfl rfl (Nat.le_of_ble_eq_true rfl) (argsL_cons rfl argsL_nil) ?_
  refine sr ?_
  refine wa ?_
  refine nt' ?_
  refine sr ?_
  refine wm ?_
  refine wv (fun W hm => rv_len Try.underlying22 rfl) ?_
  refine WM_make (E := tyAnnotated) (n := x0.length) (x0 := (⟨(⟨(0 : Int), []⟩ : DRow), []⟩ : DAnnotated)) Try.underlying26 Try.type91 rfl rfl rfl (fun _ => ⟨[], [], _, _, rfl, rfl, ⟨[], [], _, _, rfl, rfl, tInt_own, own_nil⟩, own_nil⟩) rfl rfl (show x0.length * 56 ≤ 281474976710656 from by omega) (by omega) (Wd_none rfl) (by decide) (fun p7 => ?_)
  refine wa ?_
  refine nt' ?_
  refine CM_seq ?_
  refine sr ?_
  refine wa ?_
  refine nt' ?_
  refine CM_block ?_
  refine CM_loop (σ := Nat × ((List DAnnotated)) × (Unit)) (fun s => [(0, .slice A2 x0.length c3), (3, .slice (some ⟨p7, 0, none⟩) x0.length x0.length), (4, .int .i64 ((s.1 : Nat) : Int))]) (fun s => [iOwn (tSl tyAnnotated 91) [.slice (some ⟨p7, 0, none⟩) x0.length x0.length] s.2.1]) (fun s => s.1 ≤ x0.length ∧ rng (R := (List DAnnotated)) (fun k (s : (List DAnnotated)) => laws_toAnnotatedS_b1 x0 k s) (x0.length - s.1) s.1 s.2.1 = rng (R := (List DAnnotated)) (fun k (s : (List DAnnotated)) => laws_toAnnotatedS_b1 x0 k s) (x0.length - 0) 0 (List.replicate x0.length (⟨(⟨(0 : Int), []⟩ : DRow), []⟩ : DAnnotated))) (fun s => x0.length - s.1) (0, (List.replicate x0.length (⟨(⟨(0 : Int), []⟩ : DRow), []⟩ : DAnnotated)), ()) (subL_cons rfl (subL_cons rfl (subL_cons rfl subL_nil))) (fun W hm => hm) ⟨(by omega), rfl⟩ ?_
  rintro ⟨k9, d10, ⟨⟩⟩ H13
  obtain ⟨hk11, hF12⟩ : k9 ≤ x0.length ∧ rng (R := (List DAnnotated)) (fun k (s : (List DAnnotated)) => laws_toAnnotatedS_b1 x0 k s) (x0.length - k9) k9 d10 = rng (R := (List DAnnotated)) (fun k (s : (List DAnnotated)) => laws_toAnnotatedS_b1 x0 k s) (x0.length - 0) 0 (List.replicate x0.length (⟨(⟨(0 : Int), []⟩ : DRow), []⟩ : DAnnotated)) := H13
  show CM Try.prog 23 _ _ _ _ [(0, .slice A2 x0.length c3), (3, .slice (some ⟨p7, 0, none⟩) x0.length x0.length), (4, .int .i64 ((k9 : Nat) : Int))] [iOwn (tSl tyAnnotated 91) [.slice (some ⟨p7, 0, none⟩) x0.length x0.length] d10]
  refine CM_seq ?_
  refine sr ?_
  refine wm ?_
  refine wm ?_
  refine wv (fun W hm => rv_len Try.underlying22 rfl) ?_
  refine wv (fun W hm => rv_lss rfl rfl) ?_
  refine nt' ?_
  by_cases hl14 : k9 < x0.length
  · have g15 : (decide (((k9 : Nat) : Int) < ((x0.length : Nat) : Int))) = true := decide_eq_true (by omega)
    refine CM_condT rfl g15 ?_
    refine CM_skip ?_
    refine QM_then ?_
    refine CM_seq ?_
    refine CM_block ?_
    refine CM_region ?_
    refine wm ?_
    refine wm ?_
    refine wm ?_
    refine wm ?_
    obtain ⟨a16, rfl, hb17, he18⟩ := q4 (by omega)
    refine wv (fun W hm => rv_index (sz := 3) (k := k9) Try.underlying22 Try.type88 rfl rfl rfl (by omega)) ?_
    obtain ⟨_, e24, hc19⟩ := he18 k9 _ (gt_some (show k9 < x0.length from by omega))
    obtain ⟨v20, v22, rfl, r21, r23⟩ := tyLAnnotated_rd e24
    have l25 : ((gt x0 k9).Row.Values).length ≤ 68719476736 := (s_0.2 _ (gt_mem (show k9 < x0.length from by omega))).1
    have l26 : ((gt x0 k9).Set).length ≤ 68719476736 := (s_0.2 _ (gt_mem (show k9 < x0.length from by omega))).2
    have r31 := r21
    obtain ⟨m27, A28, c29, rfl, q30⟩ := r21
    have r36 := r23
    obtain ⟨m32, A33, c34, rfl, q35⟩ := r23
    refine wv (fun W hm => rv_loadN (cs := [.int .i64 ((gt x0 k9).Row.Id), .slice A28 ((gt x0 k9).Row.Values).length c29, .slice A33 ((gt x0 k9).Set).length c34]) Try.underlying88 Try.type88 rfl rfl (hm.elCells (show (a16.add (k9 * 3)).block < w.heap.size from by rw [add_block]; exact hb17.1) hc19)) ?_
    refine WM_call (χ := List Value) (val := fun x => .agg x.toArray) (js := fun x => [iOwn tyAnnotated x (laws_toAnnotated_m (gt x0 k9))]) (cl_fn cb59 rfl) (fun W hm => laws_toAnnotated_c W _ (gt x0 k9) (tyLAnnotated_mk (x := (gt x0 k9)) (hm.rdS0 r31) (hm.rdS0 r36)) (s_0.2 _ (gt_mem (show k9 < x0.length from by omega)))) (Wd_none rfl) (by decide) (fun z37 => ?_)
    refine WM_split (γ := Value × Value) (js := fun g => [iOwn (tSl tInt 3) [g.1] ((laws_toAnnotated_m (gt x0 k9)).Row.Values), iOwn (tSl tInt 3) [g.2] ((laws_toAnnotated_m (gt x0 k9)).Set)]) (C := fun g => z37 = [.int .i64 ((laws_toAnnotated_m (gt x0 k9)).Row.Id), g.1, g.2]) (fun _ _ h => tyAnnotated_split h) ?_
    rintro ⟨v38, v39⟩ rfl
    refine WM_form (n := 0) rfl ?_
    rintro A40 c41 rfl m42
    refine WM_form (n := 1) rfl ?_
    rintro A44 c45 rfl m46
    refine wv (fun W hm => rv_index (sz := 3) (k := k9) Try.underlying26 Try.type91 rfl rfl rfl (by omega)) ?_
    refine WM_setEl (E := tyAnnotated) (e := 91) (u := .agg #[.int .i64 ((laws_toAnnotated_m (gt x0 k9)).Row.Id), .slice A40 ((laws_toAnnotated_m (gt x0 k9)).Row.Values).length c41, .slice A44 ((laws_toAnnotated_m (gt x0 k9)).Set).length c45]) (k := k9) (p := p7) (n := x0.length) (xs := d10) (eis := [iOwn (tSl tInt 3) [.slice A40 ((laws_toAnnotated_m (gt x0 k9)).Row.Values).length c41] ((laws_toAnnotated_m (gt x0 k9)).Row.Values), iOwn (tSl tInt 3) [.slice A44 ((laws_toAnnotated_m (gt x0 k9)).Set).length c45] ((laws_toAnnotated_m (gt x0 k9)).Set)]) (js := []) (yv := (laws_toAnnotated_m (gt x0 k9))) (fun W hm => (hm.pick [2, 0, 1] (by decide))) (fun _ _ hs => (tyAnnotated_join (x := (laws_toAnnotated_m (gt x0 k9))) hs)) rfl Try.type91 rfl (by omega) rfl rfl (Wd_none rfl) ?_
    refine WM_nil ?_
    refine QM_block_normal ?_
    refine QM_then ?_
    refine CM_region ?_
    refine wm ?_
    refine wv (fun W hm => rv_addN (p := k9) (q := 1) rfl rfl (by omega)) ?_
    refine wa ?_
    refine WM_nil ?_
    have hn48 := rng_next (R := (List DAnnotated)) (body := (fun k (s : (List DAnnotated)) => laws_toAnnotatedS_b1 x0 k s)) (k := k9) (s := d10) (s' := (d10.set k9 (laws_toAnnotated_m (gt x0 k9)))) (show k9 < x0.length from by omega) (show laws_toAnnotatedS_b1 x0 k9 d10 = Sum.inr (d10.set k9 (laws_toAnnotated_m (gt x0 k9))) from by unfold laws_toAnnotatedS_b1; exact rfl) hF12
    exact QM_round (k9 + 1, (d10.set k9 (laws_toAnnotated_m (gt x0 k9))), ()) (subL_cons rfl (subL_cons rfl (subL_cons rfl subL_nil))) (fun W hm => hm) ⟨(by omega), hn48⟩ (show x0.length - (k9 + 1) < x0.length - k9 from by omega)
  · have g15 : (decide (((k9 : Nat) : Int) < ((x0.length : Nat) : Int))) = false := decide_eq_false (by omega)
    refine CM_condF rfl g15 ?_
    refine CM_exit ?_
    refine QM_then_exit ?_
    refine QM_then_exit ?_
    have hE49 : rng (R := (List DAnnotated)) (fun k (s : (List DAnnotated)) => laws_toAnnotatedS_b1 x0 k s) (x0.length - 0) 0 (List.replicate x0.length (⟨(⟨(0 : Int), []⟩ : DRow), []⟩ : DAnnotated)) = Sum.inr d10 := rng_end hl14 hF12
    refine QM_block_hit ?_
    refine QM_then ?_
    refine sr ?_
    refine wm ?_
    refine wa ?_
    refine nt' ?_
    refine CM_ret ?_
    refine QM_r1 rfl (RR_tmp rfl) (fun W hm => ⟨.slice (some ⟨p7, 0, none⟩) x0.length x0.length, ?_, ?_⟩)
    · first | rw [(show laws_toAnnotatedS_m x0 = d10 from by unfold laws_toAnnotatedS_m; exact fin_inr hE49 (rfl))] | rfl
    · rw [(show laws_toAnnotatedS_m x0 = d10 from by unfold laws_toAnnotatedS_m; exact fin_inr hE49 (rfl))]; exact hm

def spec_l1In_m (x0 : Int) (x1 : Int) (x2 : Int) : Bool :=
  cond (decide (x1 ≤ x0)) (decide (x0 ≤ x2)) false
theorem cb110 : Cb Try.prog 110 := ⟨Try.f110, _, Try.func110, rfl, by decide⟩
set_option maxRecDepth 10000 in
set_option maxHeartbeats 4000000 in
theorem spec_l1In_c (w : World) (x0 : Int) (x1 : Int) (x2 : Int) :
    Calls Try.prog 110 #[.int .i64 x0, .int .i64 x1, .int .i64 x2] w fun e w' => e = .returned (.bool (spec_l1In_m x0 x1 x2)) ∧ Below w.heap.size w w' := by
  refine call_enterM (L := [(0, .int .i64 x0), (1, .int .i64 x1), (2, .int .i64 x2)]) (N := 15) Try.func110 rfl rfl (Nat.le_of_ble_eq_true rfl) (argsL_cons rfl (argsL_cons rfl (argsL_cons rfl argsL_nil))) ?_
  refine sr ?_
  refine wa ?_
  refine nt' ?_
  refine sr ?_
  refine wm ?_
  refine wm ?_
  refine wv (fun W hm => rv_geq rfl rfl) ?_
  refine wm ?_
  by_cases h1 : x1 ≤ x0
  · have g2 : (decide (x1 ≤ x0)) = true := decide_eq_true h1
    refine wg (fun W hm => rv_move rfl) g2 ?_
    refine wg (fun W hm => rv_move rfl) g2 ?_
    refine wg (fun W hm => rv_leq rfl rfl) g2 ?_
    refine wv (fun W hm => rv_pickT rfl g2 rfl) ?_
    refine wa ?_
    refine nt' ?_
    refine CM_ret ?_
    exact QM_ret1 rfl rfl (fun W hm => ⟨ret_b (show spec_l1In_m x0 x1 x2 = (decide (x0 ≤ x2)) from by unfold spec_l1In_m; exact cond_t g2 (rfl)), hm.below⟩)
  · have g2 : (decide (x1 ≤ x0)) = false := decide_eq_false h1
    refine ws g2 ?_
    refine ws g2 ?_
    refine ws g2 ?_
    refine wv (fun W hm => rv_pickF rfl g2 rfl) ?_
    refine wa ?_
    refine nt' ?_
    refine CM_ret ?_
    exact QM_ret1 rfl rfl (fun W hm => ⟨ret_b (show spec_l1In_m x0 x1 x2 = false from by unfold spec_l1In_m; exact cond_f g2 (rfl)), hm.below⟩)

theorem spec_l1In_fact {x a b : Int} (h : spec_l1In_m x a b = true) : a ≤ x ∧ x ≤ b := by
  unfold spec_l1In_m at h
  by_cases h1 : a ≤ x
  · rw [decide_eq_true h1] at h
    exact ⟨h1, of_decide_eq_true h⟩
  · rw [decide_eq_false h1] at h
    cases h
theorem spec_l1In_iff (x a b : Int) : spec_l1In_m x a b = decide (a ≤ x ∧ x ≤ b) := by
  unfold spec_l1In_m
  by_cases h1 : a ≤ x
  · by_cases h2 : x ≤ b
    · simp [h1, h2]
    · simp [h1, h2]
  · simp [h1]

def spec_IsSet_b1 (x0 : (List Int)) (k6 : Nat) : Bool ⊕ (Unit) :=
  cond (spec_l1In_m (gt x0 k6) 0 23) (cond (decide (0 < ((k6 : Nat) : Int))) (cond (decide ((gt x0 k6) ≤ (gt x0 (k6 - 1)))) (Sum.inl false) (Sum.inr ())) (Sum.inr ())) (Sum.inl false)
def spec_IsSet_m (x0 : (List Int)) : Bool :=
  Sum.elim id (fun (s : Unit) => true) (rng (R := Bool) (fun k (_ : Unit) => spec_IsSet_b1 x0 k) (x0.length - 0) 0 ())
theorem cb104 : Cb Try.prog 104 := ⟨Try.f104, _, Try.func104, rfl, by decide⟩
set_option maxRecDepth 10000 in
set_option maxHeartbeats 4000000 in
theorem spec_IsSet_c (w : World) (z0 : Value) (x0 : (List Int)) (r_0 : rdS tInt w w.heap.size z0 x0) :
    Calls Try.prog 104 #[z0] w fun e w' => e = .returned (.bool (spec_IsSet_m x0)) ∧ Below w.heap.size w w' := by
  have r5 := r_0
  obtain ⟨m1, A2, c3, rfl, q4⟩ := r_0
  refine call_enterM (L := [(0, .slice A2 x0.length c3)]) (N := 32) Try.func104 rfl rfl (Nat.le_of_ble_eq_true rfl) (argsL_cons rfl argsL_nil) ?_
  refine sr ?_
  refine wa ?_
  refine nt' ?_
  refine CM_seq ?_
  refine sr ?_
  refine wa ?_
  refine nt' ?_
  refine CM_block ?_
  refine CM_loop (σ := Nat × (Unit) × (Unit)) (fun s => [(0, .slice A2 x0.length c3), (3, .int .i64 ((s.1 : Nat) : Int))]) (fun s => []) (fun s => s.1 ≤ x0.length ∧ rng (R := Bool) (fun k (_ : Unit) => spec_IsSet_b1 x0 k) (x0.length - s.1) s.1 s.2.1 = rng (R := Bool) (fun k (_ : Unit) => spec_IsSet_b1 x0 k) (x0.length - 0) 0 ()) (fun s => x0.length - s.1) (0, (), ()) (subL_cons rfl (subL_cons rfl subL_nil)) (fun W hm => hm) ⟨(by omega), rfl⟩ ?_
  rintro ⟨k6, ⟨⟩, ⟨⟩⟩ H9
  obtain ⟨hk7, hF8⟩ : k6 ≤ x0.length ∧ rng (R := Bool) (fun k (_ : Unit) => spec_IsSet_b1 x0 k) (x0.length - k6) k6 () = rng (R := Bool) (fun k (_ : Unit) => spec_IsSet_b1 x0 k) (x0.length - 0) 0 () := H9
  show CM Try.prog 32 _ _ _ _ [(0, .slice A2 x0.length c3), (3, .int .i64 ((k6 : Nat) : Int))] []
  refine CM_seq ?_
  refine sr ?_
  refine wm ?_
  refine wm ?_
  refine wv (fun W hm => rv_len Try.underlying33 rfl) ?_
  refine wv (fun W hm => rv_lss rfl rfl) ?_
  refine nt' ?_
  by_cases hl10 : k6 < x0.length
  · have g11 : (decide (((k6 : Nat) : Int) < ((x0.length : Nat) : Int))) = true := decide_eq_true (by omega)
    refine CM_condT rfl g11 ?_
    refine CM_skip ?_
    refine QM_then ?_
    refine CM_seq ?_
    refine CM_block ?_
    refine CM_seq ?_
    refine CM_regionD (by kernel_rfl) (by kernel_rfl) ?_
    refine qm ?_
    refine qm ?_
    obtain ⟨a12, rfl, hb13, he14⟩ := q4 (by omega)
    refine qv (fun W hm => rv_index (sz := 1) (k := k6) Try.underlying33 Try.type3 rfl rfl rfl (by omega)) ?_
    refine qv (fun W hm => rv_load Try.underlying3 rfl rfl ((hm.cell0 (show (a12.add (k6 * 1)).block < w.heap.size from by rw [add_block]; exact hb13.1)).trans (rdS_int he14 k6 (by omega)))) ?_
    refine QR_callV (cl_fn cb110 rfl) (fun W hm => spec_l1In_c W (gt x0 k6) 0 23) (Wd_none rfl) (by decide) ?_
    refine qv (fun W hm => rv_not rfl) ?_
    refine qm ?_
    rcases Bool.eq_false_or_eq_true (spec_l1In_m (gt x0 k6) 0 23) with g16 | g16
    ·
      have hw := spec_l1In_fact g16
      refine qg (fun W hm => rv_move rfl) (nt g16) ?_
      refine qg (fun W hm => rv_gtr rfl rfl) (nt g16) ?_
      refine qg (fun W hm => rv_move rfl) (nt g16) ?_
      by_cases h17 : 0 < ((k6 : Nat) : Int)
      · have g18 : (decide (0 < ((k6 : Nat) : Int))) = true := decide_eq_true h17
        refine qg (fun W hm => rv_move rfl) g18 ?_
        refine qg (fun W hm => rv_move rfl) g18 ?_
        refine qg (fun W hm => rv_index (sz := 1) (k := k6) Try.underlying33 Try.type3 rfl rfl rfl (by omega)) g18 ?_
        refine qg (fun W hm => rv_load Try.underlying3 rfl rfl ((hm.cell0 (show (a12.add (k6 * 1)).block < w.heap.size from by rw [add_block]; exact hb13.1)).trans (rdS_int he14 k6 (by omega)))) g18 ?_
        refine qg (fun W hm => rv_move rfl) g18 ?_
        refine qg (fun W hm => rv_move rfl) g18 ?_
        refine qg (fun W hm => rv_subN (p := k6) (q := 1) rfl rfl (by omega) (by omega)) g18 ?_
        refine qg (fun W hm => rv_index (sz := 1) (k := k6 - 1) Try.underlying33 Try.type3 rfl rfl rfl (by omega)) g18 ?_
        refine qg (fun W hm => rv_load Try.underlying3 rfl rfl ((hm.cell0 (show (a12.add ((k6 - 1) * 1)).block < w.heap.size from by rw [add_block]; exact hb13.1)).trans (rdS_int he14 (k6 - 1) (by omega)))) g18 ?_
        refine qg (fun W hm => rv_leq rfl rfl) g18 ?_
        refine qg (fun W hm => rv_pickT rfl g18 rfl) (nt g16) ?_
        refine qv (fun W hm => rv_pickF rfl (nt g16) rfl) ?_
        refine nq' ?_
        by_cases h19 : (gt x0 k6) ≤ (gt x0 (k6 - 1))
        · have g20 : (decide ((gt x0 k6) ≤ (gt x0 (k6 - 1)))) = true := decide_eq_true h19
          refine CM_condT rfl g20 ?_
          refine sr ?_
          refine wa ?_
          refine nt' ?_
          refine CM_ret ?_
          refine QM_block_ret ?_
          refine QM_then_ret ?_
          refine QM_then_ret ?_
          refine QM_block_ret ?_
          refine QM_then_ret ?_
          exact QM_ret1 rfl rfl (fun W hm => ⟨ret_b (show spec_IsSet_m x0 = false from by unfold spec_IsSet_m; exact fin_inl (rng_ret (body := (fun k (_ : Unit) => spec_IsSet_b1 x0 k)) (k := k6) (s := ()) (show k6 < x0.length from by omega) (show spec_IsSet_b1 x0 k6 = Sum.inl false from by unfold spec_IsSet_b1; exact cond_t g16 (cond_t g18 (cond_t g20 (rfl)))) hF8) rfl), hm.below⟩)
        · have g20 : (decide ((gt x0 k6) ≤ (gt x0 (k6 - 1)))) = false := decide_eq_false h19
          refine CM_condF rfl g20 ?_
          refine CM_skip ?_
          refine QM_block_normal ?_
          refine QM_then ?_
          refine CM_region ?_
          refine wm ?_
          refine wv (fun W hm => rv_addN (p := k6) (q := 1) rfl rfl (by omega)) ?_
          refine wa ?_
          refine WM_nil ?_
          have hn21 := rng_next (R := Bool) (body := (fun k (_ : Unit) => spec_IsSet_b1 x0 k)) (k := k6) (s := ()) (s' := ()) (show k6 < x0.length from by omega) (show spec_IsSet_b1 x0 k6 = Sum.inr () from by unfold spec_IsSet_b1; exact cond_t g16 (cond_t g18 (cond_f g20 (rfl)))) hF8
          exact QM_round (k6 + 1, (), ()) (subL_cons rfl (subL_cons rfl subL_nil)) (fun W hm => hm) ⟨(by omega), hn21⟩ (show x0.length - (k6 + 1) < x0.length - k6 from by omega)
      · have g18 : (decide (0 < ((k6 : Nat) : Int))) = false := decide_eq_false h17
        refine qs g18 ?_
        refine qs g18 ?_
        refine qs g18 ?_
        refine qs g18 ?_
        refine qs g18 ?_
        refine qs g18 ?_
        refine qs g18 ?_
        refine qs g18 ?_
        refine qs g18 ?_
        refine qs g18 ?_
        refine qg (fun W hm => rv_pickF rfl g18 rfl) (nt g16) ?_
        refine qv (fun W hm => rv_pickF rfl (nt g16) rfl) ?_
        refine nq' ?_
        refine CM_condF rfl rfl ?_
        refine CM_skip ?_
        refine QM_block_normal ?_
        refine QM_then ?_
        refine CM_region ?_
        refine wm ?_
        refine wv (fun W hm => rv_addN (p := k6) (q := 1) rfl rfl (by omega)) ?_
        refine wa ?_
        refine WM_nil ?_
        have hn22 := rng_next (R := Bool) (body := (fun k (_ : Unit) => spec_IsSet_b1 x0 k)) (k := k6) (s := ()) (s' := ()) (show k6 < x0.length from by omega) (show spec_IsSet_b1 x0 k6 = Sum.inr () from by unfold spec_IsSet_b1; exact cond_t g16 (cond_f g18 (rfl))) hF8
        exact QM_round (k6 + 1, (), ()) (subL_cons rfl (subL_cons rfl subL_nil)) (fun W hm => hm) ⟨(by omega), hn22⟩ (show x0.length - (k6 + 1) < x0.length - k6 from by omega)
    ·
      refine qs (nf g16) ?_
      refine qs (nf g16) ?_
      refine qs (nf g16) ?_
      refine qu ?_
      refine qu ?_
      refine qu ?_
      refine qu ?_
      refine qu ?_
      refine qu ?_
      refine qu ?_
      refine qu ?_
      refine qu ?_
      refine qu ?_
      refine qs (nf g16) ?_
      refine qv (fun W hm => rv_pickT rfl (nf g16) rfl) ?_
      refine nq' ?_
      refine CM_condT rfl rfl ?_
      refine sr ?_
      refine wa ?_
      refine nt' ?_
      refine CM_ret ?_
      refine QM_block_ret ?_
      refine QM_then_ret ?_
      refine QM_then_ret ?_
      refine QM_block_ret ?_
      refine QM_then_ret ?_
      exact QM_ret1 rfl rfl (fun W hm => ⟨ret_b (show spec_IsSet_m x0 = false from by unfold spec_IsSet_m; exact fin_inl (rng_ret (body := (fun k (_ : Unit) => spec_IsSet_b1 x0 k)) (k := k6) (s := ()) (show k6 < x0.length from by omega) (show spec_IsSet_b1 x0 k6 = Sum.inl false from by unfold spec_IsSet_b1; exact cond_f g16 (rfl)) hF8) rfl), hm.below⟩)
  · have g11 : (decide (((k6 : Nat) : Int) < ((x0.length : Nat) : Int))) = false := decide_eq_false (by omega)
    refine CM_condF rfl g11 ?_
    refine CM_exit ?_
    refine QM_then_exit ?_
    refine QM_then_exit ?_
    have hE23 : rng (R := Bool) (fun k (_ : Unit) => spec_IsSet_b1 x0 k) (x0.length - 0) 0 () = Sum.inr () := rng_end hl10 hF8
    refine QM_block_hit ?_
    refine QM_then ?_
    refine sr ?_
    refine wa ?_
    refine nt' ?_
    refine CM_ret ?_
    exact QM_ret1 rfl rfl (fun W hm => ⟨ret_b (show spec_IsSet_m x0 = true from by unfold spec_IsSet_m; exact fin_inr hE23 (rfl)), hm.below⟩)

def spec_HasMember_b1 (x0 : (List Int)) (x1 : Int) (k6 : Nat) : Bool ⊕ (Unit) :=
  cond ((gt x0 k6) == x1) (Sum.inl true) (Sum.inr ())
def spec_HasMember_m (x0 : (List Int)) (x1 : Int) : Bool :=
  Sum.elim id (fun (s : Unit) => false) (rng (R := Bool) (fun k (_ : Unit) => spec_HasMember_b1 x0 x1 k) (x0.length - 0) 0 ())
theorem cb57 : Cb Try.prog 57 := ⟨Try.f57, _, Try.func57, rfl, by decide⟩
set_option maxRecDepth 10000 in
set_option maxHeartbeats 4000000 in
theorem spec_HasMember_c (w : World) (z0 : Value) (x0 : (List Int)) (x1 : Int) (r_0 : rdS tInt w w.heap.size z0 x0) :
    Calls Try.prog 57 #[z0, .int .i64 x1] w fun e w' => e = .returned (.bool (spec_HasMember_m x0 x1)) ∧ Below w.heap.size w w' := by
  have r5 := r_0
  obtain ⟨m1, A2, c3, rfl, q4⟩ := r_0
  refine call_enterM (L := [(0, .slice A2 x0.length c3), (1, .int .i64 x1)]) (N := 18) Try.func57 rfl rfl (Nat.le_of_ble_eq_true rfl) (argsL_cons rfl (argsL_cons rfl argsL_nil)) ?_
  refine sr ?_
  refine wa ?_
  refine nt' ?_
  refine CM_seq ?_
  refine sr ?_
  refine wa ?_
  refine nt' ?_
  refine CM_block ?_
  refine CM_loop (σ := Nat × (Unit) × (Unit)) (fun s => [(0, .slice A2 x0.length c3), (1, .int .i64 x1), (5, .int .i64 ((s.1 : Nat) : Int))]) (fun s => []) (fun s => s.1 ≤ x0.length ∧ rng (R := Bool) (fun k (_ : Unit) => spec_HasMember_b1 x0 x1 k) (x0.length - s.1) s.1 s.2.1 = rng (R := Bool) (fun k (_ : Unit) => spec_HasMember_b1 x0 x1 k) (x0.length - 0) 0 ()) (fun s => x0.length - s.1) (0, (), ()) (subL_cons rfl (subL_cons rfl (subL_cons rfl subL_nil))) (fun W hm => hm) ⟨(by omega), rfl⟩ ?_
  rintro ⟨k6, ⟨⟩, ⟨⟩⟩ H9
  obtain ⟨hk7, hF8⟩ : k6 ≤ x0.length ∧ rng (R := Bool) (fun k (_ : Unit) => spec_HasMember_b1 x0 x1 k) (x0.length - k6) k6 () = rng (R := Bool) (fun k (_ : Unit) => spec_HasMember_b1 x0 x1 k) (x0.length - 0) 0 () := H9
  show CM Try.prog 18 _ _ _ _ [(0, .slice A2 x0.length c3), (1, .int .i64 x1), (5, .int .i64 ((k6 : Nat) : Int))] []
  refine CM_seq ?_
  refine sr ?_
  refine wm ?_
  refine wm ?_
  refine wv (fun W hm => rv_len Try.underlying33 rfl) ?_
  refine wv (fun W hm => rv_lss rfl rfl) ?_
  refine nt' ?_
  by_cases hl10 : k6 < x0.length
  · have g11 : (decide (((k6 : Nat) : Int) < ((x0.length : Nat) : Int))) = true := decide_eq_true (by omega)
    refine CM_condT rfl g11 ?_
    refine CM_skip ?_
    refine QM_then ?_
    refine CM_seq ?_
    refine CM_block ?_
    refine sr ?_
    refine wm ?_
    refine wm ?_
    obtain ⟨a12, rfl, hb13, he14⟩ := q4 (by omega)
    refine wv (fun W hm => rv_index (sz := 1) (k := k6) Try.underlying33 Try.type3 rfl rfl rfl (by omega)) ?_
    refine wv (fun W hm => rv_load Try.underlying3 rfl rfl ((hm.cell0 (show (a12.add (k6 * 1)).block < w.heap.size from by rw [add_block]; exact hb13.1)).trans (rdS_int he14 k6 (by omega)))) ?_
    refine wm ?_
    refine wv (fun W hm => rv_eql rfl rfl) ?_
    refine nt' ?_
    by_cases h15 : (gt x0 k6) = x1
    · have g16 : ((gt x0 k6) == x1) = true := beq_iff_eq.2 h15
      refine CM_condT rfl g16 ?_
      refine sr ?_
      refine wa ?_
      refine nt' ?_
      refine CM_ret ?_
      refine QM_block_ret ?_
      refine QM_then_ret ?_
      refine QM_then_ret ?_
      refine QM_block_ret ?_
      refine QM_then_ret ?_
      exact QM_ret1 rfl rfl (fun W hm => ⟨ret_b (show spec_HasMember_m x0 x1 = true from by unfold spec_HasMember_m; exact fin_inl (rng_ret (body := (fun k (_ : Unit) => spec_HasMember_b1 x0 x1 k)) (k := k6) (s := ()) (show k6 < x0.length from by omega) (show spec_HasMember_b1 x0 x1 k6 = Sum.inl true from by unfold spec_HasMember_b1; exact cond_t g16 (rfl)) hF8) rfl), hm.below⟩)
    · have g16 : ((gt x0 k6) == x1) = false := beq_eq_false_iff_ne.2 h15
      refine CM_condF rfl g16 ?_
      refine CM_skip ?_
      refine QM_block_normal ?_
      refine QM_then ?_
      refine CM_region ?_
      refine wm ?_
      refine wv (fun W hm => rv_addN (p := k6) (q := 1) rfl rfl (by omega)) ?_
      refine wa ?_
      refine WM_nil ?_
      have hn17 := rng_next (R := Bool) (body := (fun k (_ : Unit) => spec_HasMember_b1 x0 x1 k)) (k := k6) (s := ()) (s' := ()) (show k6 < x0.length from by omega) (show spec_HasMember_b1 x0 x1 k6 = Sum.inr () from by unfold spec_HasMember_b1; exact cond_f g16 (rfl)) hF8
      exact QM_round (k6 + 1, (), ()) (subL_cons rfl (subL_cons rfl (subL_cons rfl subL_nil))) (fun W hm => hm) ⟨(by omega), hn17⟩ (show x0.length - (k6 + 1) < x0.length - k6 from by omega)
  · have g11 : (decide (((k6 : Nat) : Int) < ((x0.length : Nat) : Int))) = false := decide_eq_false (by omega)
    refine CM_condF rfl g11 ?_
    refine CM_exit ?_
    refine QM_then_exit ?_
    refine QM_then_exit ?_
    have hE18 : rng (R := Bool) (fun k (_ : Unit) => spec_HasMember_b1 x0 x1 k) (x0.length - 0) 0 () = Sum.inr () := rng_end hl10 hF8
    refine QM_block_hit ?_
    refine QM_then ?_
    refine sr ?_
    refine wa ?_
    refine nt' ?_
    refine CM_ret ?_
    exact QM_ret1 rfl rfl (fun W hm => ⟨ret_b (show spec_HasMember_m x0 x1 = false from by unfold spec_HasMember_m; exact fin_inr hE18 (rfl)), hm.below⟩)

def spec_MeetSets_b1 (x0 : (List Int)) (x1 : (List Int)) (k15 : Nat) (d16 : (List Int)) : (List Int) ⊕ (((List Int)) ⊕ ((List Int))) :=
  cond (spec_IsSet_m x0) (cond (spec_IsSet_m x1) (cond (spec_HasMember_m x1 (gt x0 k15)) (Sum.inr (Sum.inr (d16 ++ [(gt x0 k15)]))) (Sum.inr (Sum.inr d16))) (Sum.inr (Sum.inl d16))) (Sum.inr (Sum.inl d16))
def spec_MeetSets_m (x0 : (List Int)) (x1 : (List Int)) : (List Int) :=
  Sum.elim id (fun (s : (List Int)) => s) (rngb (R := (List Int)) (fun k (s : (List Int)) => spec_MeetSets_b1 x0 x1 k s) (x0.length - 0) 0 [])
theorem cb65 : Cb Try.prog 65 := ⟨Try.f65, _, Try.func65, rfl, by decide⟩
set_option maxRecDepth 10000 in
set_option maxHeartbeats 4000000 in
theorem spec_MeetSets_c (w : World) (z0 : Value) (x0 : (List Int)) (z1 : Value) (x1 : (List Int)) (r_0 : rdS tInt w w.heap.size z0 x0) (r_1 : rdS tInt w w.heap.size z1 x1) (s_0 : x0.length ≤ 68719476736) (s_1 : x1.length ≤ 68719476736) :
    Calls Try.prog 65 #[z0, z1] w fun e w' => ∃ v : Value, e = .returned (v) ∧ Mem w.heap.size w [iOwn (tSl tInt 3) [v] (spec_MeetSets_m x0 x1)] w' := by
  have r5 := r_0
  obtain ⟨m1, A2, c3, rfl, q4⟩ := r_0
  have r10 := r_1
  obtain ⟨m6, A7, c8, rfl, q9⟩ := r_1
  have l11 : x0.length ≤ 68719476736 := s_0
  have l12 : x1.length ≤ 68719476736 := s_1
  refine call_enterM (L := [(0, .slice A2 x0.length c3), (1, .slice A7 x1.length c8)]) (N := 36) Try.func65 rfl rfl (Nat.le_of_ble_eq_true rfl) (argsL_cons rfl (argsL_cons rfl argsL_nil)) ?_
  refine sr ?_
  refine wa ?_
  refine nt' ?_
  refine sr ?_
  refine WM_build0 (E := tInt) Try.underlying33 Try.type3 (Wd_none rfl) (by decide) (fun p13 => ?_)
  refine wa ?_
  refine nt' ?_
  refine CM_seq ?_
  refine sr ?_
  refine wa ?_
  refine nt' ?_
  refine CM_cut (σ := ((List Int)) × (Option Addr × Nat)) (fun s => [(5, .slice s.2.1 s.1.length s.2.2)]) (fun s => [iOwn (tSl tInt 3) [.slice s.2.1 s.1.length s.2.2] s.1]) (fun s => rngb (R := (List Int)) (fun k (s : (List Int)) => spec_MeetSets_b1 x0 x1 k s) (x0.length - 0) 0 [] = Sum.inr s.1) ?_ ?_
  ·
    refine CM_block ?_
    refine CM_loop (σ := Nat × ((List Int)) × (Option Addr × Nat)) (fun s => [(0, .slice A2 x0.length c3), (1, .slice A7 x1.length c8), (5, .slice s.2.2.1 s.2.1.length s.2.2.2), (6, .int .i64 ((s.1 : Nat) : Int))]) (fun s => [iOwn (tSl tInt 3) [.slice s.2.2.1 s.2.1.length s.2.2.2] s.2.1]) (fun s => s.1 ≤ x0.length ∧ rngb (R := (List Int)) (fun k (s : (List Int)) => spec_MeetSets_b1 x0 x1 k s) (x0.length - s.1) s.1 s.2.1 = rngb (R := (List Int)) (fun k (s : (List Int)) => spec_MeetSets_b1 x0 x1 k s) (x0.length - 0) 0 [] ∧ s.2.1.length ≤ 0 + s.1) (fun s => x0.length - s.1) (0, [], ((some ⟨p13, 0, none⟩), 0)) (subL_cons rfl (subL_cons rfl (subL_cons rfl (subL_cons rfl subL_nil)))) (fun W hm => hm) ⟨(by omega), rfl, Nat.le_refl _⟩ ?_
    rintro ⟨k15, d16, ⟨A17, c18⟩⟩ H21
    obtain ⟨hk19, hF20, hi22⟩ : k15 ≤ x0.length ∧ rngb (R := (List Int)) (fun k (s : (List Int)) => spec_MeetSets_b1 x0 x1 k s) (x0.length - k15) k15 d16 = rngb (R := (List Int)) (fun k (s : (List Int)) => spec_MeetSets_b1 x0 x1 k s) (x0.length - 0) 0 [] ∧ d16.length ≤ 0 + k15 := H21
    show CM Try.prog 36 _ _ _ _ [(0, .slice A2 x0.length c3), (1, .slice A7 x1.length c8), (5, .slice A17 d16.length c18), (6, .int .i64 ((k15 : Nat) : Int))] [iOwn (tSl tInt 3) [.slice A17 d16.length c18] d16]
    refine CM_seq ?_
    refine sr ?_
    refine wm ?_
    refine wm ?_
    refine wv (fun W hm => rv_len Try.underlying33 rfl) ?_
    refine wv (fun W hm => rv_lss rfl rfl) ?_
    refine wm ?_
    by_cases hl23 : k15 < x0.length
    · have g24 : (decide (((k15 : Nat) : Int) < ((x0.length : Nat) : Int))) = true := decide_eq_true (by omega)
      refine wg (fun W hm => rv_move rfl) g24 ?_
      refine WM_callV (cl_fn cb104 rfl) (fun W hm => spec_IsSet_c W _ x0 (hm.rdS0 r5)) (Wd_some rfl rfl rfl (bw g24 rfl)) (by decide) ?_
      refine wv (fun W hm => rv_pickT rfl g24 rfl) ?_
      refine wm ?_
      rcases Bool.eq_false_or_eq_true (spec_IsSet_m x0) with g26 | g26
      ·
        refine wg (fun W hm => rv_move rfl) g26 ?_
        refine WM_callV (cl_fn cb104 rfl) (fun W hm => spec_IsSet_c W _ x1 (hm.rdS0 r10)) (Wd_some rfl rfl rfl (bw g26 rfl)) (by decide) ?_
        refine wv (fun W hm => rv_pickT rfl g26 rfl) ?_
        refine nt' ?_
        rcases Bool.eq_false_or_eq_true (spec_IsSet_m x1) with g28 | g28
        ·
          refine CM_condT rfl g28 ?_
          refine CM_skip ?_
          refine QM_then ?_
          refine CM_seq ?_
          refine CM_block ?_
          refine sr ?_
          refine wm ?_
          refine wm ?_
          refine wm ?_
          obtain ⟨a29, rfl, hb30, he31⟩ := q4 (by omega)
          refine wv (fun W hm => rv_index (sz := 1) (k := k15) Try.underlying33 Try.type3 rfl rfl rfl (by omega)) ?_
          refine wv (fun W hm => rv_load Try.underlying3 rfl rfl ((hm.cell0 (show (a29.add (k15 * 1)).block < w.heap.size from by rw [add_block]; exact hb30.1)).trans (rdS_int he31 k15 (by omega)))) ?_
          refine WM_callV (cl_fn cb57 rfl) (fun W hm => spec_HasMember_c W _ x1 (gt x0 k15) (hm.rdS0 r10)) (Wd_none rfl) (by decide) ?_
          refine nt' ?_
          rcases Bool.eq_false_or_eq_true (spec_HasMember_m x1 (gt x0 k15)) with g33 | g33
          ·
            refine CM_condT rfl g33 ?_
            refine CM_region ?_
            refine wm ?_
            refine wm ?_
            refine wm ?_
            refine wv (fun W hm => rv_index (sz := 1) (k := k15) Try.underlying33 Try.type3 rfl rfl rfl (by omega)) ?_
            refine wv (fun W hm => rv_load Try.underlying3 rfl rfl ((hm.cell0 (show (a29.add (k15 * 1)).block < w.heap.size from by rw [add_block]; exact hb30.1)).trans (rdS_int he31 k15 (by omega)))) ?_
            refine WM_build (cs := [.int .i64 (gt x0 k15)]) Try.underlying33 Try.type3 rfl (by decide) (by decide) rfl (by kernel_rfl) (Wd_none rfl) (by decide) (fun p34 => ?_)
            refine WM_append (E := tInt) (e := 3) (v := .slice A17 d16.length c18) (p := p34) (q := 1) (xs := d16) (ys := [(gt x0 k15)]) (eis := []) (js := []) (news := [.int .i64 (gt x0 k15)]) (fun W hm => hm) (fun _ _ hs => by cases (Sep.nil hs); exact (els_cons tInt_own els_nil)) Try.underlying33 Try.type3 rfl rfl rfl (Nat.le_of_ble_eq_true rfl) rfl rfl rfl (show (d16.length + 1) * 8 ≤ 140737488355328 from by omega) (show d16.length + 1 ≤ 9223372036854775807 from by omega) (Wd_none rfl) (by decide) (fun v35 => ?_)
            refine WM_form (n := 0) rfl ?_
            rintro A36 c37 rfl m38
            refine wa ?_
            refine WM_nil ?_
            refine QM_block_normal ?_
            refine QM_then ?_
            refine CM_region ?_
            refine wm ?_
            refine wv (fun W hm => rv_addN (p := k15) (q := 1) rfl rfl (by omega)) ?_
            refine wa ?_
            refine WM_nil ?_
            have hn40 := rngb_next (R := (List Int)) (body := (fun k (s : (List Int)) => spec_MeetSets_b1 x0 x1 k s)) (k := k15) (s := d16) (s' := (d16 ++ [(gt x0 k15)])) (show k15 < x0.length from by omega) (show spec_MeetSets_b1 x0 x1 k15 d16 = Sum.inr (Sum.inr (d16 ++ [(gt x0 k15)])) from by unfold spec_MeetSets_b1; exact cond_t g26 (cond_t g28 (cond_t g33 (rfl)))) hF20
            exact QM_round (k15 + 1, (d16 ++ [(gt x0 k15)]), (A36, c37)) (subL_cons rfl (subL_cons rfl (subL_cons rfl (subL_cons rfl subL_nil)))) (fun W hm => hm) ⟨(by omega), hn40, (show (d16 ++ [(gt x0 k15)]).length ≤ 0 + (k15 + 1) from by first | omega | (simp only [List.length_append, List.length_cons, List.length_nil] at *; omega))⟩ (show x0.length - (k15 + 1) < x0.length - k15 from by omega)
          ·
            refine CM_condF rfl g33 ?_
            refine CM_skip ?_
            refine QM_block_normal ?_
            refine QM_then ?_
            refine CM_region ?_
            refine wm ?_
            refine wv (fun W hm => rv_addN (p := k15) (q := 1) rfl rfl (by omega)) ?_
            refine wa ?_
            refine WM_nil ?_
            have hn41 := rngb_next (R := (List Int)) (body := (fun k (s : (List Int)) => spec_MeetSets_b1 x0 x1 k s)) (k := k15) (s := d16) (s' := d16) (show k15 < x0.length from by omega) (show spec_MeetSets_b1 x0 x1 k15 d16 = Sum.inr (Sum.inr d16) from by unfold spec_MeetSets_b1; exact cond_t g26 (cond_t g28 (cond_f g33 (rfl)))) hF20
            exact QM_round (k15 + 1, d16, (A17, c18)) (subL_cons rfl (subL_cons rfl (subL_cons rfl (subL_cons rfl subL_nil)))) (fun W hm => hm) ⟨(by omega), hn41, (show d16.length ≤ 0 + (k15 + 1) from by first | omega | (simp only [List.length_append, List.length_cons, List.length_nil] at *; omega))⟩ (show x0.length - (k15 + 1) < x0.length - k15 from by omega)
        ·
          refine CM_condF rfl g28 ?_
          refine CM_exit ?_
          refine QM_then_exit ?_
          refine QM_then_exit ?_
          refine QM_block_hit ?_
          have hE42 := rngb_brk (R := (List Int)) (body := (fun k (s : (List Int)) => spec_MeetSets_b1 x0 x1 k s)) (k := k15) (s := d16) (s' := d16) (show k15 < x0.length from by omega) (show spec_MeetSets_b1 x0 x1 k15 d16 = Sum.inr (Sum.inl d16) from by unfold spec_MeetSets_b1; exact cond_t g26 (cond_f g28 (rfl))) hF20
          exact QM_cut_normal (d16, (A17, c18)) (subL_cons rfl subL_nil) (fun W hm => hm) hE42
      ·
        refine ws g26 ?_
        refine ws g26 ?_
        refine wv (fun W hm => rv_pickF rfl g26 rfl) ?_
        refine nt' ?_
        refine CM_condF rfl rfl ?_
        refine CM_exit ?_
        refine QM_then_exit ?_
        refine QM_then_exit ?_
        refine QM_block_hit ?_
        have hE43 := rngb_brk (R := (List Int)) (body := (fun k (s : (List Int)) => spec_MeetSets_b1 x0 x1 k s)) (k := k15) (s := d16) (s' := d16) (show k15 < x0.length from by omega) (show spec_MeetSets_b1 x0 x1 k15 d16 = Sum.inr (Sum.inl d16) from by unfold spec_MeetSets_b1; exact cond_f g26 (rfl)) hF20
        exact QM_cut_normal (d16, (A17, c18)) (subL_cons rfl subL_nil) (fun W hm => hm) hE43
    · have g24 : (decide (((k15 : Nat) : Int) < ((x0.length : Nat) : Int))) = false := decide_eq_false (by omega)
      refine ws g24 ?_
      refine ws g24 ?_
      refine wv (fun W hm => rv_pickF rfl g24 rfl) ?_
      refine wm ?_
      refine WM_skip (Wd_some rfl rfl rfl rfl) rfl (by decide) ?_
      refine WM_skip (Wd_some rfl rfl rfl rfl) rfl (by decide) ?_
      refine wv (fun W hm => rv_pickF rfl rfl rfl) ?_
      refine nt' ?_
      refine CM_condF rfl rfl ?_
      refine CM_exit ?_
      refine QM_then_exit ?_
      refine QM_then_exit ?_
      refine QM_block_hit ?_
      have hE44 : rngb (R := (List Int)) (fun k (s : (List Int)) => spec_MeetSets_b1 x0 x1 k s) (x0.length - 0) 0 [] = Sum.inr d16 := rngb_end hl23 hF20
      exact QM_cut_normal (d16, (A17, c18)) (subL_cons rfl subL_nil) (fun W hm => hm) hE44
  ·
    rintro ⟨d16, ⟨A17, c18⟩⟩ H46
    have hE45 : rngb (R := (List Int)) (fun k (s : (List Int)) => spec_MeetSets_b1 x0 x1 k s) (x0.length - 0) 0 [] = Sum.inr d16 := H46
    show QM 36 _ _ _ .normal [(5, .slice A17 d16.length c18)] [iOwn (tSl tInt 3) [.slice A17 d16.length c18] d16]
    refine QM_then ?_
    refine sr ?_
    refine wm ?_
    refine wa ?_
    refine nt' ?_
    refine CM_ret ?_
    refine QM_r1 rfl (RR_tmp rfl) (fun W hm => ⟨.slice A17 d16.length c18, ?_, ?_⟩)
    · first | rw [(show spec_MeetSets_m x0 x1 = d16 from by unfold spec_MeetSets_m; exact fin_inr hE45 (rfl))] | rfl
    · rw [(show spec_MeetSets_m x0 x1 = d16 from by unfold spec_MeetSets_m; exact fin_inr hE45 (rfl))]; exact hm

def spec_l3Copy_m (x0 : DRow) : DRow :=
  x0
theorem cb58 : Cb Try.prog 58 := ⟨Try.f58, _, Try.func58, rfl, by decide⟩
set_option maxRecDepth 10000 in
set_option maxHeartbeats 4000000 in
theorem spec_l3Copy_c (w : World) (z0 : List Value) (x0 : DRow) (r_0 : tyRow.rd w w.heap.size z0 x0) (s_0 : smRow 68719476736 x0) :
    Calls Try.prog 58 #[.agg z0.toArray] w fun e w' => ∃ v : List Value, e = .returned (.agg v.toArray) ∧ Mem w.heap.size w [iOwn tyRow v (spec_l3Copy_m x0)] w' := by
  obtain ⟨v1, rfl, r2⟩ := tyRow_rd r_0
  have r7 := r2
  obtain ⟨m3, A4, c5, rfl, q6⟩ := r2
  have l8 : x0.Values.length ≤ 68719476736 := s_0
  refine call_enterM (L := [(0, .agg #[.int .i64 x0.Id, .slice A4 x0.Values.length c5])]) (N := 10) Try.func58 rfl rfl (Nat.le_of_ble_eq_true rfl) (argsL_cons rfl argsL_nil) ?_
  refine sr ?_
  refine WM_box rfl (Wd_none rfl) (by decide) (fun p9 => ?_)
  refine WM_alloc Try.type69 rfl (Wd_none rfl) (by decide) (fun p10 => ?_)
  refine nt' ?_
  refine CM_seq ?_
  refine CM_regionB (n := 8) (listed := #[false, false, false, false, false, false, false, false]) (s := [iBox p9 69 [.int .i64 x0.Id, .slice A4 x0.Values.length c5]]) (by kernel_rfl) rfl (by kernel_rfl) (fun W hm => (hm.pick [1] (by decide))) ?_
  refine QB_take 0 (listed' := #[true, false, false, false, false, false, false, false]) (by kernel_rfl) rfl (by kernel_rfl) (by kernel_rfl) (by kernel_rfl) (fun _ _ _ h => h) (fun W hm => rv_field Try.underlying69 rfl Try.type3 (by decide) rfl rfl) (Wd_none rfl) rfl (by decide) ?_
  refine QB_take 1 (listed' := #[true, true, false, false, false, false, false, false]) (by kernel_rfl) rfl (by kernel_rfl) (by kernel_rfl) (by kernel_rfl) (fun _ _ _ h => h) (fun W hm => rv_load Try.underlying3 rfl rfl (hm.boxCell (n := 0) (o := 0) rfl rfl)) (Wd_none rfl) rfl (by decide) ?_
  refine QB_take 3 (listed' := #[true, true, false, true, false, false, false, false]) (by kernel_rfl) rfl (by kernel_rfl) (by kernel_rfl) (by kernel_rfl) (fun _ _ _ h => h) (fun W hm => rv_field Try.underlying69 rfl Try.type33 (by decide) rfl rfl) (Wd_none rfl) rfl (by decide) ?_
  refine QB_take 4 (listed' := #[true, true, false, true, true, false, false, false]) (by kernel_rfl) rfl (by kernel_rfl) (by kernel_rfl) (by kernel_rfl) (fun _ _ _ h => h) (fun W hm => rv_load Try.underlying33 rfl rfl (hm.boxCell (n := 0) (o := 1) rfl rfl)) (Wd_none rfl) rfl (by decide) ?_
  refine QB_one 2 (listed' := #[true, true, true, true, true, false, false, false]) (by kernel_rfl) rfl (by kernel_rfl) ?_
  refine WM_build0 (E := tInt) Try.underlying33 Try.type3 (Wd_none rfl) (by decide) (fun p11 => ?_)
  refine WM_nil ?_
  refine QB_next (fun W hm => (hm.pick [2] (by decide))) ?_
  refine QB_one 5 (listed' := #[true, true, true, true, true, true, false, false]) (by kernel_rfl) rfl (by kernel_rfl) ?_
  refine WM_appendR (F := tInt) (E := tInt) (e := 3) (v := .slice (some ⟨p11, 0, none⟩) 0 0) (xs := []) (ys := x0.Values) (js := [iBox p10 69 [.int .i64 0, .slice none 0 0], iBox p9 69 [.int .i64 x0.Id, .slice A4 x0.Values.length c5]]) (fun W hm => hm) (fun W hm => src_flat flat_int (hm.rdS0 r7)) Try.underlying33 Try.type3 rfl rfl rfl (Nat.le_of_ble_eq_true rfl) rfl rfl (show ([].length + x0.Values.length) * 8 ≤ 140737488355328 from by first | omega | (simp only [List.length_append, List.length_cons, List.length_nil] at *; omega)) (show [].length + x0.Values.length ≤ 9223372036854775807 from by first | omega | (simp only [List.length_append, List.length_cons, List.length_nil] at *; omega)) (Wd_none rfl) (by decide) (fun v13 => ?_)
  refine WM_form (n := 0) rfl ?_
  rintro A14 c15 rfl m16
  refine WM_nil ?_
  refine QB_next (fun W hm => (hm.pick [2] (by decide))) ?_
  refine QB_take 6 (listed' := #[true, true, true, true, true, true, true, false]) (by kernel_rfl) rfl (by kernel_rfl) (by kernel_rfl) (by kernel_rfl) (fun _ _ _ h => h) (fun W hm => rv_build (cs := [.int .i64 x0.Id, .slice A14 x0.Values.length c15]) rfl (by kernel_rfl)) (Wd_none rfl) rfl (by decide) ?_
  refine QB_one 7 (listed' := #[true, true, true, true, true, true, true, true]) (by kernel_rfl) rfl (by kernel_rfl) ?_
  refine WM_storeBox (p := p10) (o := 0) (cs := [.int .i64 0, .slice none 0 0]) (cs' := [.int .i64 x0.Id, .slice A14 x0.Values.length c15]) (js := [iOwn (tSl tInt 3) [.slice A14 x0.Values.length c15] x0.Values, iBox p9 69 [.int .i64 x0.Id, .slice A4 x0.Values.length c5]]) (fun W hm => (hm.pick [1, 0, 2] (by decide))) Try.type69 rfl (Nat.le_of_ble_eq_true rfl) rfl rfl rfl rfl (Wd_none rfl) ?_
  refine WM_nil ?_
  refine QB_next (fun W hm => (hm.pick [2] (by decide))) ?_
  refine QB_done (by kernel_rfl) ?_
  refine QM_then ?_
  refine CM_ret ?_
  refine QM_r1 rfl (RR_cell (n := 0) rfl rfl Try.underlying69 Try.type69 rfl) (fun W hm => ⟨[.int .i64 x0.Id, .slice A14 x0.Values.length c15], ?_, ?_⟩)
  · first | rw [(show spec_l3Copy_m x0 = x0 from by unfold spec_l3Copy_m; exact rfl)] | rfl
  · rw [(show spec_l3Copy_m x0 = x0 from by unfold spec_l3Copy_m; exact rfl)]; exact Mem.join (is := [iOwn (tSl tInt 3) [.slice A14 x0.Values.length c15] x0.Values]) (js := []) (fun _ _ hs => tyRow_join (x := x0) hs) (hm.pick [1] (by decide))
theorem spec_l3Copy_eq (x0 : DRow) : spec_l3Copy_m x0 = x0 := by
  rfl
theorem spec_l3Copy_c2 (w : World) (z0 : List Value) (x0 : DRow) (r_0 : tyRow.rd w w.heap.size z0 x0) (s_0 : smRow 68719476736 x0) :
    Calls Try.prog 58 #[.agg z0.toArray] w fun e w' => ∃ v : List Value, e = .returned (.agg v.toArray) ∧ Mem w.heap.size w [iOwn tyRow v x0] w' := by
  have h := spec_l3Copy_c w z0 x0 r_0 s_0
  rw [spec_l3Copy_eq] at h
  exact h

def spec_KeepSet_b1 (x0 : (List DAnnotated)) (x1 : (List Int)) (k15 : Nat) (d16 : (List DAnnotated)) : (List DAnnotated) ⊕ ((List DAnnotated)) :=
  cond (decide (0 < (((spec_MeetSets_m ((gt x0 k15).Set) x1).length : Nat) : Int))) (Sum.inr (d16 ++ [(⟨((gt x0 k15).Row), (spec_MeetSets_m ((gt x0 k15).Set) x1)⟩ : DAnnotated)])) (Sum.inr d16)
def spec_KeepSet_m (x0 : (List DAnnotated)) (x1 : (List Int)) : (List DAnnotated) :=
  Sum.elim id (fun (s : (List DAnnotated)) => s) (rng (R := (List DAnnotated)) (fun k (s : (List DAnnotated)) => spec_KeepSet_b1 x0 x1 k s) (x0.length - 0) 0 [])
theorem cb20 : Cb Try.prog 20 := ⟨Try.f20, _, Try.func20, rfl, by decide⟩
set_option maxRecDepth 10000 in
set_option maxHeartbeats 4000000 in
theorem spec_KeepSet_c (w : World) (z0 : Value) (x0 : (List DAnnotated)) (z1 : Value) (x1 : (List Int)) (r_0 : rdS tyAnnotated w w.heap.size z0 x0) (r_1 : rdS tInt w w.heap.size z1 x1) (s_0 : (x0.length ≤ 68719476736 ∧ ∀ y ∈ x0, smAnnotated 68719476736 y)) (s_1 : x1.length ≤ 68719476736) :
    Calls Try.prog 20 #[z0, z1] w fun e w' => ∃ v : Value, e = .returned (v) ∧ Mem w.heap.size w [iOwn (tSl tyAnnotated 91) [v] (spec_KeepSet_m x0 x1)] w' := by
  have r5 := r_0
  obtain ⟨m1, A2, c3, rfl, q4⟩ := r_0
  have r10 := r_1
  obtain ⟨m6, A7, c8, rfl, q9⟩ := r_1
  have l11 : x0.length ≤ 68719476736 := s_0.1
  have l12 : x1.length ≤ 68719476736 := s_1
  refine call_enterM (L := [(0, .slice A2 x0.length c3), (1, .slice A7 x1.length c8)]) (N := 37) Try.func20 rfl rfl (Nat.le_of_ble_eq_true rfl) (argsL_cons rfl (argsL_cons rfl argsL_nil)) ?_
  refine sr ?_
  refine wa ?_
  refine nt' ?_
  refine sr ?_
  refine WM_build0 (E := tyAnnotated) Try.underlying26 Try.type91 (Wd_none rfl) (by decide) (fun p13 => ?_)
  refine wa ?_
  refine nt' ?_
  refine CM_seq ?_
  refine sr ?_
  refine wa ?_
  refine nt' ?_
  refine CM_block ?_
  refine CM_loop (σ := Nat × ((List DAnnotated)) × (Option Addr × Nat)) (fun s => [(0, .slice A2 x0.length c3), (1, .slice A7 x1.length c8), (5, .slice s.2.2.1 s.2.1.length s.2.2.2), (6, .int .i64 ((s.1 : Nat) : Int))]) (fun s => [iOwn (tSl tyAnnotated 91) [.slice s.2.2.1 s.2.1.length s.2.2.2] s.2.1]) (fun s => s.1 ≤ x0.length ∧ rng (R := (List DAnnotated)) (fun k (s : (List DAnnotated)) => spec_KeepSet_b1 x0 x1 k s) (x0.length - s.1) s.1 s.2.1 = rng (R := (List DAnnotated)) (fun k (s : (List DAnnotated)) => spec_KeepSet_b1 x0 x1 k s) (x0.length - 0) 0 [] ∧ s.2.1.length ≤ 0 + s.1) (fun s => x0.length - s.1) (0, [], ((some ⟨p13, 0, none⟩), 0)) (subL_cons rfl (subL_cons rfl (subL_cons rfl (subL_cons rfl subL_nil)))) (fun W hm => hm) ⟨(by omega), rfl, Nat.le_refl _⟩ ?_
  rintro ⟨k15, d16, ⟨A17, c18⟩⟩ H21
  obtain ⟨hk19, hF20, hi22⟩ : k15 ≤ x0.length ∧ rng (R := (List DAnnotated)) (fun k (s : (List DAnnotated)) => spec_KeepSet_b1 x0 x1 k s) (x0.length - k15) k15 d16 = rng (R := (List DAnnotated)) (fun k (s : (List DAnnotated)) => spec_KeepSet_b1 x0 x1 k s) (x0.length - 0) 0 [] ∧ d16.length ≤ 0 + k15 := H21
  show CM Try.prog 37 _ _ _ _ [(0, .slice A2 x0.length c3), (1, .slice A7 x1.length c8), (5, .slice A17 d16.length c18), (6, .int .i64 ((k15 : Nat) : Int))] [iOwn (tSl tyAnnotated 91) [.slice A17 d16.length c18] d16]
  refine CM_seq ?_
  refine sr ?_
  refine wm ?_
  refine wm ?_
  refine wv (fun W hm => rv_len Try.underlying26 rfl) ?_
  refine wv (fun W hm => rv_lss rfl rfl) ?_
  refine nt' ?_
  by_cases hl23 : k15 < x0.length
  · have g24 : (decide (((k15 : Nat) : Int) < ((x0.length : Nat) : Int))) = true := decide_eq_true (by omega)
    refine CM_condT rfl g24 ?_
    refine CM_skip ?_
    refine QM_then ?_
    refine CM_seq ?_
    refine CM_block ?_
    refine sr ?_
    refine wm ?_
    refine wm ?_
    obtain ⟨a25, rfl, hb26, he27⟩ := q4 (by omega)
    refine wv (fun W hm => rv_index (sz := 3) (k := k15) Try.underlying26 Try.type91 rfl rfl rfl (by omega)) ?_
    refine wv (fun W hm => rv_field Try.underlying91 rfl Try.type33 (by decide) rfl rfl) ?_
    obtain ⟨_, e33, hc28⟩ := he27 k15 _ (gt_some (show k15 < x0.length from by omega))
    obtain ⟨v29, v31, rfl, r30, r32⟩ := tyAnnotated_rd e33
    have l34 : ((gt x0 k15).Row.Values).length ≤ 68719476736 := (s_0.2 _ (gt_mem (show k15 < x0.length from by omega))).1
    have l35 : ((gt x0 k15).Set).length ≤ 68719476736 := (s_0.2 _ (gt_mem (show k15 < x0.length from by omega))).2
    have r40 := r30
    obtain ⟨m36, A37, c38, rfl, q39⟩ := r30
    have r45 := r32
    obtain ⟨m41, A42, c43, rfl, q44⟩ := r32
    refine wv (fun W hm => rv_load Try.underlying33 rfl rfl ((hm.cell0 (show ((a25.add (k15 * 3)).add 2).block < w.heap.size from by rw [add_block, add_block]; exact hb26.1)).trans (hc28 2 _ rfl))) ?_
    refine wm ?_
    refine WM_call (χ := Value) (val := fun x => x) (js := fun x => [iOwn (tSl tInt 3) [x] (spec_MeetSets_m ((gt x0 k15).Set) x1)]) (cl_fn cb65 rfl) (fun W hm => spec_MeetSets_c W _ ((gt x0 k15).Set) _ x1 (hm.rdS0 r45) (hm.rdS0 r10) (s_0.2 _ (gt_mem (show k15 < x0.length from by omega))).2 s_1) (Wd_none rfl) (by decide) (fun z46 => ?_)
    refine WM_form (n := 0) rfl ?_
    rintro A47 c48 rfl m49
    refine wa ?_
    refine nt' ?_
    refine sr ?_
    refine wm ?_
    refine wv (fun W hm => rv_len Try.underlying33 rfl) ?_
    refine wv (fun W hm => rv_gtr rfl rfl) ?_
    refine nt' ?_
    by_cases h51 : 0 < (((spec_MeetSets_m ((gt x0 k15).Set) x1).length : Nat) : Int)
    · have g52 : (decide (0 < (((spec_MeetSets_m ((gt x0 k15).Set) x1).length : Nat) : Int))) = true := decide_eq_true h51
      refine CM_condT rfl g52 ?_
      refine CM_region ?_
      refine wm ?_
      refine wm ?_
      refine wm ?_
      refine wv (fun W hm => rv_index (sz := 3) (k := k15) Try.underlying26 Try.type91 rfl rfl rfl (by omega)) ?_
      refine wv (fun W hm => rv_field Try.underlying91 rfl Try.type69 (by decide) rfl rfl) ?_
      refine wv (fun W hm => rv_loadN (cs := [.int .i64 ((gt x0 k15).Row.Id), .slice A37 ((gt x0 k15).Row.Values).length c38]) Try.underlying69 Try.type69 rfl rfl (hm.elPart (show (a25.add (k15 * 3)).block < w.heap.size from by rw [add_block]; exact hb26.1) hc28 rfl)) ?_
      refine WM_call (χ := List Value) (val := fun x => .agg x.toArray) (js := fun x => [iOwn tyRow x ((gt x0 k15).Row)]) (cl_fn cb58 rfl) (fun W hm => spec_l3Copy_c2 W _ ((gt x0 k15).Row) (tyRow_mk (x := ((gt x0 k15).Row)) (hm.rdS0 r40)) (s_0.2 _ (gt_mem (show k15 < x0.length from by omega))).1) (Wd_none rfl) (by decide) (fun z53 => ?_)
      refine WM_split (γ := Value) (js := fun g => [iOwn (tSl tInt 3) [g] (((gt x0 k15).Row).Values)]) (C := fun g => z53 = [.int .i64 (((gt x0 k15).Row).Id), g]) (fun _ _ h => tyRow_split h) ?_
      rintro v54 rfl
      refine WM_form (n := 0) rfl ?_
      rintro A55 c56 rfl m57
      refine wm ?_
      refine wv (fun W hm => rv_build (cs := [.int .i64 (((gt x0 k15).Row).Id), .slice A55 (((gt x0 k15).Row).Values).length c56, .slice A47 (spec_MeetSets_m ((gt x0 k15).Set) x1).length c48]) rfl (by kernel_rfl)) ?_
      refine WM_build (cs := [.int .i64 (((gt x0 k15).Row).Id), .slice A55 (((gt x0 k15).Row).Values).length c56, .slice A47 (spec_MeetSets_m ((gt x0 k15).Set) x1).length c48]) Try.underlying26 Try.type91 rfl (by decide) (by decide) rfl (by kernel_rfl) (Wd_none rfl) (by decide) (fun p59 => ?_)
      refine WM_append (E := tyAnnotated) (e := 91) (v := .slice A17 d16.length c18) (p := p59) (q := 1) (xs := d16) (ys := [(⟨((gt x0 k15).Row), (spec_MeetSets_m ((gt x0 k15).Set) x1)⟩ : DAnnotated)]) (eis := [iOwn (tSl tInt 3) [.slice A55 (((gt x0 k15).Row).Values).length c56] (((gt x0 k15).Row).Values), iOwn (tSl tInt 3) [.slice A47 (spec_MeetSets_m ((gt x0 k15).Set) x1).length c48] (spec_MeetSets_m ((gt x0 k15).Set) x1)]) (js := []) (news := [.int .i64 (((gt x0 k15).Row).Id), .slice A55 (((gt x0 k15).Row).Values).length c56, .slice A47 (spec_MeetSets_m ((gt x0 k15).Set) x1).length c48]) (fun W hm => (hm.pick [0, 3, 1, 2] (by decide))) (fun _ _ hs => Els.single (tyAnnotated_join (x := (⟨((gt x0 k15).Row), (spec_MeetSets_m ((gt x0 k15).Set) x1)⟩ : DAnnotated)) hs)) Try.underlying26 Try.type91 rfl rfl rfl (Nat.le_of_ble_eq_true rfl) rfl rfl rfl (show (d16.length + 1) * 56 ≤ 140737488355328 from by omega) (show d16.length + 1 ≤ 9223372036854775807 from by omega) (Wd_none rfl) (by decide) (fun v60 => ?_)
      refine WM_form (n := 0) rfl ?_
      rintro A61 c62 rfl m63
      refine wa ?_
      refine WM_nil ?_
      refine QM_block_normal ?_
      refine QM_then ?_
      refine CM_region ?_
      refine wm ?_
      refine wv (fun W hm => rv_addN (p := k15) (q := 1) rfl rfl (by omega)) ?_
      refine wa ?_
      refine WM_nil ?_
      have hn65 := rng_next (R := (List DAnnotated)) (body := (fun k (s : (List DAnnotated)) => spec_KeepSet_b1 x0 x1 k s)) (k := k15) (s := d16) (s' := (d16 ++ [(⟨((gt x0 k15).Row), (spec_MeetSets_m ((gt x0 k15).Set) x1)⟩ : DAnnotated)])) (show k15 < x0.length from by omega) (show spec_KeepSet_b1 x0 x1 k15 d16 = Sum.inr (d16 ++ [(⟨((gt x0 k15).Row), (spec_MeetSets_m ((gt x0 k15).Set) x1)⟩ : DAnnotated)]) from by unfold spec_KeepSet_b1; exact cond_t g52 (rfl)) hF20
      exact QM_round (k15 + 1, (d16 ++ [(⟨((gt x0 k15).Row), (spec_MeetSets_m ((gt x0 k15).Set) x1)⟩ : DAnnotated)]), (A61, c62)) (subL_cons rfl (subL_cons rfl (subL_cons rfl (subL_cons rfl subL_nil)))) (fun W hm => hm) ⟨(by omega), hn65, (show (d16 ++ [(⟨((gt x0 k15).Row), (spec_MeetSets_m ((gt x0 k15).Set) x1)⟩ : DAnnotated)]).length ≤ 0 + (k15 + 1) from by first | omega | (simp only [List.length_append, List.length_cons, List.length_nil] at *; omega))⟩ (show x0.length - (k15 + 1) < x0.length - k15 from by omega)
    · have g52 : (decide (0 < (((spec_MeetSets_m ((gt x0 k15).Set) x1).length : Nat) : Int))) = false := decide_eq_false h51
      refine CM_condF rfl g52 ?_
      refine CM_skip ?_
      refine QM_block_normal ?_
      refine QM_then ?_
      refine CM_region ?_
      refine wm ?_
      refine wv (fun W hm => rv_addN (p := k15) (q := 1) rfl rfl (by omega)) ?_
      refine wa ?_
      refine WM_nil ?_
      have hn66 := rng_next (R := (List DAnnotated)) (body := (fun k (s : (List DAnnotated)) => spec_KeepSet_b1 x0 x1 k s)) (k := k15) (s := d16) (s' := d16) (show k15 < x0.length from by omega) (show spec_KeepSet_b1 x0 x1 k15 d16 = Sum.inr d16 from by unfold spec_KeepSet_b1; exact cond_f g52 (rfl)) hF20
      exact QM_round (k15 + 1, d16, (A17, c18)) (subL_cons rfl (subL_cons rfl (subL_cons rfl (subL_cons rfl subL_nil)))) (fun W hm => (hm.pick [1] (by decide))) ⟨(by omega), hn66, (show d16.length ≤ 0 + (k15 + 1) from by first | omega | (simp only [List.length_append, List.length_cons, List.length_nil] at *; omega))⟩ (show x0.length - (k15 + 1) < x0.length - k15 from by omega)
  · have g24 : (decide (((k15 : Nat) : Int) < ((x0.length : Nat) : Int))) = false := decide_eq_false (by omega)
    refine CM_condF rfl g24 ?_
    refine CM_exit ?_
    refine QM_then_exit ?_
    refine QM_then_exit ?_
    have hE67 : rng (R := (List DAnnotated)) (fun k (s : (List DAnnotated)) => spec_KeepSet_b1 x0 x1 k s) (x0.length - 0) 0 [] = Sum.inr d16 := rng_end hl23 hF20
    refine QM_block_hit ?_
    refine QM_then ?_
    refine sr ?_
    refine wm ?_
    refine wa ?_
    refine nt' ?_
    refine CM_ret ?_
    refine QM_r1 rfl (RR_tmp rfl) (fun W hm => ⟨.slice A17 d16.length c18, ?_, ?_⟩)
    · first | rw [(show spec_KeepSet_m x0 x1 = d16 from by unfold spec_KeepSet_m; exact fin_inr hE67 (rfl))] | rfl
    · rw [(show spec_KeepSet_m x0 x1 = d16 from by unfold spec_KeepSet_m; exact fin_inr hE67 (rfl))]; exact hm

def impl_IsSet_b1 (x0 : (List Int)) (k6 : Nat) : Bool ⊕ (Unit) :=
  cond (decide ((gt x0 k6) < 0)) (Sum.inl false) (cond (decide (24 ≤ (gt x0 k6))) (Sum.inl false) (cond (decide (0 < ((k6 : Nat) : Int))) (cond (decide ((gt x0 k6) ≤ (gt x0 (k6 - 1)))) (Sum.inl false) (Sum.inr ())) (Sum.inr ())))
def impl_IsSet_m (x0 : (List Int)) : Bool :=
  Sum.elim id (fun (s : Unit) => true) (rng (R := Bool) (fun k (_ : Unit) => impl_IsSet_b1 x0 k) (x0.length - 0) 0 ())
theorem cb105 : Cb Try.prog 105 := ⟨Try.f105, _, Try.func105, rfl, by decide⟩
set_option maxRecDepth 10000 in
set_option maxHeartbeats 4000000 in
theorem impl_IsSet_c (w : World) (z0 : Value) (x0 : (List Int)) (r_0 : rdS tInt w w.heap.size z0 x0) :
    Calls Try.prog 105 #[z0] w fun e w' => e = .returned (.bool (impl_IsSet_m x0)) ∧ Below w.heap.size w w' := by
  have r5 := r_0
  obtain ⟨m1, A2, c3, rfl, q4⟩ := r_0
  refine call_enterM (L := [(0, .slice A2 x0.length c3)]) (N := 32) Try.func105 rfl rfl (Nat.le_of_ble_eq_true rfl) (argsL_cons rfl argsL_nil) ?_
  refine sr ?_
  refine wa ?_
  refine nt' ?_
  refine CM_seq ?_
  refine sr ?_
  refine wm ?_
  refine wv (fun W hm => rv_len Try.underlying33 rfl) ?_
  refine wm ?_
  refine nt' ?_
  refine CM_block ?_
  refine CM_loop (σ := Nat × (Unit) × (Unit)) (fun s => [(0, .slice A2 x0.length c3), (5, .slice A2 x0.length c3), (6, .int .i64 ((x0.length : Nat) : Int)), (7, .int .i64 ((s.1 : Nat) : Int))]) (fun s => []) (fun s => s.1 ≤ x0.length ∧ rng (R := Bool) (fun k (_ : Unit) => impl_IsSet_b1 x0 k) (x0.length - s.1) s.1 s.2.1 = rng (R := Bool) (fun k (_ : Unit) => impl_IsSet_b1 x0 k) (x0.length - 0) 0 ()) (fun s => x0.length - s.1) (0, (), ()) (subL_cons rfl (subL_cons rfl (subL_cons rfl (subL_cons rfl subL_nil)))) (fun W hm => hm) ⟨(by omega), rfl⟩ ?_
  rintro ⟨k6, ⟨⟩, ⟨⟩⟩ H9
  obtain ⟨hk7, hF8⟩ : k6 ≤ x0.length ∧ rng (R := Bool) (fun k (_ : Unit) => impl_IsSet_b1 x0 k) (x0.length - k6) k6 () = rng (R := Bool) (fun k (_ : Unit) => impl_IsSet_b1 x0 k) (x0.length - 0) 0 () := H9
  show CM Try.prog 32 _ _ _ _ [(0, .slice A2 x0.length c3), (5, .slice A2 x0.length c3), (6, .int .i64 ((x0.length : Nat) : Int)), (7, .int .i64 ((k6 : Nat) : Int))] []
  refine sr ?_
  refine wv (fun W hm => rv_lss rfl rfl) ?_
  refine nt' ?_
  refine CM_seq ?_
  by_cases hl10 : k6 < x0.length
  · have g11 : (decide (((k6 : Nat) : Int) < ((x0.length : Nat) : Int))) = true := decide_eq_true (by omega)
    refine CM_condT rfl g11 ?_
    refine CM_skip ?_
    refine QM_then ?_
    refine CM_seq ?_
    refine CM_block ?_
    refine sr ?_
    refine wm ?_
    obtain ⟨a12, rfl, hb13, he14⟩ := q4 (by omega)
    refine wv (fun W hm => rv_index (sz := 1) (k := k6) Try.underlying33 Try.type3 rfl rfl rfl (by omega)) ?_
    refine wv (fun W hm => rv_load Try.underlying3 rfl rfl ((hm.cell0 (show (a12.add (k6 * 1)).block < w.heap.size from by rw [add_block]; exact hb13.1)).trans (rdS_int he14 k6 (by omega)))) ?_
    refine wa ?_
    refine wa ?_
    refine nt' ?_
    refine sr ?_
    refine wm ?_
    refine wv (fun W hm => rv_lss rfl rfl) ?_
    refine wm ?_
    by_cases h15 : (gt x0 k6) < 0
    · have g16 : (decide ((gt x0 k6) < 0)) = true := decide_eq_true h15
      refine ws g16 ?_
      refine ws g16 ?_
      refine wv (fun W hm => rv_pickT rfl g16 rfl) ?_
      refine wm ?_
      refine WM_skip (Wd_some rfl rfl rfl rfl) rfl (by decide) ?_
      refine WM_skip (Wd_some rfl rfl rfl rfl) rfl (by decide) ?_
      refine WM_skip (Wd_some rfl rfl rfl rfl) rfl (by decide) ?_
      refine wu ?_
      refine wu ?_
      refine wu ?_
      refine wu ?_
      refine wu ?_
      refine wu ?_
      refine wu ?_
      refine WM_skip (Wd_some rfl rfl rfl rfl) rfl (by decide) ?_
      refine wv (fun W hm => rv_pickT rfl rfl rfl) ?_
      refine nt' ?_
      refine CM_condT rfl rfl ?_
      refine sr ?_
      refine wa ?_
      refine nt' ?_
      refine CM_ret ?_
      refine QM_block_ret ?_
      refine QM_then_ret ?_
      refine QM_then_ret ?_
      refine QM_block_ret ?_
      refine QM_then_ret ?_
      exact QM_ret1 rfl rfl (fun W hm => ⟨ret_b (show impl_IsSet_m x0 = false from by unfold impl_IsSet_m; exact fin_inl (rng_ret (body := (fun k (_ : Unit) => impl_IsSet_b1 x0 k)) (k := k6) (s := ()) (show k6 < x0.length from by omega) (show impl_IsSet_b1 x0 k6 = Sum.inl false from by unfold impl_IsSet_b1; exact cond_t g16 (rfl)) hF8) rfl), hm.below⟩)
    · have g16 : (decide ((gt x0 k6) < 0)) = false := decide_eq_false h15
      refine wg (fun W hm => rv_move rfl) g16 ?_
      refine wg (fun W hm => rv_geq rfl rfl) g16 ?_
      refine wv (fun W hm => rv_pickF rfl g16 rfl) ?_
      refine wm ?_
      by_cases h17 : 24 ≤ (gt x0 k6)
      · have g18 : (decide (24 ≤ (gt x0 k6))) = true := decide_eq_true h17
        refine ws g18 ?_
        refine ws g18 ?_
        refine ws g18 ?_
        refine wu ?_
        refine wu ?_
        refine wu ?_
        refine wu ?_
        refine wu ?_
        refine wu ?_
        refine wu ?_
        refine ws g18 ?_
        refine wv (fun W hm => rv_pickT rfl g18 rfl) ?_
        refine nt' ?_
        refine CM_condT rfl rfl ?_
        refine sr ?_
        refine wa ?_
        refine nt' ?_
        refine CM_ret ?_
        refine QM_block_ret ?_
        refine QM_then_ret ?_
        refine QM_then_ret ?_
        refine QM_block_ret ?_
        refine QM_then_ret ?_
        exact QM_ret1 rfl rfl (fun W hm => ⟨ret_b (show impl_IsSet_m x0 = false from by unfold impl_IsSet_m; exact fin_inl (rng_ret (body := (fun k (_ : Unit) => impl_IsSet_b1 x0 k)) (k := k6) (s := ()) (show k6 < x0.length from by omega) (show impl_IsSet_b1 x0 k6 = Sum.inl false from by unfold impl_IsSet_b1; exact cond_f g16 (cond_t g18 (rfl))) hF8) rfl), hm.below⟩)
      · have g18 : (decide (24 ≤ (gt x0 k6))) = false := decide_eq_false h17
        refine wg (fun W hm => rv_move rfl) g18 ?_
        refine wg (fun W hm => rv_gtr rfl rfl) g18 ?_
        refine wg (fun W hm => rv_move rfl) g18 ?_
        by_cases h19 : 0 < ((k6 : Nat) : Int)
        · have g20 : (decide (0 < ((k6 : Nat) : Int))) = true := decide_eq_true h19
          refine wg (fun W hm => rv_move rfl) g20 ?_
          refine wg (fun W hm => rv_move rfl) g20 ?_
          refine wg (fun W hm => rv_subN (p := k6) (q := 1) rfl rfl (by omega) (by omega)) g20 ?_
          refine wg (fun W hm => rv_index (sz := 1) (k := k6 - 1) Try.underlying33 Try.type3 rfl rfl rfl (by omega)) g20 ?_
          refine wg (fun W hm => rv_load Try.underlying3 rfl rfl ((hm.cell0 (show (a12.add ((k6 - 1) * 1)).block < w.heap.size from by rw [add_block]; exact hb13.1)).trans (rdS_int he14 (k6 - 1) (by omega)))) g20 ?_
          refine wg (fun W hm => rv_move rfl) g20 ?_
          refine wg (fun W hm => rv_geq rfl rfl) g20 ?_
          refine wg (fun W hm => rv_pickT rfl g20 rfl) g18 ?_
          refine wv (fun W hm => rv_pickF rfl g18 rfl) ?_
          refine nt' ?_
          by_cases h21 : (gt x0 k6) ≤ (gt x0 (k6 - 1))
          · have g22 : (decide ((gt x0 k6) ≤ (gt x0 (k6 - 1)))) = true := decide_eq_true h21
            refine CM_condT rfl g22 ?_
            refine sr ?_
            refine wa ?_
            refine nt' ?_
            refine CM_ret ?_
            refine QM_block_ret ?_
            refine QM_then_ret ?_
            refine QM_then_ret ?_
            refine QM_block_ret ?_
            refine QM_then_ret ?_
            exact QM_ret1 rfl rfl (fun W hm => ⟨ret_b (show impl_IsSet_m x0 = false from by unfold impl_IsSet_m; exact fin_inl (rng_ret (body := (fun k (_ : Unit) => impl_IsSet_b1 x0 k)) (k := k6) (s := ()) (show k6 < x0.length from by omega) (show impl_IsSet_b1 x0 k6 = Sum.inl false from by unfold impl_IsSet_b1; exact cond_f g16 (cond_f g18 (cond_t g20 (cond_t g22 (rfl))))) hF8) rfl), hm.below⟩)
          · have g22 : (decide ((gt x0 k6) ≤ (gt x0 (k6 - 1)))) = false := decide_eq_false h21
            refine CM_condF rfl g22 ?_
            refine CM_skip ?_
            refine QM_block_normal ?_
            refine QM_then ?_
            refine CM_region ?_
            refine wv (fun W hm => rv_addN (p := k6) (q := 1) rfl rfl (by omega)) ?_
            refine wm ?_
            refine WM_nil ?_
            have hn23 := rng_next (R := Bool) (body := (fun k (_ : Unit) => impl_IsSet_b1 x0 k)) (k := k6) (s := ()) (s' := ()) (show k6 < x0.length from by omega) (show impl_IsSet_b1 x0 k6 = Sum.inr () from by unfold impl_IsSet_b1; exact cond_f g16 (cond_f g18 (cond_t g20 (cond_f g22 (rfl))))) hF8
            exact QM_round (k6 + 1, (), ()) (subL_cons rfl (subL_cons rfl (subL_cons rfl (subL_cons rfl subL_nil)))) (fun W hm => hm) ⟨(by omega), hn23⟩ (show x0.length - (k6 + 1) < x0.length - k6 from by omega)
        · have g20 : (decide (0 < ((k6 : Nat) : Int))) = false := decide_eq_false h19
          refine ws g20 ?_
          refine ws g20 ?_
          refine ws g20 ?_
          refine ws g20 ?_
          refine ws g20 ?_
          refine ws g20 ?_
          refine ws g20 ?_
          refine wg (fun W hm => rv_pickF rfl g20 rfl) g18 ?_
          refine wv (fun W hm => rv_pickF rfl g18 rfl) ?_
          refine nt' ?_
          refine CM_condF rfl rfl ?_
          refine CM_skip ?_
          refine QM_block_normal ?_
          refine QM_then ?_
          refine CM_region ?_
          refine wv (fun W hm => rv_addN (p := k6) (q := 1) rfl rfl (by omega)) ?_
          refine wm ?_
          refine WM_nil ?_
          have hn24 := rng_next (R := Bool) (body := (fun k (_ : Unit) => impl_IsSet_b1 x0 k)) (k := k6) (s := ()) (s' := ()) (show k6 < x0.length from by omega) (show impl_IsSet_b1 x0 k6 = Sum.inr () from by unfold impl_IsSet_b1; exact cond_f g16 (cond_f g18 (cond_f g20 (rfl)))) hF8
          exact QM_round (k6 + 1, (), ()) (subL_cons rfl (subL_cons rfl (subL_cons rfl (subL_cons rfl subL_nil)))) (fun W hm => hm) ⟨(by omega), hn24⟩ (show x0.length - (k6 + 1) < x0.length - k6 from by omega)
  · have g11 : (decide (((k6 : Nat) : Int) < ((x0.length : Nat) : Int))) = false := decide_eq_false (by omega)
    refine CM_condF rfl g11 ?_
    refine CM_exit ?_
    refine QM_then_exit ?_
    refine QM_then_exit ?_
    have hE25 : rng (R := Bool) (fun k (_ : Unit) => impl_IsSet_b1 x0 k) (x0.length - 0) 0 () = Sum.inr () := rng_end hl10 hF8
    refine QM_block_hit ?_
    refine QM_then ?_
    refine sr ?_
    refine wa ?_
    refine nt' ?_
    refine CM_ret ?_
    exact QM_ret1 rfl rfl (fun W hm => ⟨ret_b (show impl_IsSet_m x0 = true from by unfold impl_IsSet_m; exact fin_inr hE25 (rfl)), hm.below⟩)

def impl_hasInt_b1 (x0 : (List Int)) (x1 : Int) (k6 : Nat) : Bool ⊕ (Unit) :=
  cond ((gt x0 k6) == x1) (Sum.inl true) (Sum.inr ())
def impl_hasInt_m (x0 : (List Int)) (x1 : Int) : Bool :=
  Sum.elim id (fun (s : Unit) => false) (rng (R := Bool) (fun k (_ : Unit) => impl_hasInt_b1 x0 x1 k) (x0.length - 0) 0 ())
theorem cb103 : Cb Try.prog 103 := ⟨Try.f103, _, Try.func103, rfl, by decide⟩
set_option maxRecDepth 10000 in
set_option maxHeartbeats 4000000 in
theorem impl_hasInt_c (w : World) (z0 : Value) (x0 : (List Int)) (x1 : Int) (r_0 : rdS tInt w w.heap.size z0 x0) :
    Calls Try.prog 103 #[z0, .int .i64 x1] w fun e w' => e = .returned (.bool (impl_hasInt_m x0 x1)) ∧ Below w.heap.size w w' := by
  have r5 := r_0
  obtain ⟨m1, A2, c3, rfl, q4⟩ := r_0
  refine call_enterM (L := [(0, .slice A2 x0.length c3), (1, .int .i64 x1)]) (N := 17) Try.func103 rfl rfl (Nat.le_of_ble_eq_true rfl) (argsL_cons rfl (argsL_cons rfl argsL_nil)) ?_
  refine sr ?_
  refine wa ?_
  refine nt' ?_
  refine CM_seq ?_
  refine sr ?_
  refine wm ?_
  refine wv (fun W hm => rv_len Try.underlying33 rfl) ?_
  refine wm ?_
  refine nt' ?_
  refine CM_block ?_
  refine CM_loop (σ := Nat × (Unit) × (Unit)) (fun s => [(1, .int .i64 x1), (7, .slice A2 x0.length c3), (8, .int .i64 ((x0.length : Nat) : Int)), (9, .int .i64 ((s.1 : Nat) : Int))]) (fun s => []) (fun s => s.1 ≤ x0.length ∧ rng (R := Bool) (fun k (_ : Unit) => impl_hasInt_b1 x0 x1 k) (x0.length - s.1) s.1 s.2.1 = rng (R := Bool) (fun k (_ : Unit) => impl_hasInt_b1 x0 x1 k) (x0.length - 0) 0 ()) (fun s => x0.length - s.1) (0, (), ()) (subL_cons rfl (subL_cons rfl (subL_cons rfl (subL_cons rfl subL_nil)))) (fun W hm => hm) ⟨(by omega), rfl⟩ ?_
  rintro ⟨k6, ⟨⟩, ⟨⟩⟩ H9
  obtain ⟨hk7, hF8⟩ : k6 ≤ x0.length ∧ rng (R := Bool) (fun k (_ : Unit) => impl_hasInt_b1 x0 x1 k) (x0.length - k6) k6 () = rng (R := Bool) (fun k (_ : Unit) => impl_hasInt_b1 x0 x1 k) (x0.length - 0) 0 () := H9
  show CM Try.prog 17 _ _ _ _ [(1, .int .i64 x1), (7, .slice A2 x0.length c3), (8, .int .i64 ((x0.length : Nat) : Int)), (9, .int .i64 ((k6 : Nat) : Int))] []
  refine sr ?_
  refine wv (fun W hm => rv_lss rfl rfl) ?_
  refine nt' ?_
  refine CM_seq ?_
  by_cases hl10 : k6 < x0.length
  · have g11 : (decide (((k6 : Nat) : Int) < ((x0.length : Nat) : Int))) = true := decide_eq_true (by omega)
    refine CM_condT rfl g11 ?_
    refine CM_skip ?_
    refine QM_then ?_
    refine CM_seq ?_
    refine CM_block ?_
    refine sr ?_
    obtain ⟨a12, rfl, hb13, he14⟩ := q4 (by omega)
    refine wv (fun W hm => rv_index (sz := 1) (k := k6) Try.underlying33 Try.type3 rfl rfl rfl (by omega)) ?_
    refine wv (fun W hm => rv_load Try.underlying3 rfl rfl ((hm.cell0 (show (a12.add (k6 * 1)).block < w.heap.size from by rw [add_block]; exact hb13.1)).trans (rdS_int he14 k6 (by omega)))) ?_
    refine wa ?_
    refine nt' ?_
    refine sr ?_
    refine wm ?_
    refine wm ?_
    refine wv (fun W hm => rv_eql rfl rfl) ?_
    refine nt' ?_
    by_cases h15 : (gt x0 k6) = x1
    · have g16 : ((gt x0 k6) == x1) = true := beq_iff_eq.2 h15
      refine CM_condT rfl g16 ?_
      refine sr ?_
      refine wa ?_
      refine nt' ?_
      refine CM_ret ?_
      refine QM_block_ret ?_
      refine QM_then_ret ?_
      refine QM_then_ret ?_
      refine QM_block_ret ?_
      refine QM_then_ret ?_
      exact QM_ret1 rfl rfl (fun W hm => ⟨ret_b (show impl_hasInt_m x0 x1 = true from by unfold impl_hasInt_m; exact fin_inl (rng_ret (body := (fun k (_ : Unit) => impl_hasInt_b1 x0 x1 k)) (k := k6) (s := ()) (show k6 < x0.length from by omega) (show impl_hasInt_b1 x0 x1 k6 = Sum.inl true from by unfold impl_hasInt_b1; exact cond_t g16 (rfl)) hF8) rfl), hm.below⟩)
    · have g16 : ((gt x0 k6) == x1) = false := beq_eq_false_iff_ne.2 h15
      refine CM_condF rfl g16 ?_
      refine CM_skip ?_
      refine QM_block_normal ?_
      refine QM_then ?_
      refine CM_region ?_
      refine wv (fun W hm => rv_addN (p := k6) (q := 1) rfl rfl (by omega)) ?_
      refine wm ?_
      refine WM_nil ?_
      have hn17 := rng_next (R := Bool) (body := (fun k (_ : Unit) => impl_hasInt_b1 x0 x1 k)) (k := k6) (s := ()) (s' := ()) (show k6 < x0.length from by omega) (show impl_hasInt_b1 x0 x1 k6 = Sum.inr () from by unfold impl_hasInt_b1; exact cond_f g16 (rfl)) hF8
      exact QM_round (k6 + 1, (), ()) (subL_cons rfl (subL_cons rfl (subL_cons rfl (subL_cons rfl subL_nil)))) (fun W hm => hm) ⟨(by omega), hn17⟩ (show x0.length - (k6 + 1) < x0.length - k6 from by omega)
  · have g11 : (decide (((k6 : Nat) : Int) < ((x0.length : Nat) : Int))) = false := decide_eq_false (by omega)
    refine CM_condF rfl g11 ?_
    refine CM_exit ?_
    refine QM_then_exit ?_
    refine QM_then_exit ?_
    have hE18 : rng (R := Bool) (fun k (_ : Unit) => impl_hasInt_b1 x0 x1 k) (x0.length - 0) 0 () = Sum.inr () := rng_end hl10 hF8
    refine QM_block_hit ?_
    refine QM_then ?_
    refine sr ?_
    refine wa ?_
    refine nt' ?_
    refine CM_ret ?_
    exact QM_ret1 rfl rfl (fun W hm => ⟨ret_b (show impl_hasInt_m x0 x1 = false from by unfold impl_hasInt_m; exact fin_inr hE18 (rfl)), hm.below⟩)

def impl_HasMember_m (x0 : (List Int)) (x1 : Int) : Bool :=
  (impl_hasInt_m x0 x1)
theorem cb60 : Cb Try.prog 60 := ⟨Try.f60, _, Try.func60, rfl, by decide⟩
set_option maxRecDepth 10000 in
set_option maxHeartbeats 4000000 in
theorem impl_HasMember_c (w : World) (z0 : Value) (x0 : (List Int)) (x1 : Int) (r_0 : rdS tInt w w.heap.size z0 x0) :
    Calls Try.prog 60 #[z0, .int .i64 x1] w fun e w' => e = .returned (.bool (impl_HasMember_m x0 x1)) ∧ Below w.heap.size w w' := by
  have r5 := r_0
  obtain ⟨m1, A2, c3, rfl, q4⟩ := r_0
  refine call_enterM (L := [(0, .slice A2 x0.length c3), (1, .int .i64 x1)]) (N := 8) Try.func60 rfl rfl (Nat.le_of_ble_eq_true rfl) (argsL_cons rfl (argsL_cons rfl argsL_nil)) ?_
  refine sr ?_
  refine wa ?_
  refine nt' ?_
  refine sr ?_
  refine wm ?_
  refine wm ?_
  refine WM_callV (cl_fn cb103 rfl) (fun W hm => impl_hasInt_c W _ x0 x1 (hm.rdS0 r5)) (Wd_none rfl) (by decide) ?_
  refine wa ?_
  refine nt' ?_
  refine CM_ret ?_
  exact QM_ret1 rfl rfl (fun W hm => ⟨ret_b (show impl_HasMember_m x0 x1 = (impl_hasInt_m x0 x1) from by unfold impl_HasMember_m; exact rfl), hm.below⟩)

def impl_MeetSets_1_m (x0 : Int) (y0 : (List Int)) (y1 : (List Int)) : Bool :=
  cond (impl_HasMember_m y0 x0) (impl_HasMember_m y1 x0) false
theorem cb107 : Cb Try.prog 107 := ⟨Try.f107, _, Try.func107, rfl, by decide⟩
set_option maxRecDepth 10000 in
set_option maxHeartbeats 4000000 in
theorem impl_MeetSets_1_c (w : World) (x0 : Int) (p_0 : Nat) (zc0 : List Value) (y0 : (List Int)) (p_1 : Nat) (zc1 : List Value) (y1 : (List Int)) (rc_0 : rdP (tSl tInt 3) w w.heap.size p_0 zc0 y0) (rc_1 : rdP (tSl tInt 3) w w.heap.size p_1 zc1 y1) :
    Calls Try.prog 107 #[.int .i64 x0, .pointer (some ⟨p_0, 0, none⟩), .pointer (some ⟨p_1, 0, none⟩)] w fun e w' => e = .returned (.bool (impl_MeetSets_1_m x0 y0 y1)) ∧ Below w.heap.size w w' := by
  have e1 := rc_0.2.2
  obtain ⟨v2, rfl, r3⟩ := e1
  have r8 := r3
  obtain ⟨m4, A5, c6, rfl, q7⟩ := r3
  have e9 := rc_1.2.2
  obtain ⟨v10, rfl, r11⟩ := e9
  have r16 := r11
  obtain ⟨m12, A13, c14, rfl, q15⟩ := r11
  refine call_enterM (L := [(0, .int .i64 x0), (1, .pointer (some (⟨p_0, 0, none⟩ : Addr))), (2, .pointer (some (⟨p_1, 0, none⟩ : Addr)))]) (N := 13) Try.func107 rfl rfl (Nat.le_of_ble_eq_true rfl) (argsL_cons rfl (argsL_cons rfl (argsL_cons rfl argsL_nil))) ?_
  refine sr ?_
  refine wa ?_
  refine nt' ?_
  refine sr ?_
  refine wv (fun W hm => rv_load Try.underlying33 rfl rfl (capCell rc_0 rfl rfl hm (o := 0) rfl)) ?_
  refine wm ?_
  refine WM_callV (cl_fn cb60 rfl) (fun W hm => impl_HasMember_c W _ y0 x0 (hm.rdS0 r8)) (Wd_none rfl) (by decide) ?_
  refine wm ?_
  rcases Bool.eq_false_or_eq_true (impl_HasMember_m y0 x0) with g18 | g18
  ·
    refine wg (fun W hm => rv_load Try.underlying33 rfl rfl (capCell rc_1 rfl rfl hm (o := 0) rfl)) g18 ?_
    refine wg (fun W hm => rv_move rfl) g18 ?_
    refine WM_callV (cl_fn cb60 rfl) (fun W hm => impl_HasMember_c W _ y1 x0 (hm.rdS0 r16)) (Wd_some rfl rfl rfl (bw g18 rfl)) (by decide) ?_
    refine wv (fun W hm => rv_pickT rfl g18 rfl) ?_
    refine wa ?_
    refine nt' ?_
    refine CM_ret ?_
    exact QM_ret1 rfl rfl (fun W hm => ⟨ret_b (show impl_MeetSets_1_m x0 y0 y1 = (impl_HasMember_m y1 x0) from by unfold impl_MeetSets_1_m; exact cond_t g18 (rfl)), hm.below⟩)
  ·
    refine ws g18 ?_
    refine ws g18 ?_
    refine ws g18 ?_
    refine wv (fun W hm => rv_pickF rfl g18 rfl) ?_
    refine wa ?_
    refine nt' ?_
    refine CM_ret ?_
    exact QM_ret1 rfl rfl (fun W hm => ⟨ret_b (show impl_MeetSets_1_m x0 y0 y1 = false from by unfold impl_MeetSets_1_m; exact cond_f g18 (rfl)), hm.below⟩)

def impl_pick_impl_MeetSets_1_b1 (y0 : (List Int)) (y1 : (List Int)) (k19 : Nat) (d20 : (List Int)) : (List Int) ⊕ ((List Int)) :=
  cond (impl_MeetSets_1_m ((k19 : Nat) : Int) y0 y1) (Sum.inr (d20 ++ [((k19 : Nat) : Int)])) (Sum.inr d20)
def impl_pick_impl_MeetSets_1_m (y0 : (List Int)) (y1 : (List Int)) : (List Int) :=
  Sum.elim id (fun (s : (List Int)) => s) (rng (R := (List Int)) (fun k (s : (List Int)) => impl_pick_impl_MeetSets_1_b1 y0 y1 k s) (24 - 0) 0 [])
theorem cb106 : Cb Try.prog 106 := ⟨Try.f106, _, Try.func106, rfl, by decide⟩
set_option maxRecDepth 10000 in
set_option maxHeartbeats 4000000 in
theorem impl_pick_impl_MeetSets_1_c (w : World) (p_0 : Nat) (zc0 : List Value) (y0 : (List Int)) (p_1 : Nat) (zc1 : List Value) (y1 : (List Int)) (rc_0 : rdP (tSl tInt 3) w w.heap.size p_0 zc0 y0) (rc_1 : rdP (tSl tInt 3) w w.heap.size p_1 zc1 y1) :
    Calls Try.prog 106 #[.func (.func 107) #[] #[.pointer (some (⟨p_0, 0, none⟩ : Addr)), .pointer (some (⟨p_1, 0, none⟩ : Addr))]] w fun e w' => ∃ v : Value, e = .returned (v) ∧ Mem w.heap.size w [iOwn (tSl tInt 3) [v] (impl_pick_impl_MeetSets_1_m y0 y1)] w' := by
  have e1 := rc_0.2.2
  obtain ⟨v2, rfl, r3⟩ := e1
  have r8 := r3
  obtain ⟨m4, A5, c6, rfl, q7⟩ := r3
  have e9 := rc_1.2.2
  obtain ⟨v10, rfl, r11⟩ := e9
  have r16 := r11
  obtain ⟨m12, A13, c14, rfl, q15⟩ := r11
  refine call_enterM (L := [(0, .func (.func 107) #[] #[.pointer (some (⟨p_0, 0, none⟩ : Addr)), .pointer (some (⟨p_1, 0, none⟩ : Addr))])]) (N := 18) Try.func106 rfl rfl (Nat.le_of_ble_eq_true rfl) (argsL_cons rfl argsL_nil) ?_
  refine sr ?_
  refine wa ?_
  refine nt' ?_
  refine sr ?_
  refine WM_build0 (E := tInt) Try.underlying33 Try.type3 (Wd_none rfl) (by decide) (fun p17 => ?_)
  refine wa ?_
  refine nt' ?_
  refine CM_seq ?_
  refine sr ?_
  refine wa ?_
  refine nt' ?_
  refine CM_block ?_
  refine CM_loop (σ := Nat × ((List Int)) × (Option Addr × Nat)) (fun s => [(0, .func (.func 107) #[] #[.pointer (some (⟨p_0, 0, none⟩ : Addr)), .pointer (some (⟨p_1, 0, none⟩ : Addr))]), (3, .slice s.2.2.1 s.2.1.length s.2.2.2), (4, .int .i64 ((s.1 : Nat) : Int))]) (fun s => [iOwn (tSl tInt 3) [.slice s.2.2.1 s.2.1.length s.2.2.2] s.2.1]) (fun s => s.1 ≤ 24 ∧ rng (R := (List Int)) (fun k (s : (List Int)) => impl_pick_impl_MeetSets_1_b1 y0 y1 k s) (24 - s.1) s.1 s.2.1 = rng (R := (List Int)) (fun k (s : (List Int)) => impl_pick_impl_MeetSets_1_b1 y0 y1 k s) (24 - 0) 0 [] ∧ s.2.1.length ≤ 0 + s.1) (fun s => 24 - s.1) (0, [], ((some ⟨p17, 0, none⟩), 0)) (subL_cons rfl (subL_cons rfl (subL_cons rfl subL_nil))) (fun W hm => hm) ⟨(by omega), rfl, Nat.le_refl _⟩ ?_
  rintro ⟨k19, d20, ⟨A21, c22⟩⟩ H25
  obtain ⟨hk23, hF24, hi26⟩ : k19 ≤ 24 ∧ rng (R := (List Int)) (fun k (s : (List Int)) => impl_pick_impl_MeetSets_1_b1 y0 y1 k s) (24 - k19) k19 d20 = rng (R := (List Int)) (fun k (s : (List Int)) => impl_pick_impl_MeetSets_1_b1 y0 y1 k s) (24 - 0) 0 [] ∧ d20.length ≤ 0 + k19 := H25
  show CM Try.prog 18 _ _ _ _ [(0, .func (.func 107) #[] #[.pointer (some (⟨p_0, 0, none⟩ : Addr)), .pointer (some (⟨p_1, 0, none⟩ : Addr))]), (3, .slice A21 d20.length c22), (4, .int .i64 ((k19 : Nat) : Int))] [iOwn (tSl tInt 3) [.slice A21 d20.length c22] d20]
  refine CM_seq ?_
  refine sr ?_
  refine wm ?_
  refine wv (fun W hm => rv_lss rfl rfl) ?_
  refine nt' ?_
  by_cases hl27 : k19 < 24
  · have g28 : (decide (((k19 : Nat) : Int) < 24)) = true := decide_eq_true (by omega)
    refine CM_condT rfl g28 ?_
    refine CM_skip ?_
    refine QM_then ?_
    refine CM_seq ?_
    refine CM_block ?_
    refine sr ?_
    refine wm ?_
    refine wm ?_
    refine WM_callV (cl_val (first := []) (caps := [.pointer (some (⟨p_0, 0, none⟩ : Addr)), .pointer (some (⟨p_1, 0, none⟩ : Addr))]) (vs := [.int .i64 ((k19 : Nat) : Int)]) (args := [.int .i64 ((k19 : Nat) : Int), .pointer (some (⟨p_0, 0, none⟩ : Addr)), .pointer (some (⟨p_1, 0, none⟩ : Addr))]) cb107 rfl rfl rfl) (fun W hm => impl_MeetSets_1_c W ((k19 : Nat) : Int) _ _ y0 _ _ y1 (hm.rdP0 rc_0) (hm.rdP0 rc_1)) (Wd_none rfl) (by decide) ?_
    refine nt' ?_
    rcases Bool.eq_false_or_eq_true (impl_MeetSets_1_m ((k19 : Nat) : Int) y0 y1) with g30 | g30
    ·
      refine CM_condT rfl g30 ?_
      refine CM_region ?_
      refine wm ?_
      refine wm ?_
      refine WM_build (cs := [.int .i64 ((k19 : Nat) : Int)]) Try.underlying33 Try.type3 rfl (by decide) (by decide) rfl (by kernel_rfl) (Wd_none rfl) (by decide) (fun p31 => ?_)
      refine WM_append (E := tInt) (e := 3) (v := .slice A21 d20.length c22) (p := p31) (q := 1) (xs := d20) (ys := [((k19 : Nat) : Int)]) (eis := []) (js := []) (news := [.int .i64 ((k19 : Nat) : Int)]) (fun W hm => hm) (fun _ _ hs => by cases (Sep.nil hs); exact (els_cons tInt_own els_nil)) Try.underlying33 Try.type3 rfl rfl rfl (Nat.le_of_ble_eq_true rfl) rfl rfl rfl (show (d20.length + 1) * 8 ≤ 140737488355328 from by omega) (show d20.length + 1 ≤ 9223372036854775807 from by omega) (Wd_none rfl) (by decide) (fun v32 => ?_)
      refine WM_form (n := 0) rfl ?_
      rintro A33 c34 rfl m35
      refine wa ?_
      refine WM_nil ?_
      refine QM_block_normal ?_
      refine QM_then ?_
      refine CM_region ?_
      refine wm ?_
      refine wv (fun W hm => rv_addN (p := k19) (q := 1) rfl rfl (by omega)) ?_
      refine wa ?_
      refine WM_nil ?_
      have hn37 := rng_next (R := (List Int)) (body := (fun k (s : (List Int)) => impl_pick_impl_MeetSets_1_b1 y0 y1 k s)) (k := k19) (s := d20) (s' := (d20 ++ [((k19 : Nat) : Int)])) (show k19 < 24 from by omega) (show impl_pick_impl_MeetSets_1_b1 y0 y1 k19 d20 = Sum.inr (d20 ++ [((k19 : Nat) : Int)]) from by unfold impl_pick_impl_MeetSets_1_b1; exact cond_t g30 (rfl)) hF24
      exact QM_round (k19 + 1, (d20 ++ [((k19 : Nat) : Int)]), (A33, c34)) (subL_cons rfl (subL_cons rfl (subL_cons rfl subL_nil))) (fun W hm => hm) ⟨(by omega), hn37, (show (d20 ++ [((k19 : Nat) : Int)]).length ≤ 0 + (k19 + 1) from by first | omega | (simp only [List.length_append, List.length_cons, List.length_nil] at *; omega))⟩ (show 24 - (k19 + 1) < 24 - k19 from by omega)
    ·
      refine CM_condF rfl g30 ?_
      refine CM_skip ?_
      refine QM_block_normal ?_
      refine QM_then ?_
      refine CM_region ?_
      refine wm ?_
      refine wv (fun W hm => rv_addN (p := k19) (q := 1) rfl rfl (by omega)) ?_
      refine wa ?_
      refine WM_nil ?_
      have hn38 := rng_next (R := (List Int)) (body := (fun k (s : (List Int)) => impl_pick_impl_MeetSets_1_b1 y0 y1 k s)) (k := k19) (s := d20) (s' := d20) (show k19 < 24 from by omega) (show impl_pick_impl_MeetSets_1_b1 y0 y1 k19 d20 = Sum.inr d20 from by unfold impl_pick_impl_MeetSets_1_b1; exact cond_f g30 (rfl)) hF24
      exact QM_round (k19 + 1, d20, (A21, c22)) (subL_cons rfl (subL_cons rfl (subL_cons rfl subL_nil))) (fun W hm => hm) ⟨(by omega), hn38, (show d20.length ≤ 0 + (k19 + 1) from by first | omega | (simp only [List.length_append, List.length_cons, List.length_nil] at *; omega))⟩ (show 24 - (k19 + 1) < 24 - k19 from by omega)
  · have g28 : (decide (((k19 : Nat) : Int) < 24)) = false := decide_eq_false (by omega)
    refine CM_condF rfl g28 ?_
    refine CM_exit ?_
    refine QM_then_exit ?_
    refine QM_then_exit ?_
    have hE39 : rng (R := (List Int)) (fun k (s : (List Int)) => impl_pick_impl_MeetSets_1_b1 y0 y1 k s) (24 - 0) 0 [] = Sum.inr d20 := rng_end hl27 hF24
    refine QM_block_hit ?_
    refine QM_then ?_
    refine sr ?_
    refine wm ?_
    refine wa ?_
    refine nt' ?_
    refine CM_ret ?_
    refine QM_r1 rfl (RR_tmp rfl) (fun W hm => ⟨.slice A21 d20.length c22, ?_, ?_⟩)
    · first | rw [(show impl_pick_impl_MeetSets_1_m y0 y1 = d20 from by unfold impl_pick_impl_MeetSets_1_m; exact fin_inr hE39 (rfl))] | rfl
    · rw [(show impl_pick_impl_MeetSets_1_m y0 y1 = d20 from by unfold impl_pick_impl_MeetSets_1_m; exact fin_inr hE39 (rfl))]; exact hm

def impl_MeetSets_m (x0 : (List Int)) (x1 : (List Int)) : (List Int) :=
  cond (impl_IsSet_m x0) (cond (impl_IsSet_m x1) (impl_pick_impl_MeetSets_1_m x0 x1) []) []
theorem cb66 : Cb Try.prog 66 := ⟨Try.f66, _, Try.func66, rfl, by decide⟩
set_option maxRecDepth 10000 in
set_option maxHeartbeats 4000000 in
theorem impl_MeetSets_c (w : World) (z0 : Value) (x0 : (List Int)) (z1 : Value) (x1 : (List Int)) (r_0 : rdS tInt w w.heap.size z0 x0) (r_1 : rdS tInt w w.heap.size z1 x1) (s_0 : x0.length ≤ 68719476736) (s_1 : x1.length ≤ 68719476736) :
    Calls Try.prog 66 #[z0, z1] w fun e w' => ∃ v : Value, e = .returned (v) ∧ Mem w.heap.size w [iOwn (tSl tInt 3) [v] (impl_MeetSets_m x0 x1)] w' := by
  have r5 := r_0
  obtain ⟨m1, A2, c3, rfl, q4⟩ := r_0
  have r10 := r_1
  obtain ⟨m6, A7, c8, rfl, q9⟩ := r_1
  have l11 : x0.length ≤ 68719476736 := s_0
  have l12 : x1.length ≤ 68719476736 := s_1
  refine call_enterM (L := [(0, .slice A2 x0.length c3), (1, .slice A7 x1.length c8)]) (N := 15) Try.func66 rfl rfl (Nat.le_of_ble_eq_true rfl) (argsL_cons rfl (argsL_cons rfl argsL_nil)) ?_
  refine sr ?_
  refine WM_box rfl (Wd_none rfl) (by decide) (fun p13 => ?_)
  refine WM_box rfl (Wd_none rfl) (by decide) (fun p14 => ?_)
  refine wa ?_
  refine nt' ?_
  refine CM_seq ?_
  refine sr ?_
  refine wv (fun W hm => rv_load Try.underlying33 rfl rfl (hm.boxCell (n := 1) (o := 0) rfl rfl)) ?_
  refine WM_callV (cl_fn cb105 rfl) (fun W hm => impl_IsSet_c W _ x0 (hm.rdS0 r5)) (Wd_none rfl) (by decide) ?_
  refine wv (fun W hm => rv_not rfl) ?_
  refine wm ?_
  rcases Bool.eq_false_or_eq_true (impl_IsSet_m x0) with g16 | g16
  ·
    refine wg (fun W hm => rv_load Try.underlying33 rfl rfl (hm.boxCell (n := 0) (o := 0) rfl rfl)) (nt g16) ?_
    refine WM_callV (cl_fn cb105 rfl) (fun W hm => impl_IsSet_c W _ x1 (hm.rdS0 r10)) (Wd_some rfl rfl rfl (bw (nt g16) rfl)) (by decide) ?_
    refine wg (fun W hm => rv_not rfl) (nt g16) ?_
    refine wv (fun W hm => rv_pickF rfl (nt g16) rfl) ?_
    refine nt' ?_
    rcases Bool.eq_false_or_eq_true (impl_IsSet_m x1) with g18 | g18
    ·
      refine CM_condF rfl (nt g18) ?_
      refine CM_skip ?_
      refine QM_then ?_
      refine sr ?_
      refine wv (fun W hm => rv_makeFunc rfl) ?_
      refine WM_call (χ := Value) (val := fun x => x) (js := fun x => [iOwn (tSl tInt 3) [x] (impl_pick_impl_MeetSets_1_m x0 x1)]) (cl_fn cb106 rfl) (fun W hm => impl_pick_impl_MeetSets_1_c W _ _ x0 _ _ x1 (hm.rdPBox (T := (tSl tInt 3)) (n := 1) rfl ⟨_, rfl, (hm.rdS0 r5)⟩) (hm.rdPBox (T := (tSl tInt 3)) (n := 0) rfl ⟨_, rfl, (hm.rdS0 r10)⟩)) (Wd_none rfl) (by decide) (fun z19 => ?_)
      refine WM_form (n := 0) rfl ?_
      rintro A20 c21 rfl m22
      refine wa ?_
      refine nt' ?_
      refine CM_ret ?_
      refine QM_r1 rfl (RR_tmp rfl) (fun W hm => ⟨.slice A20 (impl_pick_impl_MeetSets_1_m x0 x1).length c21, ?_, ?_⟩)
      · first | rw [(show impl_MeetSets_m x0 x1 = (impl_pick_impl_MeetSets_1_m x0 x1) from by unfold impl_MeetSets_m; exact cond_t g16 (cond_t g18 (rfl)))] | rfl
      · rw [(show impl_MeetSets_m x0 x1 = (impl_pick_impl_MeetSets_1_m x0 x1) from by unfold impl_MeetSets_m; exact cond_t g16 (cond_t g18 (rfl)))]; exact (hm.pick [0] (by decide))
    ·
      refine CM_condT rfl (nf g18) ?_
      refine sr ?_
      refine wa ?_
      refine nt' ?_
      refine CM_ret ?_
      refine QM_then_ret ?_
      refine QM_items (fun W hm => hm.addNil (E := tInt) (e := 3)) ?_
      refine QM_r1 rfl (RR_tmp rfl) (fun W hm => ⟨.slice none 0 0, ?_, ?_⟩)
      · first | rw [(show impl_MeetSets_m x0 x1 = [] from by unfold impl_MeetSets_m; exact cond_t g16 (cond_f g18 (rfl)))] | rfl
      · rw [(show impl_MeetSets_m x0 x1 = [] from by unfold impl_MeetSets_m; exact cond_t g16 (cond_f g18 (rfl)))]; exact (hm.pick [0] (by decide))
  ·
    refine ws (nf g16) ?_
    refine ws (nf g16) ?_
    refine ws (nf g16) ?_
    refine wv (fun W hm => rv_pickT rfl (nf g16) rfl) ?_
    refine nt' ?_
    refine CM_condT rfl rfl ?_
    refine sr ?_
    refine wa ?_
    refine nt' ?_
    refine CM_ret ?_
    refine QM_then_ret ?_
    refine QM_items (fun W hm => hm.addNil (E := tInt) (e := 3)) ?_
    refine QM_r1 rfl (RR_tmp rfl) (fun W hm => ⟨.slice none 0 0, ?_, ?_⟩)
    · first | rw [(show impl_MeetSets_m x0 x1 = [] from by unfold impl_MeetSets_m; exact cond_f g16 (rfl))] | rfl
    · rw [(show impl_MeetSets_m x0 x1 = [] from by unfold impl_MeetSets_m; exact cond_f g16 (rfl))]; exact (hm.pick [0] (by decide))

def impl_copyInts_m (x0 : (List Int)) : (List Int) :=
  x0
theorem cb95 : Cb Try.prog 95 := ⟨Try.f95, _, Try.func95, rfl, by decide⟩
set_option maxRecDepth 10000 in
set_option maxHeartbeats 4000000 in
theorem impl_copyInts_c (w : World) (z0 : Value) (x0 : (List Int)) (r_0 : rdS tInt w w.heap.size z0 x0) (s_0 : x0.length ≤ 68719476736) :
    Calls Try.prog 95 #[z0] w fun e w' => ∃ v : Value, e = .returned (v) ∧ Mem w.heap.size w [iOwn (tSl tInt 3) [v] (impl_copyInts_m x0)] w' := by
  have r5 := r_0
  obtain ⟨m1, A2, c3, rfl, q4⟩ := r_0
  have l6 : x0.length ≤ 68719476736 := s_0
  refine call_enterM (L := [(0, .slice A2 x0.length c3)]) (N := 6) Try.func95 rfl rfl (Nat.le_of_ble_eq_true rfl) (argsL_cons rfl argsL_nil) ?_
  refine sr ?_
  refine wa ?_
  refine nt' ?_
  refine sr ?_
  refine WM_build0 (E := tInt) Try.underlying33 Try.type3 (Wd_none rfl) (by decide) (fun p7 => ?_)
  refine wm ?_
  refine WM_appendR (F := tInt) (E := tInt) (e := 3) (v := .slice (some ⟨p7, 0, none⟩) 0 0) (xs := []) (ys := x0) (js := []) (fun W hm => hm) (fun W hm => src_flat flat_int (hm.rdS0 r5)) Try.underlying33 Try.type3 rfl rfl rfl (Nat.le_of_ble_eq_true rfl) rfl rfl (show ([].length + x0.length) * 8 ≤ 140737488355328 from by first | omega | (simp only [List.length_append, List.length_cons, List.length_nil] at *; omega)) (show [].length + x0.length ≤ 9223372036854775807 from by first | omega | (simp only [List.length_append, List.length_cons, List.length_nil] at *; omega)) (Wd_none rfl) (by decide) (fun v9 => ?_)
  refine WM_form (n := 0) rfl ?_
  rintro A10 c11 rfl m12
  refine wa ?_
  refine nt' ?_
  refine CM_ret ?_
  refine QM_r1 rfl (RR_tmp rfl) (fun W hm => ⟨.slice A10 x0.length c11, ?_, ?_⟩)
  · first | rw [(show impl_copyInts_m x0 = x0 from by unfold impl_copyInts_m; exact rfl)] | rfl
  · rw [(show impl_copyInts_m x0 = x0 from by unfold impl_copyInts_m; exact rfl)]; exact hm
theorem impl_copyInts_eq (x0 : (List Int)) : impl_copyInts_m x0 = x0 := by
  rfl
theorem impl_copyInts_c2 (w : World) (z0 : Value) (x0 : (List Int)) (r_0 : rdS tInt w w.heap.size z0 x0) (s_0 : x0.length ≤ 68719476736) :
    Calls Try.prog 95 #[z0] w fun e w' => ∃ v : Value, e = .returned (v) ∧ Mem w.heap.size w [iOwn (tSl tInt 3) [v] x0] w' := by
  have h := impl_copyInts_c w z0 x0 r_0 s_0
  rw [impl_copyInts_eq] at h
  exact h

def impl_copyRow_m (x0 : DRow) : DRow :=
  x0
theorem cb61 : Cb Try.prog 61 := ⟨Try.f61, _, Try.func61, rfl, by decide⟩
set_option maxRecDepth 10000 in
set_option maxHeartbeats 4000000 in
theorem impl_copyRow_c (w : World) (z0 : List Value) (x0 : DRow) (r_0 : tyRow.rd w w.heap.size z0 x0) (s_0 : smRow 68719476736 x0) :
    Calls Try.prog 61 #[.agg z0.toArray] w fun e w' => ∃ v : List Value, e = .returned (.agg v.toArray) ∧ Mem w.heap.size w [iOwn tyRow v (impl_copyRow_m x0)] w' := by
  obtain ⟨v1, rfl, r2⟩ := tyRow_rd r_0
  have r7 := r2
  obtain ⟨m3, A4, c5, rfl, q6⟩ := r2
  have l8 : x0.Values.length ≤ 68719476736 := s_0
  refine call_enterM (L := [(0, .agg #[.int .i64 x0.Id, .slice A4 x0.Values.length c5])]) (N := 9) Try.func61 rfl rfl (Nat.le_of_ble_eq_true rfl) (argsL_cons rfl argsL_nil) ?_
  refine sr ?_
  refine WM_box rfl (Wd_none rfl) (by decide) (fun p9 => ?_)
  refine WM_alloc Try.type69 rfl (Wd_none rfl) (by decide) (fun p10 => ?_)
  refine nt' ?_
  refine CM_seq ?_
  refine CM_regionB (n := 7) (listed := #[false, false, false, false, false, false, false]) (s := [iBox p9 69 [.int .i64 x0.Id, .slice A4 x0.Values.length c5]]) (by kernel_rfl) rfl (by kernel_rfl) (fun W hm => (hm.pick [1] (by decide))) ?_
  refine QB_take 0 (listed' := #[true, false, false, false, false, false, false]) (by kernel_rfl) rfl (by kernel_rfl) (by kernel_rfl) (by kernel_rfl) (fun _ _ _ h => h) (fun W hm => rv_field Try.underlying69 rfl Try.type3 (by decide) rfl rfl) (Wd_none rfl) rfl (by decide) ?_
  refine QB_take 1 (listed' := #[true, true, false, false, false, false, false]) (by kernel_rfl) rfl (by kernel_rfl) (by kernel_rfl) (by kernel_rfl) (fun _ _ _ h => h) (fun W hm => rv_load Try.underlying3 rfl rfl (hm.boxCell (n := 0) (o := 0) rfl rfl)) (Wd_none rfl) rfl (by decide) ?_
  refine QB_take 2 (listed' := #[true, true, true, false, false, false, false]) (by kernel_rfl) rfl (by kernel_rfl) (by kernel_rfl) (by kernel_rfl) (fun _ _ _ h => h) (fun W hm => rv_field Try.underlying69 rfl Try.type33 (by decide) rfl rfl) (Wd_none rfl) rfl (by decide) ?_
  refine QB_take 3 (listed' := #[true, true, true, true, false, false, false]) (by kernel_rfl) rfl (by kernel_rfl) (by kernel_rfl) (by kernel_rfl) (fun _ _ _ h => h) (fun W hm => rv_load Try.underlying33 rfl rfl (hm.boxCell (n := 0) (o := 1) rfl rfl)) (Wd_none rfl) rfl (by decide) ?_
  refine QB_one 4 (listed' := #[true, true, true, true, true, false, false]) (by kernel_rfl) rfl (by kernel_rfl) ?_
  refine WM_call (χ := Value) (val := fun x => x) (js := fun x => [iOwn (tSl tInt 3) [x] x0.Values]) (cl_fn cb95 rfl) (fun W hm => impl_copyInts_c2 W _ x0.Values (hm.rdS0 r7) s_0) (Wd_none rfl) (by decide) (fun z11 => ?_)
  refine WM_form (n := 0) rfl ?_
  rintro A12 c13 rfl m14
  refine WM_nil ?_
  refine QB_next (fun W hm => (hm.pick [2] (by decide))) ?_
  refine QB_take 5 (listed' := #[true, true, true, true, true, true, false]) (by kernel_rfl) rfl (by kernel_rfl) (by kernel_rfl) (by kernel_rfl) (fun _ _ _ h => h) (fun W hm => rv_build (cs := [.int .i64 x0.Id, .slice A12 x0.Values.length c13]) rfl (by kernel_rfl)) (Wd_none rfl) rfl (by decide) ?_
  refine QB_one 6 (listed' := #[true, true, true, true, true, true, true]) (by kernel_rfl) rfl (by kernel_rfl) ?_
  refine WM_storeBox (p := p10) (o := 0) (cs := [.int .i64 0, .slice none 0 0]) (cs' := [.int .i64 x0.Id, .slice A12 x0.Values.length c13]) (js := [iOwn (tSl tInt 3) [.slice A12 x0.Values.length c13] x0.Values, iBox p9 69 [.int .i64 x0.Id, .slice A4 x0.Values.length c5]]) (fun W hm => (hm.pick [1, 0, 2] (by decide))) Try.type69 rfl (Nat.le_of_ble_eq_true rfl) rfl rfl rfl rfl (Wd_none rfl) ?_
  refine WM_nil ?_
  refine QB_next (fun W hm => (hm.pick [2] (by decide))) ?_
  refine QB_done (by kernel_rfl) ?_
  refine QM_then ?_
  refine CM_ret ?_
  refine QM_r1 rfl (RR_cell (n := 0) rfl rfl Try.underlying69 Try.type69 rfl) (fun W hm => ⟨[.int .i64 x0.Id, .slice A12 x0.Values.length c13], ?_, ?_⟩)
  · first | rw [(show impl_copyRow_m x0 = x0 from by unfold impl_copyRow_m; exact rfl)] | rfl
  · rw [(show impl_copyRow_m x0 = x0 from by unfold impl_copyRow_m; exact rfl)]; exact Mem.join (is := [iOwn (tSl tInt 3) [.slice A12 x0.Values.length c13] x0.Values]) (js := []) (fun _ _ hs => tyRow_join (x := x0) hs) (hm.pick [1] (by decide))
theorem impl_copyRow_eq (x0 : DRow) : impl_copyRow_m x0 = x0 := by
  rfl
theorem impl_copyRow_c2 (w : World) (z0 : List Value) (x0 : DRow) (r_0 : tyRow.rd w w.heap.size z0 x0) (s_0 : smRow 68719476736 x0) :
    Calls Try.prog 61 #[.agg z0.toArray] w fun e w' => ∃ v : List Value, e = .returned (.agg v.toArray) ∧ Mem w.heap.size w [iOwn tyRow v x0] w' := by
  have h := impl_copyRow_c w z0 x0 r_0 s_0
  rw [impl_copyRow_eq] at h
  exact h

def impl_KeepSet_b1 (x0 : (List DAnnotated)) (x1 : (List Int)) (k15 : Nat) (d16 : (List DAnnotated)) : (List DAnnotated) ⊕ ((List DAnnotated)) :=
  cond (decide (0 < (((impl_MeetSets_m ((gt x0 k15).Set) x1).length : Nat) : Int))) (Sum.inr (d16 ++ [(⟨((gt x0 k15).Row), (impl_MeetSets_m ((gt x0 k15).Set) x1)⟩ : DAnnotated)])) (Sum.inr d16)
def impl_KeepSet_m (x0 : (List DAnnotated)) (x1 : (List Int)) : (List DAnnotated) :=
  Sum.elim id (fun (s : (List DAnnotated)) => s) (rng (R := (List DAnnotated)) (fun k (s : (List DAnnotated)) => impl_KeepSet_b1 x0 x1 k s) (x0.length - 0) 0 [])
theorem cb22 : Cb Try.prog 22 := ⟨Try.f22, _, Try.func22, rfl, by decide⟩
set_option maxRecDepth 10000 in
set_option maxHeartbeats 4000000 in
theorem impl_KeepSet_c (w : World) (z0 : Value) (x0 : (List DAnnotated)) (z1 : Value) (x1 : (List Int)) (r_0 : rdS tyAnnotated w w.heap.size z0 x0) (r_1 : rdS tInt w w.heap.size z1 x1) (s_0 : (x0.length ≤ 68719476736 ∧ ∀ y ∈ x0, smAnnotated 68719476736 y)) (s_1 : x1.length ≤ 68719476736) :
    Calls Try.prog 22 #[z0, z1] w fun e w' => ∃ v : Value, e = .returned (v) ∧ Mem w.heap.size w [iOwn (tSl tyAnnotated 91) [v] (impl_KeepSet_m x0 x1)] w' := by
  have r5 := r_0
  obtain ⟨m1, A2, c3, rfl, q4⟩ := r_0
  have r10 := r_1
  obtain ⟨m6, A7, c8, rfl, q9⟩ := r_1
  have l11 : x0.length ≤ 68719476736 := s_0.1
  have l12 : x1.length ≤ 68719476736 := s_1
  refine call_enterM (L := [(0, .slice A2 x0.length c3), (1, .slice A7 x1.length c8)]) (N := 33) Try.func22 rfl rfl (Nat.le_of_ble_eq_true rfl) (argsL_cons rfl (argsL_cons rfl argsL_nil)) ?_
  refine sr ?_
  refine wa ?_
  refine nt' ?_
  refine sr ?_
  refine WM_build0 (E := tyAnnotated) Try.underlying26 Try.type91 (Wd_none rfl) (by decide) (fun p13 => ?_)
  refine wa ?_
  refine nt' ?_
  refine CM_seq ?_
  refine sr ?_
  refine wm ?_
  refine wv (fun W hm => rv_len Try.underlying26 rfl) ?_
  refine wm ?_
  refine nt' ?_
  refine CM_block ?_
  refine CM_loop (σ := Nat × ((List DAnnotated)) × (Option Addr × Nat)) (fun s => [(1, .slice A7 x1.length c8), (5, .slice s.2.2.1 s.2.1.length s.2.2.2), (10, .slice A2 x0.length c3), (11, .int .i64 ((x0.length : Nat) : Int)), (12, .int .i64 ((s.1 : Nat) : Int))]) (fun s => [iOwn (tSl tyAnnotated 91) [.slice s.2.2.1 s.2.1.length s.2.2.2] s.2.1]) (fun s => s.1 ≤ x0.length ∧ rng (R := (List DAnnotated)) (fun k (s : (List DAnnotated)) => impl_KeepSet_b1 x0 x1 k s) (x0.length - s.1) s.1 s.2.1 = rng (R := (List DAnnotated)) (fun k (s : (List DAnnotated)) => impl_KeepSet_b1 x0 x1 k s) (x0.length - 0) 0 [] ∧ s.2.1.length ≤ 0 + s.1) (fun s => x0.length - s.1) (0, [], ((some ⟨p13, 0, none⟩), 0)) (subL_cons rfl (subL_cons rfl (subL_cons rfl (subL_cons rfl (subL_cons rfl subL_nil))))) (fun W hm => hm) ⟨(by omega), rfl, Nat.le_refl _⟩ ?_
  rintro ⟨k15, d16, ⟨A17, c18⟩⟩ H21
  obtain ⟨hk19, hF20, hi22⟩ : k15 ≤ x0.length ∧ rng (R := (List DAnnotated)) (fun k (s : (List DAnnotated)) => impl_KeepSet_b1 x0 x1 k s) (x0.length - k15) k15 d16 = rng (R := (List DAnnotated)) (fun k (s : (List DAnnotated)) => impl_KeepSet_b1 x0 x1 k s) (x0.length - 0) 0 [] ∧ d16.length ≤ 0 + k15 := H21
  show CM Try.prog 33 _ _ _ _ [(1, .slice A7 x1.length c8), (5, .slice A17 d16.length c18), (10, .slice A2 x0.length c3), (11, .int .i64 ((x0.length : Nat) : Int)), (12, .int .i64 ((k15 : Nat) : Int))] [iOwn (tSl tyAnnotated 91) [.slice A17 d16.length c18] d16]
  refine sr ?_
  refine wv (fun W hm => rv_lss rfl rfl) ?_
  refine nt' ?_
  refine CM_seq ?_
  by_cases hl23 : k15 < x0.length
  · have g24 : (decide (((k15 : Nat) : Int) < ((x0.length : Nat) : Int))) = true := decide_eq_true (by omega)
    refine CM_condT rfl g24 ?_
    refine CM_skip ?_
    refine QM_then ?_
    refine CM_seq ?_
    refine CM_block ?_
    refine sr ?_
    obtain ⟨a25, rfl, hb26, he27⟩ := q4 (by omega)
    refine wv (fun W hm => rv_index (sz := 3) (k := k15) Try.underlying26 Try.type91 rfl rfl rfl (by omega)) ?_
    obtain ⟨_, e33, hc28⟩ := he27 k15 _ (gt_some (show k15 < x0.length from by omega))
    obtain ⟨v29, v31, rfl, r30, r32⟩ := tyAnnotated_rd e33
    have l34 : ((gt x0 k15).Row.Values).length ≤ 68719476736 := (s_0.2 _ (gt_mem (show k15 < x0.length from by omega))).1
    have l35 : ((gt x0 k15).Set).length ≤ 68719476736 := (s_0.2 _ (gt_mem (show k15 < x0.length from by omega))).2
    have r40 := r30
    obtain ⟨m36, A37, c38, rfl, q39⟩ := r30
    have r45 := r32
    obtain ⟨m41, A42, c43, rfl, q44⟩ := r32
    refine wv (fun W hm => rv_loadN (cs := [.int .i64 ((gt x0 k15).Row.Id), .slice A37 ((gt x0 k15).Row.Values).length c38, .slice A42 ((gt x0 k15).Set).length c43]) Try.underlying91 Try.type91 rfl rfl (hm.elCells (show (a25.add (k15 * 3)).block < w.heap.size from by rw [add_block]; exact hb26.1) hc28)) ?_
    refine WM_alloc Try.type91 rfl (Wd_none rfl) (by decide) (fun p46 => ?_)
    refine WM_storeBox (p := p46) (o := 0) (cs := [.int .i64 0, .slice none 0 0, .slice none 0 0]) (cs' := [.int .i64 ((gt x0 k15).Row.Id), .slice A37 ((gt x0 k15).Row.Values).length c38, .slice A42 ((gt x0 k15).Set).length c43]) (js := [iOwn (tSl tyAnnotated 91) [.slice A17 d16.length c18] d16]) (fun W hm => hm) Try.type91 rfl (Nat.le_of_ble_eq_true rfl) rfl rfl rfl rfl (Wd_none rfl) ?_
    refine nt' ?_
    refine sr ?_
    refine wv (fun W hm => rv_field Try.underlying91 rfl Try.type33 (by decide) rfl rfl) ?_
    refine wv (fun W hm => rv_load Try.underlying33 rfl rfl (hm.boxCell (n := 0) (o := 2) rfl rfl)) ?_
    refine wm ?_
    refine WM_call (χ := Value) (val := fun x => x) (js := fun x => [iOwn (tSl tInt 3) [x] (impl_MeetSets_m ((gt x0 k15).Set) x1)]) (cl_fn cb66 rfl) (fun W hm => impl_MeetSets_c W _ ((gt x0 k15).Set) _ x1 (hm.rdS0 r45) (hm.rdS0 r10) (s_0.2 _ (gt_mem (show k15 < x0.length from by omega))).2 s_1) (Wd_none rfl) (by decide) (fun z47 => ?_)
    refine WM_form (n := 0) rfl ?_
    rintro A48 c49 rfl m50
    refine wa ?_
    refine nt' ?_
    refine sr ?_
    refine wm ?_
    refine wv (fun W hm => rv_len Try.underlying33 rfl) ?_
    refine wv (fun W hm => rv_gtr rfl rfl) ?_
    refine nt' ?_
    by_cases h52 : 0 < (((impl_MeetSets_m ((gt x0 k15).Set) x1).length : Nat) : Int)
    · have g53 : (decide (0 < (((impl_MeetSets_m ((gt x0 k15).Set) x1).length : Nat) : Int))) = true := decide_eq_true h52
      refine CM_condT rfl g53 ?_
      refine CM_region ?_
      refine wm ?_
      refine wv (fun W hm => rv_field Try.underlying91 rfl Try.type69 (by decide) rfl rfl) ?_
      refine wv (fun W hm => rv_loadN (cs := [.int .i64 ((gt x0 k15).Row.Id), .slice A37 ((gt x0 k15).Row.Values).length c38]) Try.underlying69 Try.type69 rfl rfl (hm.boxPart (n := 1) rfl rfl)) ?_
      refine WM_call (χ := List Value) (val := fun x => .agg x.toArray) (js := fun x => [iOwn tyRow x ((gt x0 k15).Row)]) (cl_fn cb61 rfl) (fun W hm => impl_copyRow_c2 W _ ((gt x0 k15).Row) (tyRow_mk (x := ((gt x0 k15).Row)) (hm.rdS0 r40)) (s_0.2 _ (gt_mem (show k15 < x0.length from by omega))).1) (Wd_none rfl) (by decide) (fun z54 => ?_)
      refine WM_split (γ := Value) (js := fun g => [iOwn (tSl tInt 3) [g] (((gt x0 k15).Row).Values)]) (C := fun g => z54 = [.int .i64 (((gt x0 k15).Row).Id), g]) (fun _ _ h => tyRow_split h) ?_
      rintro v55 rfl
      refine WM_form (n := 0) rfl ?_
      rintro A56 c57 rfl m58
      refine wm ?_
      refine wv (fun W hm => rv_build (cs := [.int .i64 (((gt x0 k15).Row).Id), .slice A56 (((gt x0 k15).Row).Values).length c57, .slice A48 (impl_MeetSets_m ((gt x0 k15).Set) x1).length c49]) rfl (by kernel_rfl)) ?_
      refine WM_build (cs := [.int .i64 (((gt x0 k15).Row).Id), .slice A56 (((gt x0 k15).Row).Values).length c57, .slice A48 (impl_MeetSets_m ((gt x0 k15).Set) x1).length c49]) Try.underlying26 Try.type91 rfl (by decide) (by decide) rfl (by kernel_rfl) (Wd_none rfl) (by decide) (fun p60 => ?_)
      refine WM_append (E := tyAnnotated) (e := 91) (v := .slice A17 d16.length c18) (p := p60) (q := 1) (xs := d16) (ys := [(⟨((gt x0 k15).Row), (impl_MeetSets_m ((gt x0 k15).Set) x1)⟩ : DAnnotated)]) (eis := [iOwn (tSl tInt 3) [.slice A56 (((gt x0 k15).Row).Values).length c57] (((gt x0 k15).Row).Values), iOwn (tSl tInt 3) [.slice A48 (impl_MeetSets_m ((gt x0 k15).Set) x1).length c49] (impl_MeetSets_m ((gt x0 k15).Set) x1)]) (js := [iBox p46 91 [.int .i64 ((gt x0 k15).Row.Id), .slice A37 ((gt x0 k15).Row.Values).length c38, .slice A42 ((gt x0 k15).Set).length c43]]) (news := [.int .i64 (((gt x0 k15).Row).Id), .slice A56 (((gt x0 k15).Row).Values).length c57, .slice A48 (impl_MeetSets_m ((gt x0 k15).Set) x1).length c49]) (fun W hm => (hm.pick [0, 4, 1, 2, 3] (by decide))) (fun _ _ hs => Els.single (tyAnnotated_join (x := (⟨((gt x0 k15).Row), (impl_MeetSets_m ((gt x0 k15).Set) x1)⟩ : DAnnotated)) hs)) Try.underlying26 Try.type91 rfl rfl rfl (Nat.le_of_ble_eq_true rfl) rfl rfl rfl (show (d16.length + 1) * 56 ≤ 140737488355328 from by omega) (show d16.length + 1 ≤ 9223372036854775807 from by omega) (Wd_none rfl) (by decide) (fun v61 => ?_)
      refine WM_form (n := 0) rfl ?_
      rintro A62 c63 rfl m64
      refine wa ?_
      refine WM_nil ?_
      refine QM_block_normal ?_
      refine QM_then ?_
      refine CM_region ?_
      refine wv (fun W hm => rv_addN (p := k15) (q := 1) rfl rfl (by omega)) ?_
      refine wm ?_
      refine WM_nil ?_
      have hn66 := rng_next (R := (List DAnnotated)) (body := (fun k (s : (List DAnnotated)) => impl_KeepSet_b1 x0 x1 k s)) (k := k15) (s := d16) (s' := (d16 ++ [(⟨((gt x0 k15).Row), (impl_MeetSets_m ((gt x0 k15).Set) x1)⟩ : DAnnotated)])) (show k15 < x0.length from by omega) (show impl_KeepSet_b1 x0 x1 k15 d16 = Sum.inr (d16 ++ [(⟨((gt x0 k15).Row), (impl_MeetSets_m ((gt x0 k15).Set) x1)⟩ : DAnnotated)]) from by unfold impl_KeepSet_b1; exact cond_t g53 (rfl)) hF20
      exact QM_round (k15 + 1, (d16 ++ [(⟨((gt x0 k15).Row), (impl_MeetSets_m ((gt x0 k15).Set) x1)⟩ : DAnnotated)]), (A62, c63)) (subL_cons rfl (subL_cons rfl (subL_cons rfl (subL_cons rfl (subL_cons rfl subL_nil))))) (fun W hm => (hm.pick [0] (by decide))) ⟨(by omega), hn66, (show (d16 ++ [(⟨((gt x0 k15).Row), (impl_MeetSets_m ((gt x0 k15).Set) x1)⟩ : DAnnotated)]).length ≤ 0 + (k15 + 1) from by first | omega | (simp only [List.length_append, List.length_cons, List.length_nil] at *; omega))⟩ (show x0.length - (k15 + 1) < x0.length - k15 from by omega)
    · have g53 : (decide (0 < (((impl_MeetSets_m ((gt x0 k15).Set) x1).length : Nat) : Int))) = false := decide_eq_false h52
      refine CM_condF rfl g53 ?_
      refine CM_skip ?_
      refine QM_block_normal ?_
      refine QM_then ?_
      refine CM_region ?_
      refine wv (fun W hm => rv_addN (p := k15) (q := 1) rfl rfl (by omega)) ?_
      refine wm ?_
      refine WM_nil ?_
      have hn67 := rng_next (R := (List DAnnotated)) (body := (fun k (s : (List DAnnotated)) => impl_KeepSet_b1 x0 x1 k s)) (k := k15) (s := d16) (s' := d16) (show k15 < x0.length from by omega) (show impl_KeepSet_b1 x0 x1 k15 d16 = Sum.inr d16 from by unfold impl_KeepSet_b1; exact cond_f g53 (rfl)) hF20
      exact QM_round (k15 + 1, d16, (A17, c18)) (subL_cons rfl (subL_cons rfl (subL_cons rfl (subL_cons rfl (subL_cons rfl subL_nil))))) (fun W hm => (hm.pick [2] (by decide))) ⟨(by omega), hn67, (show d16.length ≤ 0 + (k15 + 1) from by first | omega | (simp only [List.length_append, List.length_cons, List.length_nil] at *; omega))⟩ (show x0.length - (k15 + 1) < x0.length - k15 from by omega)
  · have g24 : (decide (((k15 : Nat) : Int) < ((x0.length : Nat) : Int))) = false := decide_eq_false (by omega)
    refine CM_condF rfl g24 ?_
    refine CM_exit ?_
    refine QM_then_exit ?_
    refine QM_then_exit ?_
    have hE68 : rng (R := (List DAnnotated)) (fun k (s : (List DAnnotated)) => impl_KeepSet_b1 x0 x1 k s) (x0.length - 0) 0 [] = Sum.inr d16 := rng_end hl23 hF20
    refine QM_block_hit ?_
    refine QM_then ?_
    refine sr ?_
    refine wm ?_
    refine wa ?_
    refine nt' ?_
    refine CM_ret ?_
    refine QM_r1 rfl (RR_tmp rfl) (fun W hm => ⟨.slice A17 d16.length c18, ?_, ?_⟩)
    · first | rw [(show impl_KeepSet_m x0 x1 = d16 from by unfold impl_KeepSet_m; exact fin_inr hE68 (rfl))] | rfl
    · rw [(show impl_KeepSet_m x0 x1 = d16 from by unfold impl_KeepSet_m; exact fin_inr hE68 (rfl))]; exact hm

def laws_eqIntS_b1 (x0 : (List Int)) (x1 : (List Int)) (k13 : Nat) : Bool ⊕ (Unit) :=
  cond ((gt x0 k13) != (gt x1 k13)) (Sum.inl false) (Sum.inr ())
def laws_eqIntS_m (x0 : (List Int)) (x1 : (List Int)) : Bool :=
  cond (((x0.length : Nat) : Int) != ((x1.length : Nat) : Int)) false (Sum.elim id (fun (s : Unit) => true) (rng (R := Bool) (fun k (_ : Unit) => laws_eqIntS_b1 x0 x1 k) (x0.length - 0) 0 ()))
theorem cb23 : Cb Try.prog 23 := ⟨Try.f23, _, Try.func23, rfl, by decide⟩
set_option maxRecDepth 10000 in
set_option maxHeartbeats 4000000 in
theorem laws_eqIntS_c (w : World) (z0 : Value) (x0 : (List Int)) (z1 : Value) (x1 : (List Int)) (r_0 : rdS tInt w w.heap.size z0 x0) (r_1 : rdS tInt w w.heap.size z1 x1) :
    Calls Try.prog 23 #[z0, z1] w fun e w' => e = .returned (.bool (laws_eqIntS_m x0 x1)) ∧ Below w.heap.size w w' := by
  have r5 := r_0
  obtain ⟨m1, A2, c3, rfl, q4⟩ := r_0
  have r10 := r_1
  obtain ⟨m6, A7, c8, rfl, q9⟩ := r_1
  refine call_enterM (L := [(0, .slice A2 x0.length c3), (1, .slice A7 x1.length c8)]) (N := 26) Try.func23 rfl rfl (Nat.le_of_ble_eq_true rfl) (argsL_cons rfl (argsL_cons rfl argsL_nil)) ?_
  refine sr ?_
  refine wa ?_
  refine nt' ?_
  refine CM_seq ?_
  refine sr ?_
  refine wm ?_
  refine wv (fun W hm => rv_len Try.underlying33 rfl) ?_
  refine wm ?_
  refine wv (fun W hm => rv_len Try.underlying33 rfl) ?_
  refine wv (fun W hm => rv_neq rfl rfl) ?_
  refine nt' ?_
  by_cases h11 : ((x0.length : Nat) : Int) = ((x1.length : Nat) : Int)
  · have g12 : (((x0.length : Nat) : Int) != ((x1.length : Nat) : Int)) = false := by rw [h11]; exact bne_self_eq_false _
    refine CM_condF rfl g12 ?_
    refine CM_skip ?_
    refine QM_then ?_
    refine CM_seq ?_
    refine sr ?_
    refine wa ?_
    refine nt' ?_
    refine CM_block ?_
    refine CM_loop (σ := Nat × (Unit) × (Unit)) (fun s => [(0, .slice A2 x0.length c3), (1, .slice A7 x1.length c8), (5, .int .i64 ((s.1 : Nat) : Int))]) (fun s => []) (fun s => s.1 ≤ x0.length ∧ rng (R := Bool) (fun k (_ : Unit) => laws_eqIntS_b1 x0 x1 k) (x0.length - s.1) s.1 s.2.1 = rng (R := Bool) (fun k (_ : Unit) => laws_eqIntS_b1 x0 x1 k) (x0.length - 0) 0 ()) (fun s => x0.length - s.1) (0, (), ()) (subL_cons rfl (subL_cons rfl (subL_cons rfl subL_nil))) (fun W hm => hm) ⟨(by omega), rfl⟩ ?_
    rintro ⟨k13, ⟨⟩, ⟨⟩⟩ H16
    obtain ⟨hk14, hF15⟩ : k13 ≤ x0.length ∧ rng (R := Bool) (fun k (_ : Unit) => laws_eqIntS_b1 x0 x1 k) (x0.length - k13) k13 () = rng (R := Bool) (fun k (_ : Unit) => laws_eqIntS_b1 x0 x1 k) (x0.length - 0) 0 () := H16
    show CM Try.prog 26 _ _ _ _ [(0, .slice A2 x0.length c3), (1, .slice A7 x1.length c8), (5, .int .i64 ((k13 : Nat) : Int))] []
    refine CM_seq ?_
    refine sr ?_
    refine wm ?_
    refine wm ?_
    refine wv (fun W hm => rv_len Try.underlying33 rfl) ?_
    refine wv (fun W hm => rv_lss rfl rfl) ?_
    refine nt' ?_
    by_cases hl17 : k13 < x0.length
    · have g18 : (decide (((k13 : Nat) : Int) < ((x0.length : Nat) : Int))) = true := decide_eq_true (by omega)
      refine CM_condT rfl g18 ?_
      refine CM_skip ?_
      refine QM_then ?_
      refine CM_seq ?_
      refine CM_block ?_
      refine CM_seq ?_
      refine CM_regionD (by kernel_rfl) (by kernel_rfl) ?_
      refine qm ?_
      refine qm ?_
      obtain ⟨a19, rfl, hb20, he21⟩ := q4 (by omega)
      refine qv (fun W hm => rv_index (sz := 1) (k := k13) Try.underlying33 Try.type3 rfl rfl rfl (by omega)) ?_
      refine qv (fun W hm => rv_load Try.underlying3 rfl rfl ((hm.cell0 (show (a19.add (k13 * 1)).block < w.heap.size from by rw [add_block]; exact hb20.1)).trans (rdS_int he21 k13 (by omega)))) ?_
      refine qm ?_
      refine qm ?_
      obtain ⟨a22, rfl, hb23, he24⟩ := q9 (by omega)
      refine qv (fun W hm => rv_index (sz := 1) (k := k13) Try.underlying33 Try.type3 rfl rfl rfl (by omega)) ?_
      refine qv (fun W hm => rv_load Try.underlying3 rfl rfl ((hm.cell0 (show (a22.add (k13 * 1)).block < w.heap.size from by rw [add_block]; exact hb23.1)).trans (rdS_int he24 k13 (by omega)))) ?_
      refine qv (fun W hm => rv_neq rfl rfl) ?_
      refine nq' ?_
      by_cases h25 : (gt x0 k13) = (gt x1 k13)
      · have g26 : ((gt x0 k13) != (gt x1 k13)) = false := by rw [h25]; exact bne_self_eq_false _
        refine CM_condF rfl g26 ?_
        refine CM_skip ?_
        refine QM_block_normal ?_
        refine QM_then ?_
        refine CM_region ?_
        refine wm ?_
        refine wv (fun W hm => rv_addN (p := k13) (q := 1) rfl rfl (by omega)) ?_
        refine wa ?_
        refine WM_nil ?_
        have hn27 := rng_next (R := Bool) (body := (fun k (_ : Unit) => laws_eqIntS_b1 x0 x1 k)) (k := k13) (s := ()) (s' := ()) (show k13 < x0.length from by omega) (show laws_eqIntS_b1 x0 x1 k13 = Sum.inr () from by unfold laws_eqIntS_b1; exact cond_f g26 (rfl)) hF15
        exact QM_round (k13 + 1, (), ()) (subL_cons rfl (subL_cons rfl (subL_cons rfl subL_nil))) (fun W hm => hm) ⟨(by omega), hn27⟩ (show x0.length - (k13 + 1) < x0.length - k13 from by omega)
      · have g26 : ((gt x0 k13) != (gt x1 k13)) = true := bne_iff_ne.2 h25
        refine CM_condT rfl g26 ?_
        refine sr ?_
        refine wa ?_
        refine nt' ?_
        refine CM_ret ?_
        refine QM_block_ret ?_
        refine QM_then_ret ?_
        refine QM_then_ret ?_
        refine QM_block_ret ?_
        refine QM_then_ret ?_
        exact QM_ret1 rfl rfl (fun W hm => ⟨ret_b (show laws_eqIntS_m x0 x1 = false from by unfold laws_eqIntS_m; exact cond_f g12 (fin_inl (rng_ret (body := (fun k (_ : Unit) => laws_eqIntS_b1 x0 x1 k)) (k := k13) (s := ()) (show k13 < x0.length from by omega) (show laws_eqIntS_b1 x0 x1 k13 = Sum.inl false from by unfold laws_eqIntS_b1; exact cond_t g26 (rfl)) hF15) rfl)), hm.below⟩)
    · have g18 : (decide (((k13 : Nat) : Int) < ((x0.length : Nat) : Int))) = false := decide_eq_false (by omega)
      refine CM_condF rfl g18 ?_
      refine CM_exit ?_
      refine QM_then_exit ?_
      refine QM_then_exit ?_
      have hE28 : rng (R := Bool) (fun k (_ : Unit) => laws_eqIntS_b1 x0 x1 k) (x0.length - 0) 0 () = Sum.inr () := rng_end hl17 hF15
      refine QM_block_hit ?_
      refine QM_then ?_
      refine sr ?_
      refine wa ?_
      refine nt' ?_
      refine CM_ret ?_
      exact QM_ret1 rfl rfl (fun W hm => ⟨ret_b (show laws_eqIntS_m x0 x1 = true from by unfold laws_eqIntS_m; exact cond_f g12 (fin_inr hE28 (rfl))), hm.below⟩)
  · have g12 : (((x0.length : Nat) : Int) != ((x1.length : Nat) : Int)) = true := bne_iff_ne.2 h11
    refine CM_condT rfl g12 ?_
    refine sr ?_
    refine wa ?_
    refine nt' ?_
    refine CM_ret ?_
    refine QM_then_ret ?_
    exact QM_ret1 rfl rfl (fun W hm => ⟨ret_b (show laws_eqIntS_m x0 x1 = false from by unfold laws_eqIntS_m; exact cond_t g12 (rfl)), hm.below⟩)

def laws_eqRow_m (x0 : DRow) (x1 : DRow) : Bool :=
  cond (x0.Id != x1.Id) false (cond (laws_eqIntS_m x0.Values x1.Values) true false)
theorem cb62 : Cb Try.prog 62 := ⟨Try.f62, _, Try.func62, rfl, by decide⟩
set_option maxRecDepth 10000 in
set_option maxHeartbeats 4000000 in
theorem laws_eqRow_c (w : World) (z0 : List Value) (x0 : DRow) (z1 : List Value) (x1 : DRow) (r_0 : tyRow.rd w w.heap.size z0 x0) (r_1 : tyRow.rd w w.heap.size z1 x1) :
    Calls Try.prog 62 #[.agg z0.toArray, .agg z1.toArray] w fun e w' => e = .returned (.bool (laws_eqRow_m x0 x1)) ∧ Below w.heap.size w w' := by
  obtain ⟨v1, rfl, r2⟩ := tyRow_rd r_0
  have r7 := r2
  obtain ⟨m3, A4, c5, rfl, q6⟩ := r2
  obtain ⟨v8, rfl, r9⟩ := tyRow_rd r_1
  have r14 := r9
  obtain ⟨m10, A11, c12, rfl, q13⟩ := r9
  refine call_enterM (L := [(0, .agg #[.int .i64 x0.Id, .slice A4 x0.Values.length c5]), (1, .agg #[.int .i64 x1.Id, .slice A11 x1.Values.length c12])]) (N := 16) Try.func62 rfl rfl (Nat.le_of_ble_eq_true rfl) (argsL_cons rfl (argsL_cons rfl argsL_nil)) ?_
  refine sr ?_
  refine WM_box rfl (Wd_none rfl) (by decide) (fun p15 => ?_)
  refine WM_box rfl (Wd_none rfl) (by decide) (fun p16 => ?_)
  refine wa ?_
  refine nt' ?_
  refine CM_seq ?_
  refine sr ?_
  refine wv (fun W hm => rv_field Try.underlying69 rfl Try.type3 (by decide) rfl rfl) ?_
  refine wv (fun W hm => rv_load Try.underlying3 rfl rfl (hm.boxCell (n := 1) (o := 0) rfl rfl)) ?_
  refine wv (fun W hm => rv_field Try.underlying69 rfl Try.type3 (by decide) rfl rfl) ?_
  refine wv (fun W hm => rv_load Try.underlying3 rfl rfl (hm.boxCell (n := 0) (o := 0) rfl rfl)) ?_
  refine wv (fun W hm => rv_neq rfl rfl) ?_
  refine nt' ?_
  by_cases h17 : x0.Id = x1.Id
  · have g18 : (x0.Id != x1.Id) = false := by rw [h17]; exact bne_self_eq_false _
    refine CM_condF rfl g18 ?_
    refine CM_skip ?_
    refine QM_then ?_
    refine CM_seq ?_
    refine sr ?_
    refine wv (fun W hm => rv_field Try.underlying69 rfl Try.type33 (by decide) rfl rfl) ?_
    refine wv (fun W hm => rv_load Try.underlying33 rfl rfl (hm.boxCell (n := 1) (o := 1) rfl rfl)) ?_
    refine wv (fun W hm => rv_field Try.underlying69 rfl Try.type33 (by decide) rfl rfl) ?_
    refine wv (fun W hm => rv_load Try.underlying33 rfl rfl (hm.boxCell (n := 0) (o := 1) rfl rfl)) ?_
    refine WM_callV (cl_fn cb23 rfl) (fun W hm => laws_eqIntS_c W _ x0.Values _ x1.Values (hm.rdS0 r7) (hm.rdS0 r14)) (Wd_none rfl) (by decide) ?_
    refine wv (fun W hm => rv_not rfl) ?_
    refine nt' ?_
    rcases Bool.eq_false_or_eq_true (laws_eqIntS_m x0.Values x1.Values) with g20 | g20
    ·
      refine CM_condF rfl (nt g20) ?_
      refine CM_skip ?_
      refine QM_then ?_
      refine sr ?_
      refine wa ?_
      refine nt' ?_
      refine CM_ret ?_
      exact QM_ret1 rfl rfl (fun W hm => ⟨ret_b (show laws_eqRow_m x0 x1 = true from by unfold laws_eqRow_m; exact cond_f g18 (cond_t g20 (rfl))), hm.below⟩)
    ·
      refine CM_condT rfl (nf g20) ?_
      refine sr ?_
      refine wa ?_
      refine nt' ?_
      refine CM_ret ?_
      refine QM_then_ret ?_
      exact QM_ret1 rfl rfl (fun W hm => ⟨ret_b (show laws_eqRow_m x0 x1 = false from by unfold laws_eqRow_m; exact cond_f g18 (cond_f g20 (rfl))), hm.below⟩)
  · have g18 : (x0.Id != x1.Id) = true := bne_iff_ne.2 h17
    refine CM_condT rfl g18 ?_
    refine sr ?_
    refine wa ?_
    refine nt' ?_
    refine CM_ret ?_
    refine QM_then_ret ?_
    exact QM_ret1 rfl rfl (fun W hm => ⟨ret_b (show laws_eqRow_m x0 x1 = false from by unfold laws_eqRow_m; exact cond_t g18 (rfl)), hm.below⟩)

def laws_eqAnnotated_m (x0 : DAnnotated) (x1 : DAnnotated) : Bool :=
  cond (laws_eqRow_m x0.Row x1.Row) (cond (laws_eqIntS_m x0.Set x1.Set) true false) false
theorem cb63 : Cb Try.prog 63 := ⟨Try.f63, _, Try.func63, rfl, by decide⟩
set_option maxRecDepth 10000 in
set_option maxHeartbeats 4000000 in
theorem laws_eqAnnotated_c (w : World) (z0 : List Value) (x0 : DAnnotated) (z1 : List Value) (x1 : DAnnotated) (r_0 : tyAnnotated.rd w w.heap.size z0 x0) (r_1 : tyAnnotated.rd w w.heap.size z1 x1) :
    Calls Try.prog 63 #[.agg z0.toArray, .agg z1.toArray] w fun e w' => e = .returned (.bool (laws_eqAnnotated_m x0 x1)) ∧ Below w.heap.size w w' := by
  obtain ⟨v1, v3, rfl, r2, r4⟩ := tyAnnotated_rd r_0
  have r9 := r2
  obtain ⟨m5, A6, c7, rfl, q8⟩ := r2
  have r14 := r4
  obtain ⟨m10, A11, c12, rfl, q13⟩ := r4
  obtain ⟨v15, v17, rfl, r16, r18⟩ := tyAnnotated_rd r_1
  have r23 := r16
  obtain ⟨m19, A20, c21, rfl, q22⟩ := r16
  have r28 := r18
  obtain ⟨m24, A25, c26, rfl, q27⟩ := r18
  refine call_enterM (L := [(0, .agg #[.int .i64 x0.Row.Id, .slice A6 x0.Row.Values.length c7, .slice A11 x0.Set.length c12]), (1, .agg #[.int .i64 x1.Row.Id, .slice A20 x1.Row.Values.length c21, .slice A25 x1.Set.length c26])]) (N := 17) Try.func63 rfl rfl (Nat.le_of_ble_eq_true rfl) (argsL_cons rfl (argsL_cons rfl argsL_nil)) ?_
  refine sr ?_
  refine WM_box rfl (Wd_none rfl) (by decide) (fun p29 => ?_)
  refine WM_box rfl (Wd_none rfl) (by decide) (fun p30 => ?_)
  refine wa ?_
  refine nt' ?_
  refine CM_seq ?_
  refine sr ?_
  refine wv (fun W hm => rv_field Try.underlying91 rfl Try.type69 (by decide) rfl rfl) ?_
  refine wv (fun W hm => rv_loadN (cs := [.int .i64 x0.Row.Id, .slice A6 x0.Row.Values.length c7]) Try.underlying69 Try.type69 rfl rfl (hm.boxPart (n := 1) rfl rfl)) ?_
  refine wv (fun W hm => rv_field Try.underlying91 rfl Try.type69 (by decide) rfl rfl) ?_
  refine wv (fun W hm => rv_loadN (cs := [.int .i64 x1.Row.Id, .slice A20 x1.Row.Values.length c21]) Try.underlying69 Try.type69 rfl rfl (hm.boxPart (n := 0) rfl rfl)) ?_
  refine WM_callV (cl_fn cb62 rfl) (fun W hm => laws_eqRow_c W _ x0.Row _ x1.Row (tyRow_mk (x := x0.Row) (hm.rdS0 r9)) (tyRow_mk (x := x1.Row) (hm.rdS0 r23))) (Wd_none rfl) (by decide) ?_
  refine wv (fun W hm => rv_not rfl) ?_
  refine nt' ?_
  rcases Bool.eq_false_or_eq_true (laws_eqRow_m x0.Row x1.Row) with g32 | g32
  ·
    refine CM_condF rfl (nt g32) ?_
    refine CM_skip ?_
    refine QM_then ?_
    refine CM_seq ?_
    refine sr ?_
    refine wv (fun W hm => rv_field Try.underlying91 rfl Try.type33 (by decide) rfl rfl) ?_
    refine wv (fun W hm => rv_load Try.underlying33 rfl rfl (hm.boxCell (n := 1) (o := 2) rfl rfl)) ?_
    refine wv (fun W hm => rv_field Try.underlying91 rfl Try.type33 (by decide) rfl rfl) ?_
    refine wv (fun W hm => rv_load Try.underlying33 rfl rfl (hm.boxCell (n := 0) (o := 2) rfl rfl)) ?_
    refine WM_callV (cl_fn cb23 rfl) (fun W hm => laws_eqIntS_c W _ x0.Set _ x1.Set (hm.rdS0 r14) (hm.rdS0 r28)) (Wd_none rfl) (by decide) ?_
    refine wv (fun W hm => rv_not rfl) ?_
    refine nt' ?_
    rcases Bool.eq_false_or_eq_true (laws_eqIntS_m x0.Set x1.Set) with g34 | g34
    ·
      refine CM_condF rfl (nt g34) ?_
      refine CM_skip ?_
      refine QM_then ?_
      refine sr ?_
      refine wa ?_
      refine nt' ?_
      refine CM_ret ?_
      exact QM_ret1 rfl rfl (fun W hm => ⟨ret_b (show laws_eqAnnotated_m x0 x1 = true from by unfold laws_eqAnnotated_m; exact cond_t g32 (cond_t g34 (rfl))), hm.below⟩)
    ·
      refine CM_condT rfl (nf g34) ?_
      refine sr ?_
      refine wa ?_
      refine nt' ?_
      refine CM_ret ?_
      refine QM_then_ret ?_
      exact QM_ret1 rfl rfl (fun W hm => ⟨ret_b (show laws_eqAnnotated_m x0 x1 = false from by unfold laws_eqAnnotated_m; exact cond_t g32 (cond_f g34 (rfl))), hm.below⟩)
  ·
    refine CM_condT rfl (nf g32) ?_
    refine sr ?_
    refine wa ?_
    refine nt' ?_
    refine CM_ret ?_
    refine QM_then_ret ?_
    exact QM_ret1 rfl rfl (fun W hm => ⟨ret_b (show laws_eqAnnotated_m x0 x1 = false from by unfold laws_eqAnnotated_m; exact cond_f g32 (rfl)), hm.below⟩)

def laws_eqAnnotatedS_b1 (x0 : (List DAnnotated)) (x1 : (List DAnnotated)) (k13 : Nat) : Bool ⊕ (Unit) :=
  cond (laws_eqAnnotated_m (gt x0 k13) (gt x1 k13)) (Sum.inr ()) (Sum.inl false)
def laws_eqAnnotatedS_m (x0 : (List DAnnotated)) (x1 : (List DAnnotated)) : Bool :=
  cond (((x0.length : Nat) : Int) != ((x1.length : Nat) : Int)) false (Sum.elim id (fun (s : Unit) => true) (rng (R := Bool) (fun k (_ : Unit) => laws_eqAnnotatedS_b1 x0 x1 k) (x0.length - 0) 0 ()))
theorem cb16 : Cb Try.prog 16 := ⟨Try.f16, _, Try.func16, rfl, by decide⟩
set_option maxRecDepth 10000 in
set_option maxHeartbeats 4000000 in
theorem laws_eqAnnotatedS_c (w : World) (z0 : Value) (x0 : (List DAnnotated)) (z1 : Value) (x1 : (List DAnnotated)) (r_0 : rdS tyAnnotated w w.heap.size z0 x0) (r_1 : rdS tyAnnotated w w.heap.size z1 x1) :
    Calls Try.prog 16 #[z0, z1] w fun e w' => e = .returned (.bool (laws_eqAnnotatedS_m x0 x1)) ∧ Below w.heap.size w w' := by
  have r5 := r_0
  obtain ⟨m1, A2, c3, rfl, q4⟩ := r_0
  have r10 := r_1
  obtain ⟨m6, A7, c8, rfl, q9⟩ := r_1
  refine call_enterM (L := [(0, .slice A2 x0.length c3), (1, .slice A7 x1.length c8)]) (N := 27) Try.func16 rfl rfl (Nat.le_of_ble_eq_true rfl) (argsL_cons rfl (argsL_cons rfl argsL_nil)) ?_
  refine sr ?_
  refine wa ?_
  refine nt' ?_
  refine CM_seq ?_
  refine sr ?_
  refine wm ?_
  refine wv (fun W hm => rv_len Try.underlying26 rfl) ?_
  refine wm ?_
  refine wv (fun W hm => rv_len Try.underlying26 rfl) ?_
  refine wv (fun W hm => rv_neq rfl rfl) ?_
  refine nt' ?_
  by_cases h11 : ((x0.length : Nat) : Int) = ((x1.length : Nat) : Int)
  · have g12 : (((x0.length : Nat) : Int) != ((x1.length : Nat) : Int)) = false := by rw [h11]; exact bne_self_eq_false _
    refine CM_condF rfl g12 ?_
    refine CM_skip ?_
    refine QM_then ?_
    refine CM_seq ?_
    refine sr ?_
    refine wa ?_
    refine nt' ?_
    refine CM_block ?_
    refine CM_loop (σ := Nat × (Unit) × (Unit)) (fun s => [(0, .slice A2 x0.length c3), (1, .slice A7 x1.length c8), (5, .int .i64 ((s.1 : Nat) : Int))]) (fun s => []) (fun s => s.1 ≤ x0.length ∧ rng (R := Bool) (fun k (_ : Unit) => laws_eqAnnotatedS_b1 x0 x1 k) (x0.length - s.1) s.1 s.2.1 = rng (R := Bool) (fun k (_ : Unit) => laws_eqAnnotatedS_b1 x0 x1 k) (x0.length - 0) 0 ()) (fun s => x0.length - s.1) (0, (), ()) (subL_cons rfl (subL_cons rfl (subL_cons rfl subL_nil))) (fun W hm => hm) ⟨(by omega), rfl⟩ ?_
    rintro ⟨k13, ⟨⟩, ⟨⟩⟩ H16
    obtain ⟨hk14, hF15⟩ : k13 ≤ x0.length ∧ rng (R := Bool) (fun k (_ : Unit) => laws_eqAnnotatedS_b1 x0 x1 k) (x0.length - k13) k13 () = rng (R := Bool) (fun k (_ : Unit) => laws_eqAnnotatedS_b1 x0 x1 k) (x0.length - 0) 0 () := H16
    show CM Try.prog 27 _ _ _ _ [(0, .slice A2 x0.length c3), (1, .slice A7 x1.length c8), (5, .int .i64 ((k13 : Nat) : Int))] []
    refine CM_seq ?_
    refine sr ?_
    refine wm ?_
    refine wm ?_
    refine wv (fun W hm => rv_len Try.underlying26 rfl) ?_
    refine wv (fun W hm => rv_lss rfl rfl) ?_
    refine nt' ?_
    by_cases hl17 : k13 < x0.length
    · have g18 : (decide (((k13 : Nat) : Int) < ((x0.length : Nat) : Int))) = true := decide_eq_true (by omega)
      refine CM_condT rfl g18 ?_
      refine CM_skip ?_
      refine QM_then ?_
      refine CM_seq ?_
      refine CM_block ?_
      refine CM_seq ?_
      refine CM_regionD (by kernel_rfl) (by kernel_rfl) ?_
      refine qm ?_
      refine qm ?_
      obtain ⟨a19, rfl, hb20, he21⟩ := q4 (by omega)
      refine qv (fun W hm => rv_index (sz := 3) (k := k13) Try.underlying26 Try.type91 rfl rfl rfl (by omega)) ?_
      obtain ⟨_, e27, hc22⟩ := he21 k13 _ (gt_some (show k13 < x0.length from by omega))
      obtain ⟨v23, v25, rfl, r24, r26⟩ := tyAnnotated_rd e27
      have r32 := r24
      obtain ⟨m28, A29, c30, rfl, q31⟩ := r24
      have r37 := r26
      obtain ⟨m33, A34, c35, rfl, q36⟩ := r26
      refine qv (fun W hm => rv_loadN (cs := [.int .i64 ((gt x0 k13).Row.Id), .slice A29 ((gt x0 k13).Row.Values).length c30, .slice A34 ((gt x0 k13).Set).length c35]) Try.underlying91 Try.type91 rfl rfl (hm.elCells (show (a19.add (k13 * 3)).block < w.heap.size from by rw [add_block]; exact hb20.1) hc22)) ?_
      refine qm ?_
      refine qm ?_
      obtain ⟨a38, rfl, hb39, he40⟩ := q9 (by omega)
      refine qv (fun W hm => rv_index (sz := 3) (k := k13) Try.underlying26 Try.type91 rfl rfl rfl (by omega)) ?_
      obtain ⟨_, e46, hc41⟩ := he40 k13 _ (gt_some (show k13 < x1.length from by omega))
      obtain ⟨v42, v44, rfl, r43, r45⟩ := tyAnnotated_rd e46
      have r51 := r43
      obtain ⟨m47, A48, c49, rfl, q50⟩ := r43
      have r56 := r45
      obtain ⟨m52, A53, c54, rfl, q55⟩ := r45
      refine qv (fun W hm => rv_loadN (cs := [.int .i64 ((gt x1 k13).Row.Id), .slice A48 ((gt x1 k13).Row.Values).length c49, .slice A53 ((gt x1 k13).Set).length c54]) Try.underlying91 Try.type91 rfl rfl (hm.elCells (show (a38.add (k13 * 3)).block < w.heap.size from by rw [add_block]; exact hb39.1) hc41)) ?_
      refine QR_callV (cl_fn cb63 rfl) (fun W hm => laws_eqAnnotated_c W _ (gt x0 k13) _ (gt x1 k13) (tyAnnotated_mk (x := (gt x0 k13)) (hm.rdS0 r32) (hm.rdS0 r37)) (tyAnnotated_mk (x := (gt x1 k13)) (hm.rdS0 r51) (hm.rdS0 r56))) (Wd_none rfl) (by decide) ?_
      refine qv (fun W hm => rv_not rfl) ?_
      refine nq' ?_
      rcases Bool.eq_false_or_eq_true (laws_eqAnnotated_m (gt x0 k13) (gt x1 k13)) with g58 | g58
      ·
        refine CM_condF rfl (nt g58) ?_
        refine CM_skip ?_
        refine QM_block_normal ?_
        refine QM_then ?_
        refine CM_region ?_
        refine wm ?_
        refine wv (fun W hm => rv_addN (p := k13) (q := 1) rfl rfl (by omega)) ?_
        refine wa ?_
        refine WM_nil ?_
        have hn59 := rng_next (R := Bool) (body := (fun k (_ : Unit) => laws_eqAnnotatedS_b1 x0 x1 k)) (k := k13) (s := ()) (s' := ()) (show k13 < x0.length from by omega) (show laws_eqAnnotatedS_b1 x0 x1 k13 = Sum.inr () from by unfold laws_eqAnnotatedS_b1; exact cond_t g58 (rfl)) hF15
        exact QM_round (k13 + 1, (), ()) (subL_cons rfl (subL_cons rfl (subL_cons rfl subL_nil))) (fun W hm => hm) ⟨(by omega), hn59⟩ (show x0.length - (k13 + 1) < x0.length - k13 from by omega)
      ·
        refine CM_condT rfl (nf g58) ?_
        refine sr ?_
        refine wa ?_
        refine nt' ?_
        refine CM_ret ?_
        refine QM_block_ret ?_
        refine QM_then_ret ?_
        refine QM_then_ret ?_
        refine QM_block_ret ?_
        refine QM_then_ret ?_
        exact QM_ret1 rfl rfl (fun W hm => ⟨ret_b (show laws_eqAnnotatedS_m x0 x1 = false from by unfold laws_eqAnnotatedS_m; exact cond_f g12 (fin_inl (rng_ret (body := (fun k (_ : Unit) => laws_eqAnnotatedS_b1 x0 x1 k)) (k := k13) (s := ()) (show k13 < x0.length from by omega) (show laws_eqAnnotatedS_b1 x0 x1 k13 = Sum.inl false from by unfold laws_eqAnnotatedS_b1; exact cond_f g58 (rfl)) hF15) rfl)), hm.below⟩)
    · have g18 : (decide (((k13 : Nat) : Int) < ((x0.length : Nat) : Int))) = false := decide_eq_false (by omega)
      refine CM_condF rfl g18 ?_
      refine CM_exit ?_
      refine QM_then_exit ?_
      refine QM_then_exit ?_
      have hE60 : rng (R := Bool) (fun k (_ : Unit) => laws_eqAnnotatedS_b1 x0 x1 k) (x0.length - 0) 0 () = Sum.inr () := rng_end hl17 hF15
      refine QM_block_hit ?_
      refine QM_then ?_
      refine sr ?_
      refine wa ?_
      refine nt' ?_
      refine CM_ret ?_
      exact QM_ret1 rfl rfl (fun W hm => ⟨ret_b (show laws_eqAnnotatedS_m x0 x1 = true from by unfold laws_eqAnnotatedS_m; exact cond_f g12 (fin_inr hE60 (rfl))), hm.below⟩)
  · have g12 : (((x0.length : Nat) : Int) != ((x1.length : Nat) : Int)) = true := bne_iff_ne.2 h11
    refine CM_condT rfl g12 ?_
    refine sr ?_
    refine wa ?_
    refine nt' ?_
    refine CM_ret ?_
    refine QM_then_ret ?_
    exact QM_ret1 rfl rfl (fun W hm => ⟨ret_b (show laws_eqAnnotatedS_m x0 x1 = false from by unfold laws_eqAnnotatedS_m; exact cond_t g12 (rfl)), hm.below⟩)

def laws_markIntS_b1 (k5 : Nat) (s6 : Int) (d7 : (List Int)) : (Int × (List Int)) ⊕ (Int × (List Int)) :=
  Sum.inr ((IntKind.i64.wrap (s6 + 1)), (d7.set k5 s6))
def laws_markIntS_m (x0 : (List Int)) (x1 : Int) : (Int × (List Int)) :=
  Sum.elim id (fun (s : Int × (List Int)) => (s.1, s.2)) (rng (R := (Int × (List Int))) (fun k (s : Int × (List Int)) => laws_markIntS_b1 k s.1 s.2) (x0.length - 0) 0 (x1, x0))
theorem cb24 : Cb Try.prog 24 := ⟨Try.f24, _, Try.func24, rfl, by decide⟩
set_option maxRecDepth 10000 in
set_option maxHeartbeats 4000000 in
theorem laws_markIntS_c (B : Nat) (w0 : World) (is : List It) (w : World) (z0 : Value) (x0 : (List Int)) (x1 : Int) (hm : Mem B w0 (iOwn (tSl tInt 3) [z0] x0 :: is) w) :
    Calls Try.prog 24 #[z0, .int .i64 x1] w fun e w' => e = .returned (.int .i64 (laws_markIntS_m x0 x1).1) ∧ Mem B w0 (iOwn (tSl tInt 3) [z0] (laws_markIntS_m x0 x1).2 :: is) w' := by
  refine call_enterW (L := [(0, z0), (1, .int .i64 x1)]) (N := 19) Try.func24 rfl rfl (Nat.le_of_ble_eq_true rfl) (argsL_cons rfl (argsL_cons rfl argsL_nil)) hm ?_
  refine CM_form (n := 0) rfl ?_
  rintro A1 c2 rfl m3
  refine sr ?_
  refine wa ?_
  refine nt' ?_
  refine CM_seq ?_
  refine sr ?_
  refine wa ?_
  refine nt' ?_
  refine CM_block ?_
  refine CM_loop (σ := Nat × (Int × (List Int)) × (Unit)) (fun s => [(0, .slice A1 x0.length c2), (1, .int .i64 s.2.1.1), (5, .int .i64 ((s.1 : Nat) : Int))]) (fun s => (iOwn (tSl tInt 3) [.slice A1 x0.length c2] s.2.1.2 :: is)) (fun s => s.1 ≤ x0.length ∧ rng (R := (Int × (List Int))) (fun k (s : Int × (List Int)) => laws_markIntS_b1 k s.1 s.2) (x0.length - s.1) s.1 s.2.1 = rng (R := (Int × (List Int))) (fun k (s : Int × (List Int)) => laws_markIntS_b1 k s.1 s.2) (x0.length - 0) 0 (x1, x0)) (fun s => x0.length - s.1) (0, (x1, x0), ()) (subL_cons rfl (subL_cons rfl (subL_cons rfl subL_nil))) (fun W hm => hm) ⟨(by omega), rfl⟩ ?_
  rintro ⟨k5, ⟨s6, d7⟩, ⟨⟩⟩ H10
  obtain ⟨hk8, hF9⟩ : k5 ≤ x0.length ∧ rng (R := (Int × (List Int))) (fun k (s : Int × (List Int)) => laws_markIntS_b1 k s.1 s.2) (x0.length - k5) k5 (s6, d7) = rng (R := (Int × (List Int))) (fun k (s : Int × (List Int)) => laws_markIntS_b1 k s.1 s.2) (x0.length - 0) 0 (x1, x0) := H10
  show CM Try.prog 19 _ _ _ _ [(0, .slice A1 x0.length c2), (1, .int .i64 s6), (5, .int .i64 ((k5 : Nat) : Int))] (iOwn (tSl tInt 3) [.slice A1 x0.length c2] d7 :: is)
  refine CM_seq ?_
  refine sr ?_
  refine wm ?_
  refine wm ?_
  refine wv (fun W hm => rv_len Try.underlying33 rfl) ?_
  refine wv (fun W hm => rv_lss rfl rfl) ?_
  refine nt' ?_
  by_cases hl11 : k5 < x0.length
  · have g12 : (decide (((k5 : Nat) : Int) < ((x0.length : Nat) : Int))) = true := decide_eq_true (by omega)
    refine CM_condT rfl g12 ?_
    refine CM_skip ?_
    refine QM_then ?_
    refine CM_seq ?_
    refine CM_block ?_
    refine sr ?_
    refine wm ?_
    refine wm ?_
    refine wm ?_
    refine WM_formO (n := 0) rfl (by omega) ?_
    rintro g13 rfl
    refine wv (fun W hm => rv_index (sz := 1) (k := k5) Try.underlying33 Try.type3 rfl rfl rfl (by omega)) ?_
    refine WM_setEl (E := tInt) (e := 3) (u := .int .i64 s6) (k := k5) (p := g13) (n := x0.length) (xs := d7) (eis := []) (js := (is)) (yv := s6) (fun W hm => (hm.front (n := 0) rfl)) (fun _ _ hs => (Sep.nil hs ▸ tInt_own)) rfl Try.type3 rfl (by omega) rfl rfl (Wd_none rfl) ?_
    refine nt' ?_
    refine CM_region ?_
    refine wm ?_
    refine wv (fun W hm => rv_add rfl rfl) ?_
    refine wa ?_
    refine WM_nil ?_
    refine QM_block_normal ?_
    refine QM_then ?_
    refine CM_region ?_
    refine wm ?_
    refine wv (fun W hm => rv_addN (p := k5) (q := 1) rfl rfl (by omega)) ?_
    refine wa ?_
    refine WM_nil ?_
    have hn14 := rng_next (R := (Int × (List Int))) (body := (fun k (s : Int × (List Int)) => laws_markIntS_b1 k s.1 s.2)) (k := k5) (s := (s6, d7)) (s' := ((IntKind.i64.wrap (s6 + 1)), (d7.set k5 s6))) (show k5 < x0.length from by omega) (show laws_markIntS_b1 k5 s6 d7 = Sum.inr ((IntKind.i64.wrap (s6 + 1)), (d7.set k5 s6)) from by unfold laws_markIntS_b1; exact rfl) hF9
    exact QM_round (k5 + 1, ((IntKind.i64.wrap (s6 + 1)), (d7.set k5 s6)), ()) (subL_cons rfl (subL_cons rfl (subL_cons rfl subL_nil))) (fun W hm => hm) ⟨(by omega), hn14⟩ (show x0.length - (k5 + 1) < x0.length - k5 from by omega)
  · have g12 : (decide (((k5 : Nat) : Int) < ((x0.length : Nat) : Int))) = false := decide_eq_false (by omega)
    refine CM_condF rfl g12 ?_
    refine CM_exit ?_
    refine QM_then_exit ?_
    refine QM_then_exit ?_
    have hE15 : rng (R := (Int × (List Int))) (fun k (s : Int × (List Int)) => laws_markIntS_b1 k s.1 s.2) (x0.length - 0) 0 (x1, x0) = Sum.inr (s6, d7) := rng_end hl11 hF9
    refine QM_block_hit ?_
    refine QM_then ?_
    refine sr ?_
    refine wm ?_
    refine wa ?_
    refine nt' ?_
    refine CM_ret ?_
    refine QM_rW rfl rfl (fun W hm => ⟨?_, ?_⟩)
    · rw [(show laws_markIntS_m x0 x1 = (s6, d7) from by unfold laws_markIntS_m; exact fin_inr hE15 (rfl))]
    · rw [(show laws_markIntS_m x0 x1 = (s6, d7) from by unfold laws_markIntS_m; exact fin_inr hE15 (rfl))]; exact hm

def laws_markAnnotatedS_b1 (k5 : Nat) (s6 : Int) (d7 : (List DAnnotated)) : (Int × (List DAnnotated)) ⊕ (Int × (List DAnnotated)) :=
  Sum.inr ((laws_markIntS_m ((gt d7 k5).Set) ((laws_markIntS_m ((gt d7 k5).Row.Values) (IntKind.i64.wrap (s6 + 1))).1)).1, (d7.set k5 (⟨(⟨s6, (laws_markIntS_m ((gt d7 k5).Row.Values) (IntKind.i64.wrap (s6 + 1))).2⟩ : DRow), (laws_markIntS_m ((gt d7 k5).Set) ((laws_markIntS_m ((gt d7 k5).Row.Values) (IntKind.i64.wrap (s6 + 1))).1)).2⟩ : DAnnotated)))
def laws_markAnnotatedS_m (x0 : (List DAnnotated)) (x1 : Int) : (Int × (List DAnnotated)) :=
  Sum.elim id (fun (s : Int × (List DAnnotated)) => (s.1, s.2)) (rng (R := (Int × (List DAnnotated))) (fun k (s : Int × (List DAnnotated)) => laws_markAnnotatedS_b1 k s.1 s.2) (x0.length - 0) 0 (x1, x0))
theorem cb17 : Cb Try.prog 17 := ⟨Try.f17, _, Try.func17, rfl, by decide⟩
set_option maxRecDepth 10000 in
set_option maxHeartbeats 4000000 in
theorem laws_markAnnotatedS_c (B : Nat) (w0 : World) (is : List It) (w : World) (z0 : Value) (x0 : (List DAnnotated)) (x1 : Int) (hm : Mem B w0 (iOwn (tSl tyAnnotated 91) [z0] x0 :: is) w) :
    Calls Try.prog 17 #[z0, .int .i64 x1] w fun e w' => e = .returned (.int .i64 (laws_markAnnotatedS_m x0 x1).1) ∧ Mem B w0 (iOwn (tSl tyAnnotated 91) [z0] (laws_markAnnotatedS_m x0 x1).2 :: is) w' := by
  refine call_enterW (L := [(0, z0), (1, .int .i64 x1)]) (N := 36) Try.func17 rfl rfl (Nat.le_of_ble_eq_true rfl) (argsL_cons rfl (argsL_cons rfl argsL_nil)) hm ?_
  refine CM_form (n := 0) rfl ?_
  rintro A1 c2 rfl m3
  refine sr ?_
  refine wa ?_
  refine nt' ?_
  refine CM_seq ?_
  refine sr ?_
  refine wa ?_
  refine nt' ?_
  refine CM_block ?_
  refine CM_loop (σ := Nat × (Int × (List DAnnotated)) × (Unit)) (fun s => [(0, .slice A1 x0.length c2), (1, .int .i64 s.2.1.1), (5, .int .i64 ((s.1 : Nat) : Int))]) (fun s => (iOwn (tSl tyAnnotated 91) [.slice A1 x0.length c2] s.2.1.2 :: is)) (fun s => s.1 ≤ x0.length ∧ rng (R := (Int × (List DAnnotated))) (fun k (s : Int × (List DAnnotated)) => laws_markAnnotatedS_b1 k s.1 s.2) (x0.length - s.1) s.1 s.2.1 = rng (R := (Int × (List DAnnotated))) (fun k (s : Int × (List DAnnotated)) => laws_markAnnotatedS_b1 k s.1 s.2) (x0.length - 0) 0 (x1, x0)) (fun s => x0.length - s.1) (0, (x1, x0), ()) (subL_cons rfl (subL_cons rfl (subL_cons rfl subL_nil))) (fun W hm => hm) ⟨(by omega), rfl⟩ ?_
  rintro ⟨k5, ⟨s6, d7⟩, ⟨⟩⟩ H10
  obtain ⟨hk8, hF9⟩ : k5 ≤ x0.length ∧ rng (R := (Int × (List DAnnotated))) (fun k (s : Int × (List DAnnotated)) => laws_markAnnotatedS_b1 k s.1 s.2) (x0.length - k5) k5 (s6, d7) = rng (R := (Int × (List DAnnotated))) (fun k (s : Int × (List DAnnotated)) => laws_markAnnotatedS_b1 k s.1 s.2) (x0.length - 0) 0 (x1, x0) := H10
  show CM Try.prog 36 _ _ _ _ [(0, .slice A1 x0.length c2), (1, .int .i64 s6), (5, .int .i64 ((k5 : Nat) : Int))] (iOwn (tSl tyAnnotated 91) [.slice A1 x0.length c2] d7 :: is)
  refine CM_seq ?_
  refine sr ?_
  refine wm ?_
  refine wm ?_
  refine wv (fun W hm => rv_len Try.underlying26 rfl) ?_
  refine wv (fun W hm => rv_lss rfl rfl) ?_
  refine nt' ?_
  by_cases hl11 : k5 < x0.length
  · have g12 : (decide (((k5 : Nat) : Int) < ((x0.length : Nat) : Int))) = true := decide_eq_true (by omega)
    refine CM_condT rfl g12 ?_
    refine CM_skip ?_
    refine QM_then ?_
    refine CM_seq ?_
    refine CM_block ?_
    refine sr ?_
    refine wm ?_
    refine wm ?_
    refine wm ?_
    refine WM_formO (n := 0) rfl (by omega) ?_
    rintro g13 rfl
    refine wv (fun W hm => rv_index (sz := 3) (k := k5) Try.underlying26 Try.type91 rfl rfl rfl (by omega)) ?_
    refine wv (fun W hm => rv_field Try.underlying91 rfl Try.type69 (by decide) rfl rfl) ?_
    refine wv (fun W hm => rv_fieldA (o := 0) Try.underlying69 rfl Try.type3 (by decide) rfl rfl) ?_
    refine WM_focus (E := tyAnnotated) (e := 91) (A := (some ⟨g13, 0, none⟩)) (n := x0.length) (c := c2) (xs := d7) (k := k5) (js := (is)) (by omega) (fun W hm => (hm.front (n := 0) rfl)) (fun ck14 => ?_)
    refine WM_split (γ := Value × Value) (js := fun g => [iOwn (tSl tInt 3) [g.1] ((gt d7 k5).Row.Values), iOwn (tSl tInt 3) [g.2] ((gt d7 k5).Set)]) (C := fun g => ck14 = [.int .i64 ((gt d7 k5).Row.Id), g.1, g.2]) (fun _ _ h => tyAnnotated_split h) ?_
    rintro ⟨v15, v16⟩ rfl
    refine WM_form (n := 0) rfl ?_
    rintro A17 c18 rfl m19
    refine WM_form (n := 1) rfl ?_
    rintro A21 c22 rfl m23
    refine WM_storeFoc (E := tyAnnotated) (e := 91) (g := g13) (n := x0.length) (c := c2) (k := k5) (s := 3) (o := 0) (xs := d7) (ck := [.int .i64 ((gt d7 k5).Row.Id), .slice A17 ((gt d7 k5).Row.Values).length c18, .slice A21 ((gt d7 k5).Set).length c22]) (ck' := [.int .i64 s6, .slice A17 ((gt d7 k5).Row.Values).length c18, .slice A21 ((gt d7 k5).Set).length c22]) (js := (iOwn (tSl tInt 3) [.slice A17 ((gt d7 k5).Row.Values).length c18] ((gt d7 k5).Row.Values) :: iOwn (tSl tInt 3) [.slice A21 ((gt d7 k5).Set).length c22] ((gt d7 k5).Set) :: is)) (fun W hm => (hm.front (n := 2) rfl)) rfl rfl Try.type3 rfl (Nat.le_of_ble_eq_true rfl) rfl rfl rfl rfl (Wd_none rfl) ?_
    refine nt' ?_
    refine sr ?_
    refine wm ?_
    refine wv (fun W hm => rv_add rfl rfl) ?_
    refine wa ?_
    refine nt' ?_
    refine sr ?_
    refine wm ?_
    refine wm ?_
    refine wv (fun W hm => rv_index (sz := 3) (k := k5) Try.underlying26 Try.type91 rfl rfl rfl (by omega)) ?_
    refine wv (fun W hm => rv_field Try.underlying91 rfl Try.type69 (by decide) rfl rfl) ?_
    refine wv (fun W hm => rv_fieldA (o := 1) Try.underlying69 rfl Try.type33 (by decide) rfl rfl) ?_
    refine wv (fun W hm => rv_load Try.underlying33 rfl rfl (hm.focCells (i := 0) rfl rfl 1 _ rfl)) ?_
    refine wm ?_
    refine WM_callW (χ := Unit) (val := fun _ => .int .i64 (laws_markIntS_m ((gt d7 k5).Row.Values) (IntKind.i64.wrap (s6 + 1))).1) (js := fun _ => (iOwn (tSl tInt 3) [.slice A17 ((gt d7 k5).Row.Values).length c18] (laws_markIntS_m ((gt d7 k5).Row.Values) (IntKind.i64.wrap (s6 + 1))).2 :: (iFoc tyAnnotated 91 (some ⟨g13, 0, none⟩) x0.length c2 d7 k5 [.int .i64 s6, .slice A17 ((gt d7 k5).Row.Values).length c18, .slice A21 ((gt d7 k5).Set).length c22] :: iOwn (tSl tInt 3) [.slice A21 ((gt d7 k5).Set).length c22] ((gt d7 k5).Set) :: is))) (cl_fn cb24 rfl) (fun W hm => (laws_markIntS_c B w0 (iFoc tyAnnotated 91 (some ⟨g13, 0, none⟩) x0.length c2 d7 k5 [.int .i64 s6, .slice A17 ((gt d7 k5).Row.Values).length c18, .slice A21 ((gt d7 k5).Set).length c22] :: iOwn (tSl tInt 3) [.slice A21 ((gt d7 k5).Set).length c22] ((gt d7 k5).Set) :: is) W (.slice A17 ((gt d7 k5).Row.Values).length c18) ((gt d7 k5).Row.Values) (IntKind.i64.wrap (s6 + 1)) (hm.front (n := 1) rfl)).mono (fun _ _ h => ⟨(), h.1, h.2⟩)) (Wd_none rfl) (by decide) (fun _ => ?_)
    refine wa ?_
    refine nt' ?_
    refine CM_region ?_
    refine wm ?_
    refine wm ?_
    refine wv (fun W hm => rv_index (sz := 3) (k := k5) Try.underlying26 Try.type91 rfl rfl rfl (by omega)) ?_
    refine wv (fun W hm => rv_field Try.underlying91 rfl Try.type33 (by decide) rfl rfl) ?_
    refine wv (fun W hm => rv_load Try.underlying33 rfl rfl (hm.focCells (i := 1) rfl rfl 2 _ rfl)) ?_
    refine wm ?_
    refine WM_callW (χ := Unit) (val := fun _ => .int .i64 (laws_markIntS_m ((gt d7 k5).Set) ((laws_markIntS_m ((gt d7 k5).Row.Values) (IntKind.i64.wrap (s6 + 1))).1)).1) (js := fun _ => (iOwn (tSl tInt 3) [.slice A21 ((gt d7 k5).Set).length c22] (laws_markIntS_m ((gt d7 k5).Set) ((laws_markIntS_m ((gt d7 k5).Row.Values) (IntKind.i64.wrap (s6 + 1))).1)).2 :: (iOwn (tSl tInt 3) [.slice A17 ((gt d7 k5).Row.Values).length c18] ((laws_markIntS_m ((gt d7 k5).Row.Values) (IntKind.i64.wrap (s6 + 1))).2) :: iFoc tyAnnotated 91 (some ⟨g13, 0, none⟩) x0.length c2 d7 k5 [.int .i64 s6, .slice A17 ((gt d7 k5).Row.Values).length c18, .slice A21 ((gt d7 k5).Set).length c22] :: is))) (cl_fn cb24 rfl) (fun W hm => (laws_markIntS_c B w0 (iOwn (tSl tInt 3) [.slice A17 ((gt d7 k5).Row.Values).length c18] ((laws_markIntS_m ((gt d7 k5).Row.Values) (IntKind.i64.wrap (s6 + 1))).2) :: iFoc tyAnnotated 91 (some ⟨g13, 0, none⟩) x0.length c2 d7 k5 [.int .i64 s6, .slice A17 ((gt d7 k5).Row.Values).length c18, .slice A21 ((gt d7 k5).Set).length c22] :: is) W (.slice A21 ((gt d7 k5).Set).length c22) ((gt d7 k5).Set) ((laws_markIntS_m ((gt d7 k5).Row.Values) (IntKind.i64.wrap (s6 + 1))).1) (hm.front (n := 2) rfl)).mono (fun _ _ h => ⟨(), h.1, h.2⟩)) (Wd_none rfl) (by decide) (fun _ => ?_)
    refine wa ?_
    refine WM_nil ?_
    refine QM_block_normal ?_
    refine QM_then ?_
    refine CM_region ?_
    refine wm ?_
    refine wv (fun W hm => rv_addN (p := k5) (q := 1) rfl rfl (by omega)) ?_
    refine wa ?_
    refine WM_nil ?_
    refine QM_items (fun W hm => Mem.unfocus (Mem.join (is := [iOwn (tSl tInt 3) [.slice A17 ((gt d7 k5).Row.Values).length c18] ((laws_markIntS_m ((gt d7 k5).Row.Values) (IntKind.i64.wrap (s6 + 1))).2), iOwn (tSl tInt 3) [.slice A21 ((gt d7 k5).Set).length c22] ((laws_markIntS_m ((gt d7 k5).Set) ((laws_markIntS_m ((gt d7 k5).Row.Values) (IntKind.i64.wrap (s6 + 1))).1)).2)]) (js := (iFoc tyAnnotated 91 (some ⟨g13, 0, none⟩) x0.length c2 d7 k5 [.int .i64 s6, .slice A17 ((gt d7 k5).Row.Values).length c18, .slice A21 ((gt d7 k5).Set).length c22] :: (is))) (fun _ _ hs => tyAnnotated_join (x := (⟨(⟨s6, (laws_markIntS_m ((gt d7 k5).Row.Values) (IntKind.i64.wrap (s6 + 1))).2⟩ : DRow), (laws_markIntS_m ((gt d7 k5).Set) ((laws_markIntS_m ((gt d7 k5).Row.Values) (IntKind.i64.wrap (s6 + 1))).1)).2⟩ : DAnnotated)) hs) (((hm.front (n := 2) rfl).front (n := 1) rfl).front (n := 2) rfl))) ?_
    have hn25 := rng_next (R := (Int × (List DAnnotated))) (body := (fun k (s : Int × (List DAnnotated)) => laws_markAnnotatedS_b1 k s.1 s.2)) (k := k5) (s := (s6, d7)) (s' := ((laws_markIntS_m ((gt d7 k5).Set) ((laws_markIntS_m ((gt d7 k5).Row.Values) (IntKind.i64.wrap (s6 + 1))).1)).1, (d7.set k5 (⟨(⟨s6, (laws_markIntS_m ((gt d7 k5).Row.Values) (IntKind.i64.wrap (s6 + 1))).2⟩ : DRow), (laws_markIntS_m ((gt d7 k5).Set) ((laws_markIntS_m ((gt d7 k5).Row.Values) (IntKind.i64.wrap (s6 + 1))).1)).2⟩ : DAnnotated)))) (show k5 < x0.length from by omega) (show laws_markAnnotatedS_b1 k5 s6 d7 = Sum.inr ((laws_markIntS_m ((gt d7 k5).Set) ((laws_markIntS_m ((gt d7 k5).Row.Values) (IntKind.i64.wrap (s6 + 1))).1)).1, (d7.set k5 (⟨(⟨s6, (laws_markIntS_m ((gt d7 k5).Row.Values) (IntKind.i64.wrap (s6 + 1))).2⟩ : DRow), (laws_markIntS_m ((gt d7 k5).Set) ((laws_markIntS_m ((gt d7 k5).Row.Values) (IntKind.i64.wrap (s6 + 1))).1)).2⟩ : DAnnotated))) from by unfold laws_markAnnotatedS_b1; exact rfl) hF9
    exact QM_round (k5 + 1, ((laws_markIntS_m ((gt d7 k5).Set) ((laws_markIntS_m ((gt d7 k5).Row.Values) (IntKind.i64.wrap (s6 + 1))).1)).1, (d7.set k5 (⟨(⟨s6, (laws_markIntS_m ((gt d7 k5).Row.Values) (IntKind.i64.wrap (s6 + 1))).2⟩ : DRow), (laws_markIntS_m ((gt d7 k5).Set) ((laws_markIntS_m ((gt d7 k5).Row.Values) (IntKind.i64.wrap (s6 + 1))).1)).2⟩ : DAnnotated))), ()) (subL_cons rfl (subL_cons rfl (subL_cons rfl subL_nil))) (fun W hm => hm) ⟨(by omega), hn25⟩ (show x0.length - (k5 + 1) < x0.length - k5 from by omega)
  · have g12 : (decide (((k5 : Nat) : Int) < ((x0.length : Nat) : Int))) = false := decide_eq_false (by omega)
    refine CM_condF rfl g12 ?_
    refine CM_exit ?_
    refine QM_then_exit ?_
    refine QM_then_exit ?_
    have hE26 : rng (R := (Int × (List DAnnotated))) (fun k (s : Int × (List DAnnotated)) => laws_markAnnotatedS_b1 k s.1 s.2) (x0.length - 0) 0 (x1, x0) = Sum.inr (s6, d7) := rng_end hl11 hF9
    refine QM_block_hit ?_
    refine QM_then ?_
    refine sr ?_
    refine wm ?_
    refine wa ?_
    refine nt' ?_
    refine CM_ret ?_
    refine QM_rW rfl rfl (fun W hm => ⟨?_, ?_⟩)
    · rw [(show laws_markAnnotatedS_m x0 x1 = (s6, d7) from by unfold laws_markAnnotatedS_m; exact fin_inr hE26 (rfl))]
    · rw [(show laws_markAnnotatedS_m x0 x1 = (s6, d7) from by unfold laws_markAnnotatedS_m; exact fin_inr hE26 (rfl))]; exact hm

def laws_heldIntS_b1 (x0 : (List Int)) (k6 : Nat) (s7 : Int) : Int ⊕ (Int) :=
  cond ((gt x0 k6) != s7) (Sum.inl (-1)) (Sum.inr (IntKind.i64.wrap (s7 + 1)))
def laws_heldIntS_m (x0 : (List Int)) (x1 : Int) : Int :=
  Sum.elim id (fun (s : Int) => s) (rng (R := Int) (fun k (s : Int) => laws_heldIntS_b1 x0 k s) (x0.length - 0) 0 x1)
theorem cb64 : Cb Try.prog 64 := ⟨Try.f64, _, Try.func64, rfl, by decide⟩
set_option maxRecDepth 10000 in
set_option maxHeartbeats 4000000 in
theorem laws_heldIntS_c (w : World) (z0 : Value) (x0 : (List Int)) (x1 : Int) (r_0 : rdS tInt w w.heap.size z0 x0) :
    Calls Try.prog 64 #[z0, .int .i64 x1] w fun e w' => e = .returned (.int .i64 (laws_heldIntS_m x0 x1)) ∧ Below w.heap.size w w' := by
  have r5 := r_0
  obtain ⟨m1, A2, c3, rfl, q4⟩ := r_0
  refine call_enterM (L := [(0, .slice A2 x0.length c3), (1, .int .i64 x1)]) (N := 21) Try.func64 rfl rfl (Nat.le_of_ble_eq_true rfl) (argsL_cons rfl (argsL_cons rfl argsL_nil)) ?_
  refine sr ?_
  refine wa ?_
  refine nt' ?_
  refine CM_seq ?_
  refine sr ?_
  refine wa ?_
  refine nt' ?_
  refine CM_block ?_
  refine CM_loop (σ := Nat × (Int) × (Unit)) (fun s => [(0, .slice A2 x0.length c3), (1, .int .i64 s.2.1), (5, .int .i64 ((s.1 : Nat) : Int))]) (fun s => []) (fun s => s.1 ≤ x0.length ∧ rng (R := Int) (fun k (s : Int) => laws_heldIntS_b1 x0 k s) (x0.length - s.1) s.1 s.2.1 = rng (R := Int) (fun k (s : Int) => laws_heldIntS_b1 x0 k s) (x0.length - 0) 0 x1) (fun s => x0.length - s.1) (0, x1, ()) (subL_cons rfl (subL_cons rfl (subL_cons rfl subL_nil))) (fun W hm => hm) ⟨(by omega), rfl⟩ ?_
  rintro ⟨k6, s7, ⟨⟩⟩ H10
  obtain ⟨hk8, hF9⟩ : k6 ≤ x0.length ∧ rng (R := Int) (fun k (s : Int) => laws_heldIntS_b1 x0 k s) (x0.length - k6) k6 s7 = rng (R := Int) (fun k (s : Int) => laws_heldIntS_b1 x0 k s) (x0.length - 0) 0 x1 := H10
  show CM Try.prog 21 _ _ _ _ [(0, .slice A2 x0.length c3), (1, .int .i64 s7), (5, .int .i64 ((k6 : Nat) : Int))] []
  refine CM_seq ?_
  refine sr ?_
  refine wm ?_
  refine wm ?_
  refine wv (fun W hm => rv_len Try.underlying33 rfl) ?_
  refine wv (fun W hm => rv_lss rfl rfl) ?_
  refine nt' ?_
  by_cases hl11 : k6 < x0.length
  · have g12 : (decide (((k6 : Nat) : Int) < ((x0.length : Nat) : Int))) = true := decide_eq_true (by omega)
    refine CM_condT rfl g12 ?_
    refine CM_skip ?_
    refine QM_then ?_
    refine CM_seq ?_
    refine CM_block ?_
    refine CM_seq ?_
    refine sr ?_
    refine wm ?_
    refine wm ?_
    obtain ⟨a13, rfl, hb14, he15⟩ := q4 (by omega)
    refine wv (fun W hm => rv_index (sz := 1) (k := k6) Try.underlying33 Try.type3 rfl rfl rfl (by omega)) ?_
    refine wv (fun W hm => rv_load Try.underlying3 rfl rfl ((hm.cell0 (show (a13.add (k6 * 1)).block < w.heap.size from by rw [add_block]; exact hb14.1)).trans (rdS_int he15 k6 (by omega)))) ?_
    refine wm ?_
    refine wv (fun W hm => rv_neq rfl rfl) ?_
    refine nt' ?_
    by_cases h16 : (gt x0 k6) = s7
    · have g17 : ((gt x0 k6) != s7) = false := by rw [h16]; exact bne_self_eq_false _
      refine CM_condF rfl g17 ?_
      refine CM_skip ?_
      refine QM_then ?_
      refine CM_region ?_
      refine wm ?_
      refine wv (fun W hm => rv_add rfl rfl) ?_
      refine wa ?_
      refine WM_nil ?_
      refine QM_block_normal ?_
      refine QM_then ?_
      refine CM_region ?_
      refine wm ?_
      refine wv (fun W hm => rv_addN (p := k6) (q := 1) rfl rfl (by omega)) ?_
      refine wa ?_
      refine WM_nil ?_
      have hn18 := rng_next (R := Int) (body := (fun k (s : Int) => laws_heldIntS_b1 x0 k s)) (k := k6) (s := s7) (s' := (IntKind.i64.wrap (s7 + 1))) (show k6 < x0.length from by omega) (show laws_heldIntS_b1 x0 k6 s7 = Sum.inr (IntKind.i64.wrap (s7 + 1)) from by unfold laws_heldIntS_b1; exact cond_f g17 (rfl)) hF9
      exact QM_round (k6 + 1, (IntKind.i64.wrap (s7 + 1)), ()) (subL_cons rfl (subL_cons rfl (subL_cons rfl subL_nil))) (fun W hm => hm) ⟨(by omega), hn18⟩ (show x0.length - (k6 + 1) < x0.length - k6 from by omega)
    · have g17 : ((gt x0 k6) != s7) = true := bne_iff_ne.2 h16
      refine CM_condT rfl g17 ?_
      refine sr ?_
      refine wa ?_
      refine nt' ?_
      refine CM_ret ?_
      refine QM_then_ret ?_
      refine QM_block_ret ?_
      refine QM_then_ret ?_
      refine QM_then_ret ?_
      refine QM_block_ret ?_
      refine QM_then_ret ?_
      exact QM_ret1 rfl rfl (fun W hm => ⟨ret_i (show laws_heldIntS_m x0 x1 = (-1) from by unfold laws_heldIntS_m; exact fin_inl (rng_ret (body := (fun k (s : Int) => laws_heldIntS_b1 x0 k s)) (k := k6) (s := s7) (show k6 < x0.length from by omega) (show laws_heldIntS_b1 x0 k6 s7 = Sum.inl (-1) from by unfold laws_heldIntS_b1; exact cond_t g17 (rfl)) hF9) rfl), hm.below⟩)
  · have g12 : (decide (((k6 : Nat) : Int) < ((x0.length : Nat) : Int))) = false := decide_eq_false (by omega)
    refine CM_condF rfl g12 ?_
    refine CM_exit ?_
    refine QM_then_exit ?_
    refine QM_then_exit ?_
    have hE19 : rng (R := Int) (fun k (s : Int) => laws_heldIntS_b1 x0 k s) (x0.length - 0) 0 x1 = Sum.inr s7 := rng_end hl11 hF9
    refine QM_block_hit ?_
    refine QM_then ?_
    refine sr ?_
    refine wm ?_
    refine wa ?_
    refine nt' ?_
    refine CM_ret ?_
    exact QM_ret1 rfl rfl (fun W hm => ⟨ret_i (show laws_heldIntS_m x0 x1 = s7 from by unfold laws_heldIntS_m; exact fin_inr hE19 (rfl)), hm.below⟩)

def laws_heldAnnotatedS_b1 (x0 : (List DAnnotated)) (k6 : Nat) (s7 : Int) : Int ⊕ (Int) :=
  cond (((gt x0 k6).Row.Id) != s7) (Sum.inl (-1)) (cond (decide ((laws_heldIntS_m ((gt x0 k6).Row.Values) (IntKind.i64.wrap (s7 + 1))) < 0)) (Sum.inl (-1)) (cond (decide ((laws_heldIntS_m ((gt x0 k6).Set) (laws_heldIntS_m ((gt x0 k6).Row.Values) (IntKind.i64.wrap (s7 + 1)))) < 0)) (Sum.inl (-1)) (Sum.inr (laws_heldIntS_m ((gt x0 k6).Set) (laws_heldIntS_m ((gt x0 k6).Row.Values) (IntKind.i64.wrap (s7 + 1)))))))
def laws_heldAnnotatedS_m (x0 : (List DAnnotated)) (x1 : Int) : Int :=
  Sum.elim id (fun (s : Int) => s) (rng (R := Int) (fun k (s : Int) => laws_heldAnnotatedS_b1 x0 k s) (x0.length - 0) 0 x1)
theorem cb25 : Cb Try.prog 25 := ⟨Try.f25, _, Try.func25, rfl, by decide⟩
set_option maxRecDepth 10000 in
set_option maxHeartbeats 4000000 in
theorem laws_heldAnnotatedS_c (w : World) (z0 : Value) (x0 : (List DAnnotated)) (x1 : Int) (r_0 : rdS tyAnnotated w w.heap.size z0 x0) :
    Calls Try.prog 25 #[z0, .int .i64 x1] w fun e w' => e = .returned (.int .i64 (laws_heldAnnotatedS_m x0 x1)) ∧ Below w.heap.size w w' := by
  have r5 := r_0
  obtain ⟨m1, A2, c3, rfl, q4⟩ := r_0
  refine call_enterM (L := [(0, .slice A2 x0.length c3), (1, .int .i64 x1)]) (N := 42) Try.func25 rfl rfl (Nat.le_of_ble_eq_true rfl) (argsL_cons rfl (argsL_cons rfl argsL_nil)) ?_
  refine sr ?_
  refine wa ?_
  refine nt' ?_
  refine CM_seq ?_
  refine sr ?_
  refine wa ?_
  refine nt' ?_
  refine CM_block ?_
  refine CM_loop (σ := Nat × (Int) × (Unit)) (fun s => [(0, .slice A2 x0.length c3), (1, .int .i64 s.2.1), (5, .int .i64 ((s.1 : Nat) : Int))]) (fun s => []) (fun s => s.1 ≤ x0.length ∧ rng (R := Int) (fun k (s : Int) => laws_heldAnnotatedS_b1 x0 k s) (x0.length - s.1) s.1 s.2.1 = rng (R := Int) (fun k (s : Int) => laws_heldAnnotatedS_b1 x0 k s) (x0.length - 0) 0 x1) (fun s => x0.length - s.1) (0, x1, ()) (subL_cons rfl (subL_cons rfl (subL_cons rfl subL_nil))) (fun W hm => hm) ⟨(by omega), rfl⟩ ?_
  rintro ⟨k6, s7, ⟨⟩⟩ H10
  obtain ⟨hk8, hF9⟩ : k6 ≤ x0.length ∧ rng (R := Int) (fun k (s : Int) => laws_heldAnnotatedS_b1 x0 k s) (x0.length - k6) k6 s7 = rng (R := Int) (fun k (s : Int) => laws_heldAnnotatedS_b1 x0 k s) (x0.length - 0) 0 x1 := H10
  show CM Try.prog 42 _ _ _ _ [(0, .slice A2 x0.length c3), (1, .int .i64 s7), (5, .int .i64 ((k6 : Nat) : Int))] []
  refine CM_seq ?_
  refine sr ?_
  refine wm ?_
  refine wm ?_
  refine wv (fun W hm => rv_len Try.underlying26 rfl) ?_
  refine wv (fun W hm => rv_lss rfl rfl) ?_
  refine nt' ?_
  by_cases hl11 : k6 < x0.length
  · have g12 : (decide (((k6 : Nat) : Int) < ((x0.length : Nat) : Int))) = true := decide_eq_true (by omega)
    refine CM_condT rfl g12 ?_
    refine CM_skip ?_
    refine QM_then ?_
    refine CM_seq ?_
    refine CM_block ?_
    refine CM_seq ?_
    refine sr ?_
    refine wm ?_
    refine wm ?_
    obtain ⟨a13, rfl, hb14, he15⟩ := q4 (by omega)
    refine wv (fun W hm => rv_index (sz := 3) (k := k6) Try.underlying26 Try.type91 rfl rfl rfl (by omega)) ?_
    refine wv (fun W hm => rv_field Try.underlying91 rfl Try.type69 (by decide) rfl rfl) ?_
    refine wv (fun W hm => rv_fieldA (o := 0) Try.underlying69 rfl Try.type3 (by decide) rfl rfl) ?_
    obtain ⟨_, e21, hc16⟩ := he15 k6 _ (gt_some (show k6 < x0.length from by omega))
    obtain ⟨v17, v19, rfl, r18, r20⟩ := tyAnnotated_rd e21
    have r26 := r18
    obtain ⟨m22, A23, c24, rfl, q25⟩ := r18
    have r31 := r20
    obtain ⟨m27, A28, c29, rfl, q30⟩ := r20
    refine wv (fun W hm => rv_load Try.underlying3 rfl rfl ((hm.cell0 (show ((a13.add (k6 * 3)).add 0).block < w.heap.size from by rw [add_block, add_block]; exact hb14.1)).trans (hc16 0 _ rfl))) ?_
    refine wm ?_
    refine wv (fun W hm => rv_neq rfl rfl) ?_
    refine nt' ?_
    by_cases h32 : ((gt x0 k6).Row.Id) = s7
    · have g33 : (((gt x0 k6).Row.Id) != s7) = false := by rw [h32]; exact bne_self_eq_false _
      refine CM_condF rfl g33 ?_
      refine CM_skip ?_
      refine QM_then ?_
      refine sr ?_
      refine wm ?_
      refine wv (fun W hm => rv_add rfl rfl) ?_
      refine wa ?_
      refine nt' ?_
      refine sr ?_
      refine wm ?_
      refine wm ?_
      refine wv (fun W hm => rv_index (sz := 3) (k := k6) Try.underlying26 Try.type91 rfl rfl rfl (by omega)) ?_
      refine wv (fun W hm => rv_field Try.underlying91 rfl Try.type69 (by decide) rfl rfl) ?_
      refine wv (fun W hm => rv_fieldA (o := 1) Try.underlying69 rfl Try.type33 (by decide) rfl rfl) ?_
      refine wv (fun W hm => rv_load Try.underlying33 rfl rfl ((hm.cell0 (show ((a13.add (k6 * 3)).add 1).block < w.heap.size from by rw [add_block, add_block]; exact hb14.1)).trans (hc16 1 _ rfl))) ?_
      refine wm ?_
      refine WM_callV (cl_fn cb64 rfl) (fun W hm => laws_heldIntS_c W _ ((gt x0 k6).Row.Values) (IntKind.i64.wrap (s7 + 1)) (hm.rdS0 r26)) (Wd_none rfl) (by decide) ?_
      refine wa ?_
      refine nt' ?_
      refine CM_seq ?_
      refine sr ?_
      refine wm ?_
      refine wv (fun W hm => rv_lss rfl rfl) ?_
      refine nt' ?_
      by_cases h34 : (laws_heldIntS_m ((gt x0 k6).Row.Values) (IntKind.i64.wrap (s7 + 1))) < 0
      · have g35 : (decide ((laws_heldIntS_m ((gt x0 k6).Row.Values) (IntKind.i64.wrap (s7 + 1))) < 0)) = true := decide_eq_true h34
        refine CM_condT rfl g35 ?_
        refine sr ?_
        refine wa ?_
        refine nt' ?_
        refine CM_ret ?_
        refine QM_then_ret ?_
        refine QM_block_ret ?_
        refine QM_then_ret ?_
        refine QM_then_ret ?_
        refine QM_block_ret ?_
        refine QM_then_ret ?_
        exact QM_ret1 rfl rfl (fun W hm => ⟨ret_i (show laws_heldAnnotatedS_m x0 x1 = (-1) from by unfold laws_heldAnnotatedS_m; exact fin_inl (rng_ret (body := (fun k (s : Int) => laws_heldAnnotatedS_b1 x0 k s)) (k := k6) (s := s7) (show k6 < x0.length from by omega) (show laws_heldAnnotatedS_b1 x0 k6 s7 = Sum.inl (-1) from by unfold laws_heldAnnotatedS_b1; exact cond_f g33 (cond_t g35 (rfl))) hF9) rfl), hm.below⟩)
      · have g35 : (decide ((laws_heldIntS_m ((gt x0 k6).Row.Values) (IntKind.i64.wrap (s7 + 1))) < 0)) = false := decide_eq_false h34
        refine CM_condF rfl g35 ?_
        refine CM_skip ?_
        refine QM_then ?_
        refine sr ?_
        refine wm ?_
        refine wm ?_
        refine wv (fun W hm => rv_index (sz := 3) (k := k6) Try.underlying26 Try.type91 rfl rfl rfl (by omega)) ?_
        refine wv (fun W hm => rv_field Try.underlying91 rfl Try.type33 (by decide) rfl rfl) ?_
        refine wv (fun W hm => rv_load Try.underlying33 rfl rfl ((hm.cell0 (show ((a13.add (k6 * 3)).add 2).block < w.heap.size from by rw [add_block, add_block]; exact hb14.1)).trans (hc16 2 _ rfl))) ?_
        refine wm ?_
        refine WM_callV (cl_fn cb64 rfl) (fun W hm => laws_heldIntS_c W _ ((gt x0 k6).Set) (laws_heldIntS_m ((gt x0 k6).Row.Values) (IntKind.i64.wrap (s7 + 1))) (hm.rdS0 r31)) (Wd_none rfl) (by decide) ?_
        refine wa ?_
        refine nt' ?_
        refine sr ?_
        refine wm ?_
        refine wv (fun W hm => rv_lss rfl rfl) ?_
        refine nt' ?_
        by_cases h36 : (laws_heldIntS_m ((gt x0 k6).Set) (laws_heldIntS_m ((gt x0 k6).Row.Values) (IntKind.i64.wrap (s7 + 1)))) < 0
        · have g37 : (decide ((laws_heldIntS_m ((gt x0 k6).Set) (laws_heldIntS_m ((gt x0 k6).Row.Values) (IntKind.i64.wrap (s7 + 1)))) < 0)) = true := decide_eq_true h36
          refine CM_condT rfl g37 ?_
          refine sr ?_
          refine wa ?_
          refine nt' ?_
          refine CM_ret ?_
          refine QM_block_ret ?_
          refine QM_then_ret ?_
          refine QM_then_ret ?_
          refine QM_block_ret ?_
          refine QM_then_ret ?_
          exact QM_ret1 rfl rfl (fun W hm => ⟨ret_i (show laws_heldAnnotatedS_m x0 x1 = (-1) from by unfold laws_heldAnnotatedS_m; exact fin_inl (rng_ret (body := (fun k (s : Int) => laws_heldAnnotatedS_b1 x0 k s)) (k := k6) (s := s7) (show k6 < x0.length from by omega) (show laws_heldAnnotatedS_b1 x0 k6 s7 = Sum.inl (-1) from by unfold laws_heldAnnotatedS_b1; exact cond_f g33 (cond_f g35 (cond_t g37 (rfl)))) hF9) rfl), hm.below⟩)
        · have g37 : (decide ((laws_heldIntS_m ((gt x0 k6).Set) (laws_heldIntS_m ((gt x0 k6).Row.Values) (IntKind.i64.wrap (s7 + 1)))) < 0)) = false := decide_eq_false h36
          refine CM_condF rfl g37 ?_
          refine CM_skip ?_
          refine QM_block_normal ?_
          refine QM_then ?_
          refine CM_region ?_
          refine wm ?_
          refine wv (fun W hm => rv_addN (p := k6) (q := 1) rfl rfl (by omega)) ?_
          refine wa ?_
          refine WM_nil ?_
          have hn38 := rng_next (R := Int) (body := (fun k (s : Int) => laws_heldAnnotatedS_b1 x0 k s)) (k := k6) (s := s7) (s' := (laws_heldIntS_m ((gt x0 k6).Set) (laws_heldIntS_m ((gt x0 k6).Row.Values) (IntKind.i64.wrap (s7 + 1))))) (show k6 < x0.length from by omega) (show laws_heldAnnotatedS_b1 x0 k6 s7 = Sum.inr (laws_heldIntS_m ((gt x0 k6).Set) (laws_heldIntS_m ((gt x0 k6).Row.Values) (IntKind.i64.wrap (s7 + 1)))) from by unfold laws_heldAnnotatedS_b1; exact cond_f g33 (cond_f g35 (cond_f g37 (rfl)))) hF9
          exact QM_round (k6 + 1, (laws_heldIntS_m ((gt x0 k6).Set) (laws_heldIntS_m ((gt x0 k6).Row.Values) (IntKind.i64.wrap (s7 + 1)))), ()) (subL_cons rfl (subL_cons rfl (subL_cons rfl subL_nil))) (fun W hm => hm) ⟨(by omega), hn38⟩ (show x0.length - (k6 + 1) < x0.length - k6 from by omega)
    · have g33 : (((gt x0 k6).Row.Id) != s7) = true := bne_iff_ne.2 h32
      refine CM_condT rfl g33 ?_
      refine sr ?_
      refine wa ?_
      refine nt' ?_
      refine CM_ret ?_
      refine QM_then_ret ?_
      refine QM_block_ret ?_
      refine QM_then_ret ?_
      refine QM_then_ret ?_
      refine QM_block_ret ?_
      refine QM_then_ret ?_
      exact QM_ret1 rfl rfl (fun W hm => ⟨ret_i (show laws_heldAnnotatedS_m x0 x1 = (-1) from by unfold laws_heldAnnotatedS_m; exact fin_inl (rng_ret (body := (fun k (s : Int) => laws_heldAnnotatedS_b1 x0 k s)) (k := k6) (s := s7) (show k6 < x0.length from by omega) (show laws_heldAnnotatedS_b1 x0 k6 s7 = Sum.inl (-1) from by unfold laws_heldAnnotatedS_b1; exact cond_t g33 (rfl)) hF9) rfl), hm.below⟩)
  · have g12 : (decide (((k6 : Nat) : Int) < ((x0.length : Nat) : Int))) = false := decide_eq_false (by omega)
    refine CM_condF rfl g12 ?_
    refine CM_exit ?_
    refine QM_then_exit ?_
    refine QM_then_exit ?_
    have hE39 : rng (R := Int) (fun k (s : Int) => laws_heldAnnotatedS_b1 x0 k s) (x0.length - 0) 0 x1 = Sum.inr s7 := rng_end hl11 hF9
    refine QM_block_hit ?_
    refine QM_then ?_
    refine sr ?_
    refine wm ?_
    refine wa ?_
    refine nt' ?_
    refine CM_ret ?_
    exact QM_ret1 rfl rfl (fun W hm => ⟨ret_i (show laws_heldAnnotatedS_m x0 x1 = s7 from by unfold laws_heldAnnotatedS_m; exact fin_inr hE39 (rfl)), hm.below⟩)

end Go.Proofs.Ytjcdginailhfmaa
