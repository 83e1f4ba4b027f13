/-
  Contracts of functions, printed by a program of ours.
-/
import Derived.Test.YtjcdginailhfmaaDat
namespace Go.Proofs.Ytjcdginailhfmaa
open Go.RowKit
def laws_szIntS_m (x0 : (List Int)) (x1 : Int) : Int :=
  cond (decide ((IntKind.i64.wrap (x1 - ((x0.length : Nat) : Int))) < 0)) (-1) (IntKind.i64.wrap (x1 - ((x0.length : Nat) : Int)))
set_option maxRecDepth 100000 in
theorem cb102 : Cb Try.prog 102 := ⟨Try.f102, _, Try.func102, rfl, by decide⟩
set_option maxRecDepth 10000 in
set_option maxHeartbeats 4000000 in
theorem laws_szIntS_c (w : World) (z0 : Value) (x0 : (List Int)) (x1 : Int) (r_0 : rdS tInt w w.heap.size z0 x0) :
    Calls Try.prog 102 #[z0, .int .i64 x1] w fun e w' => e = .returned (.int .i64 (laws_szIntS_m x0 x1)) ∧ Below w.heap.size w w' := by
  have r5 := r_0
  obtain ⟨m1, A2, c3, rfl, q4⟩ := r_0
  refine call_enterM (L := [(0, .slice A2 x0.length c3), (1, .int .i64 x1)]) (N := 12) Try.func102 rfl rfl (Nat.le_of_ble_eq_true rfl) (argsL_cons rfl (argsL_cons rfl argsL_nil)) ?_
  refine sr ?_
  refine wa ?_
  refine nt' ?_
  refine sr ?_
  refine wm ?_
  refine wm ?_
  refine wv (fun W hm => rv_len Try.underlying33 rfl) ?_
  refine wv (fun W hm => rv_sub rfl rfl) ?_
  refine wa ?_
  refine nt' ?_
  refine CM_seq ?_
  refine sr ?_
  refine wm ?_
  refine wv (fun W hm => rv_lss rfl rfl) ?_
  refine nt' ?_
  by_cases h6 : (IntKind.i64.wrap (x1 - ((x0.length : Nat) : Int))) < 0
  · have g7 : (decide ((IntKind.i64.wrap (x1 - ((x0.length : Nat) : Int))) < 0)) = true := decide_eq_true h6
    refine CM_condT rfl g7 ?_
    refine sr ?_
    refine wa ?_
    refine nt' ?_
    refine CM_ret ?_
    refine QM_then_ret ?_
    exact QM_ret1 rfl rfl (fun W hm => ⟨ret_i (show laws_szIntS_m x0 x1 = (-1) from by unfold laws_szIntS_m; exact cond_t g7 (rfl)), hm.below⟩)
  · have g7 : (decide ((IntKind.i64.wrap (x1 - ((x0.length : Nat) : Int))) < 0)) = false := decide_eq_false h6
    refine CM_condF rfl g7 ?_
    refine CM_skip ?_
    refine QM_then ?_
    refine sr ?_
    refine wm ?_
    refine wa ?_
    refine nt' ?_
    refine CM_ret ?_
    exact QM_ret1 rfl rfl (fun W hm => ⟨ret_i (show laws_szIntS_m x0 x1 = (IntKind.i64.wrap (x1 - ((x0.length : Nat) : Int))) from by unfold laws_szIntS_m; exact cond_f g7 (rfl)), hm.below⟩)

def laws_szVersion_m (x0 : DVersion) (x1 : Int) : Int :=
  cond (decide ((laws_szIntS_m x0.Values x1) < 0)) (-1) (laws_szIntS_m x0.Values x1)
set_option maxRecDepth 100000 in
theorem cb128 : Cb Try.prog 128 := ⟨Try.f128, _, Try.func128, rfl, by decide⟩
set_option maxRecDepth 10000 in
set_option maxHeartbeats 4000000 in
theorem laws_szVersion_c (w : World) (z0 : List Value) (x0 : DVersion) (x1 : Int) (r_0 : tyLVersion.rd w w.heap.size z0 x0) :
    Calls Try.prog 128 #[.agg z0.toArray, .int .i64 x1] w fun e w' => e = .returned (.int .i64 (laws_szVersion_m x0 x1)) ∧ Below w.heap.size w w' := by
  obtain ⟨v1, rfl, r2⟩ := tyLVersion_rd r_0
  have r7 := r2
  obtain ⟨m3, A4, c5, rfl, q6⟩ := r2
  refine call_enterM (L := [(0, .agg #[.int .i64 x0.Id, .slice A4 x0.Values.length c5, .int .i64 x0.Born, .int .i64 x0.Died]), (1, .int .i64 x1)]) (N := 12) Try.func128 rfl rfl (Nat.le_of_ble_eq_true rfl) (argsL_cons rfl (argsL_cons rfl argsL_nil)) ?_
  refine sr ?_
  refine WM_box rfl (Wd_none rfl) (by decide) (fun p8 => ?_)
  refine wa ?_
  refine nt' ?_
  refine sr ?_
  refine wv (fun W hm => rv_field Try.underlying146 rfl Try.type33 (by decide) rfl rfl) ?_
  refine wv (fun W hm => rv_load Try.underlying33 rfl rfl (hm.boxCell (n := 0) (o := 1) rfl rfl)) ?_
  refine wm ?_
  refine WM_callV (cl_fn cb102 rfl) (fun W hm => laws_szIntS_c W _ x0.Values x1 (hm.rdS0 r7)) (Wd_none rfl) (by decide) ?_
  refine wa ?_
  refine nt' ?_
  refine CM_seq ?_
  refine sr ?_
  refine wm ?_
  refine wv (fun W hm => rv_lss rfl rfl) ?_
  refine nt' ?_
  by_cases h9 : (laws_szIntS_m x0.Values x1) < 0
  · have g10 : (decide ((laws_szIntS_m x0.Values x1) < 0)) = true := decide_eq_true h9
    refine CM_condT rfl g10 ?_
    refine sr ?_
    refine wa ?_
    refine nt' ?_
    refine CM_ret ?_
    refine QM_then_ret ?_
    exact QM_ret1 rfl rfl (fun W hm => ⟨ret_i (show laws_szVersion_m x0 x1 = (-1) from by unfold laws_szVersion_m; exact cond_t g10 (rfl)), hm.below⟩)
  · have g10 : (decide ((laws_szIntS_m x0.Values x1) < 0)) = false := decide_eq_false h9
    refine CM_condF rfl g10 ?_
    refine CM_skip ?_
    refine QM_then ?_
    refine sr ?_
    refine wm ?_
    refine wa ?_
    refine nt' ?_
    refine CM_ret ?_
    exact QM_ret1 rfl rfl (fun W hm => ⟨ret_i (show laws_szVersion_m x0 x1 = (laws_szIntS_m x0.Values x1) from by unfold laws_szVersion_m; exact cond_f g10 (rfl)), hm.below⟩)

def laws_szVersionS_b1 (x0 : (List DVersion)) (k8 : Nat) (s9 : Int) : Int ⊕ (Int) :=
  cond (decide ((laws_szVersion_m (gt x0 k8) s9) < 0)) (Sum.inl (-1)) (Sum.inr (laws_szVersion_m (gt x0 k8) s9))
def laws_szVersionS_m (x0 : (List DVersion)) (x1 : Int) : Int :=
  cond (decide ((IntKind.i64.wrap (x1 - ((x0.length : Nat) : Int))) < 0)) (-1) (Sum.elim id (fun (s : Int) => s) (rng (R := Int) (fun k (s : Int) => laws_szVersionS_b1 x0 k s) (x0.length - 0) 0 (IntKind.i64.wrap (x1 - ((x0.length : Nat) : Int)))))
set_option maxRecDepth 100000 in
theorem cb108 : Cb Try.prog 108 := ⟨Try.f108, _, Try.func108, rfl, by decide⟩
set_option maxRecDepth 10000 in
set_option maxHeartbeats 4000000 in
theorem laws_szVersionS_c (w : World) (z0 : Value) (x0 : (List DVersion)) (x1 : Int) (r_0 : rdS tyLVersion w w.heap.size z0 x0) :
    Calls Try.prog 108 #[z0, .int .i64 x1] w fun e w' => e = .returned (.int .i64 (laws_szVersionS_m x0 x1)) ∧ Below w.heap.size w w' := by
  have r5 := r_0
  obtain ⟨m1, A2, c3, rfl, q4⟩ := r_0
  refine call_enterM (L := [(0, .slice A2 x0.length c3), (1, .int .i64 x1)]) (N := 27) Try.func108 rfl rfl (Nat.le_of_ble_eq_true rfl) (argsL_cons rfl (argsL_cons rfl argsL_nil)) ?_
  refine sr ?_
  refine wa ?_
  refine nt' ?_
  refine sr ?_
  refine wm ?_
  refine wm ?_
  refine wv (fun W hm => rv_len Try.underlying132 rfl) ?_
  refine wv (fun W hm => rv_sub rfl rfl) ?_
  refine wa ?_
  refine nt' ?_
  refine CM_seq ?_
  refine sr ?_
  refine wm ?_
  refine wv (fun W hm => rv_lss rfl rfl) ?_
  refine nt' ?_
  by_cases h6 : (IntKind.i64.wrap (x1 - ((x0.length : Nat) : Int))) < 0
  · have g7 : (decide ((IntKind.i64.wrap (x1 - ((x0.length : Nat) : Int))) < 0)) = true := decide_eq_true h6
    refine CM_condT rfl g7 ?_
    refine sr ?_
    refine wa ?_
    refine nt' ?_
    refine CM_ret ?_
    refine QM_then_ret ?_
    exact QM_ret1 rfl rfl (fun W hm => ⟨ret_i (show laws_szVersionS_m x0 x1 = (-1) from by unfold laws_szVersionS_m; exact cond_t g7 (rfl)), hm.below⟩)
  · have g7 : (decide ((IntKind.i64.wrap (x1 - ((x0.length : Nat) : Int))) < 0)) = false := decide_eq_false h6
    refine CM_condF rfl g7 ?_
    refine CM_skip ?_
    refine QM_then ?_
    refine CM_seq ?_
    refine sr ?_
    refine wa ?_
    refine nt' ?_
    refine CM_block ?_
    refine CM_loop (σ := Nat × (Int) × (Unit)) (fun s => [(0, .slice A2 x0.length c3), (1, .int .i64 s.2.1), (5, .int .i64 ((s.1 : Nat) : Int))]) (fun s => []) (fun s => s.1 ≤ x0.length ∧ rng (R := Int) (fun k (s : Int) => laws_szVersionS_b1 x0 k s) (x0.length - s.1) s.1 s.2.1 = rng (R := Int) (fun k (s : Int) => laws_szVersionS_b1 x0 k s) (x0.length - 0) 0 (IntKind.i64.wrap (x1 - ((x0.length : Nat) : Int)))) (fun s => x0.length - s.1) (0, (IntKind.i64.wrap (x1 - ((x0.length : Nat) : Int))), ()) (subL_cons rfl (subL_cons rfl (subL_cons rfl subL_nil))) (fun W hm => hm) ⟨(by omega), rfl⟩ ?_
    rintro ⟨k8, s9, ⟨⟩⟩ H12
    obtain ⟨hk10, hF11⟩ : k8 ≤ x0.length ∧ rng (R := Int) (fun k (s : Int) => laws_szVersionS_b1 x0 k s) (x0.length - k8) k8 s9 = rng (R := Int) (fun k (s : Int) => laws_szVersionS_b1 x0 k s) (x0.length - 0) 0 (IntKind.i64.wrap (x1 - ((x0.length : Nat) : Int))) := H12
    show CM Try.prog 27 _ _ _ _ [(0, .slice A2 x0.length c3), (1, .int .i64 s9), (5, .int .i64 ((k8 : Nat) : Int))] []
    refine CM_seq ?_
    refine sr ?_
    refine wm ?_
    refine wm ?_
    refine wv (fun W hm => rv_len Try.underlying132 rfl) ?_
    refine wv (fun W hm => rv_lss rfl rfl) ?_
    refine nt' ?_
    by_cases hl13 : k8 < x0.length
    · have g14 : (decide (((k8 : Nat) : Int) < ((x0.length : Nat) : Int))) = true := decide_eq_true (by omega)
      refine CM_condT rfl g14 ?_
      refine CM_skip ?_
      refine QM_then ?_
      refine CM_seq ?_
      refine CM_block ?_
      refine sr ?_
      refine wm ?_
      refine wm ?_
      obtain ⟨a15, rfl, hb16, he17⟩ := q4 (by omega)
      refine wv (fun W hm => rv_index (sz := 4) (k := k8) Try.underlying132 Try.type146 rfl rfl rfl (by omega)) ?_
      obtain ⟨_, e21, hc18⟩ := he17 k8 _ (gt_some (show k8 < x0.length from by omega))
      obtain ⟨v19, rfl, r20⟩ := tyLVersion_rd e21
      have r26 := r20
      obtain ⟨m22, A23, c24, rfl, q25⟩ := r20
      refine wv (fun W hm => rv_loadN (cs := [.int .i64 ((gt x0 k8).Id), .slice A23 ((gt x0 k8).Values).length c24, .int .i64 ((gt x0 k8).Born), .int .i64 ((gt x0 k8).Died)]) Try.underlying146 Try.type146 rfl rfl (hm.elCells (show (a15.add (k8 * 4)).block < w.heap.size from by rw [add_block]; exact hb16.1) hc18)) ?_
      refine wm ?_
      refine WM_callV (cl_fn cb128 rfl) (fun W hm => laws_szVersion_c W _ (gt x0 k8) s9 (tyLVersion_mk (x := (gt x0 k8)) (hm.rdS0 r26))) (Wd_none rfl) (by decide) ?_
      refine wa ?_
      refine nt' ?_
      refine sr ?_
      refine wm ?_
      refine wv (fun W hm => rv_lss rfl rfl) ?_
      refine nt' ?_
      by_cases h27 : (laws_szVersion_m (gt x0 k8) s9) < 0
      · have g28 : (decide ((laws_szVersion_m (gt x0 k8) s9) < 0)) = true := decide_eq_true h27
        refine CM_condT rfl g28 ?_
        refine sr ?_
        refine wa ?_
        refine nt' ?_
        refine CM_ret ?_
        refine QM_block_ret ?_
        refine QM_then_ret ?_
        refine QM_then_ret ?_
        refine QM_block_ret ?_
        refine QM_then_ret ?_
        exact QM_ret1 rfl rfl (fun W hm => ⟨ret_i (show laws_szVersionS_m x0 x1 = (-1) from by unfold laws_szVersionS_m; exact cond_f g7 (fin_inl (rng_ret (body := (fun k (s : Int) => laws_szVersionS_b1 x0 k s)) (k := k8) (s := s9) (show k8 < x0.length from by omega) (show laws_szVersionS_b1 x0 k8 s9 = Sum.inl (-1) from by unfold laws_szVersionS_b1; exact cond_t g28 (rfl)) hF11) rfl)), hm.below⟩)
      · have g28 : (decide ((laws_szVersion_m (gt x0 k8) s9) < 0)) = false := decide_eq_false h27
        refine CM_condF rfl g28 ?_
        refine CM_skip ?_
        refine QM_block_normal ?_
        refine QM_then ?_
        refine CM_region ?_
        refine wm ?_
        refine wv (fun W hm => rv_addN (p := k8) (q := 1) rfl rfl (by omega)) ?_
        refine wa ?_
        refine WM_nil ?_
        have hn29 := rng_next (R := Int) (body := (fun k (s : Int) => laws_szVersionS_b1 x0 k s)) (k := k8) (s := s9) (s' := (laws_szVersion_m (gt x0 k8) s9)) (show k8 < x0.length from by omega) (show laws_szVersionS_b1 x0 k8 s9 = Sum.inr (laws_szVersion_m (gt x0 k8) s9) from by unfold laws_szVersionS_b1; exact cond_f g28 (rfl)) hF11
        exact QM_round (k8 + 1, (laws_szVersion_m (gt x0 k8) s9), ()) (subL_cons rfl (subL_cons rfl (subL_cons rfl subL_nil))) (fun W hm => hm) ⟨(by omega), hn29⟩ (show x0.length - (k8 + 1) < x0.length - k8 from by omega)
    · have g14 : (decide (((k8 : Nat) : Int) < ((x0.length : Nat) : Int))) = false := decide_eq_false (by omega)
      refine CM_condF rfl g14 ?_
      refine CM_exit ?_
      refine QM_then_exit ?_
      refine QM_then_exit ?_
      have hE30 : rng (R := Int) (fun k (s : Int) => laws_szVersionS_b1 x0 k s) (x0.length - 0) 0 (IntKind.i64.wrap (x1 - ((x0.length : Nat) : Int))) = Sum.inr s9 := rng_end hl13 hF11
      refine QM_block_hit ?_
      refine QM_then ?_
      refine sr ?_
      refine wm ?_
      refine wa ?_
      refine nt' ?_
      refine CM_ret ?_
      exact QM_ret1 rfl rfl (fun W hm => ⟨ret_i (show laws_szVersionS_m x0 x1 = s9 from by unfold laws_szVersionS_m; exact cond_f g7 (fin_inr hE30 (rfl))), hm.below⟩)

def laws_szVersionSS_b1 (x0 : (List (List DVersion))) (k8 : Nat) (s9 : Int) : Int ⊕ (Int) :=
  cond (decide ((laws_szVersionS_m (gt x0 k8) s9) < 0)) (Sum.inl (-1)) (Sum.inr (laws_szVersionS_m (gt x0 k8) s9))
def laws_szVersionSS_m (x0 : (List (List DVersion))) (x1 : Int) : Int :=
  cond (decide ((IntKind.i64.wrap (x1 - ((x0.length : Nat) : Int))) < 0)) (-1) (Sum.elim id (fun (s : Int) => s) (rng (R := Int) (fun k (s : Int) => laws_szVersionSS_b1 x0 k s) (x0.length - 0) 0 (IntKind.i64.wrap (x1 - ((x0.length : Nat) : Int)))))
set_option maxRecDepth 100000 in
theorem cb67 : Cb Try.prog 67 := ⟨Try.f67, _, Try.func67, rfl, by decide⟩
set_option maxRecDepth 10000 in
set_option maxHeartbeats 4000000 in
theorem laws_szVersionSS_c (w : World) (z0 : Value) (x0 : (List (List DVersion))) (x1 : Int) (r_0 : rdS (tSl tyLVersion 146) w w.heap.size z0 x0) :
    Calls Try.prog 67 #[z0, .int .i64 x1] w fun e w' => e = .returned (.int .i64 (laws_szVersionSS_m x0 x1)) ∧ Below w.heap.size w w' := by
  have r5 := r_0
  obtain ⟨m1, A2, c3, rfl, q4⟩ := r_0
  refine call_enterM (L := [(0, .slice A2 x0.length c3), (1, .int .i64 x1)]) (N := 27) Try.func67 rfl rfl (Nat.le_of_ble_eq_true rfl) (argsL_cons rfl (argsL_cons rfl argsL_nil)) ?_
  refine sr ?_
  refine wa ?_
  refine nt' ?_
  refine sr ?_
  refine wm ?_
  refine wm ?_
  refine wv (fun W hm => rv_len Try.underlying39 rfl) ?_
  refine wv (fun W hm => rv_sub rfl rfl) ?_
  refine wa ?_
  refine nt' ?_
  refine CM_seq ?_
  refine sr ?_
  refine wm ?_
  refine wv (fun W hm => rv_lss rfl rfl) ?_
  refine nt' ?_
  by_cases h6 : (IntKind.i64.wrap (x1 - ((x0.length : Nat) : Int))) < 0
  · have g7 : (decide ((IntKind.i64.wrap (x1 - ((x0.length : Nat) : Int))) < 0)) = true := decide_eq_true h6
    refine CM_condT rfl g7 ?_
    refine sr ?_
    refine wa ?_
    refine nt' ?_
    refine CM_ret ?_
    refine QM_then_ret ?_
    exact QM_ret1 rfl rfl (fun W hm => ⟨ret_i (show laws_szVersionSS_m x0 x1 = (-1) from by unfold laws_szVersionSS_m; exact cond_t g7 (rfl)), hm.below⟩)
  · have g7 : (decide ((IntKind.i64.wrap (x1 - ((x0.length : Nat) : Int))) < 0)) = false := decide_eq_false h6
    refine CM_condF rfl g7 ?_
    refine CM_skip ?_
    refine QM_then ?_
    refine CM_seq ?_
    refine sr ?_
    refine wa ?_
    refine nt' ?_
    refine CM_block ?_
    refine CM_loop (σ := Nat × (Int) × (Unit)) (fun s => [(0, .slice A2 x0.length c3), (1, .int .i64 s.2.1), (5, .int .i64 ((s.1 : Nat) : Int))]) (fun s => []) (fun s => s.1 ≤ x0.length ∧ rng (R := Int) (fun k (s : Int) => laws_szVersionSS_b1 x0 k s) (x0.length - s.1) s.1 s.2.1 = rng (R := Int) (fun k (s : Int) => laws_szVersionSS_b1 x0 k s) (x0.length - 0) 0 (IntKind.i64.wrap (x1 - ((x0.length : Nat) : Int)))) (fun s => x0.length - s.1) (0, (IntKind.i64.wrap (x1 - ((x0.length : Nat) : Int))), ()) (subL_cons rfl (subL_cons rfl (subL_cons rfl subL_nil))) (fun W hm => hm) ⟨(by omega), rfl⟩ ?_
    rintro ⟨k8, s9, ⟨⟩⟩ H12
    obtain ⟨hk10, hF11⟩ : k8 ≤ x0.length ∧ rng (R := Int) (fun k (s : Int) => laws_szVersionSS_b1 x0 k s) (x0.length - k8) k8 s9 = rng (R := Int) (fun k (s : Int) => laws_szVersionSS_b1 x0 k s) (x0.length - 0) 0 (IntKind.i64.wrap (x1 - ((x0.length : Nat) : Int))) := H12
    show CM Try.prog 27 _ _ _ _ [(0, .slice A2 x0.length c3), (1, .int .i64 s9), (5, .int .i64 ((k8 : Nat) : Int))] []
    refine CM_seq ?_
    refine sr ?_
    refine wm ?_
    refine wm ?_
    refine wv (fun W hm => rv_len Try.underlying39 rfl) ?_
    refine wv (fun W hm => rv_lss rfl rfl) ?_
    refine nt' ?_
    by_cases hl13 : k8 < x0.length
    · have g14 : (decide (((k8 : Nat) : Int) < ((x0.length : Nat) : Int))) = true := decide_eq_true (by omega)
      refine CM_condT rfl g14 ?_
      refine CM_skip ?_
      refine QM_then ?_
      refine CM_seq ?_
      refine CM_block ?_
      refine sr ?_
      refine wm ?_
      refine wm ?_
      obtain ⟨a15, rfl, hb16, he17⟩ := q4 (by omega)
      refine wv (fun W hm => rv_index (sz := 1) (k := k8) Try.underlying39 Try.type132 rfl rfl rfl (by omega)) ?_
      obtain ⟨_, e19, hc18⟩ := he17 k8 _ (gt_some (show k8 < x0.length from by omega))
      obtain ⟨v20, rfl, r21⟩ := e19
      have r26 := r21
      obtain ⟨m22, A23, c24, rfl, q25⟩ := r21
      refine wv (fun W hm => rv_load Try.underlying132 rfl rfl ((hm.cell0 (show (a15.add (k8 * 1)).block < w.heap.size from by rw [add_block]; exact hb16.1)).trans (hc18 0 _ rfl))) ?_
      refine wm ?_
      refine WM_callV (cl_fn cb108 rfl) (fun W hm => laws_szVersionS_c W _ (gt x0 k8) s9 (hm.rdS0 r26)) (Wd_none rfl) (by decide) ?_
      refine wa ?_
      refine nt' ?_
      refine sr ?_
      refine wm ?_
      refine wv (fun W hm => rv_lss rfl rfl) ?_
      refine nt' ?_
      by_cases h27 : (laws_szVersionS_m (gt x0 k8) s9) < 0
      · have g28 : (decide ((laws_szVersionS_m (gt x0 k8) s9) < 0)) = true := decide_eq_true h27
        refine CM_condT rfl g28 ?_
        refine sr ?_
        refine wa ?_
        refine nt' ?_
        refine CM_ret ?_
        refine QM_block_ret ?_
        refine QM_then_ret ?_
        refine QM_then_ret ?_
        refine QM_block_ret ?_
        refine QM_then_ret ?_
        exact QM_ret1 rfl rfl (fun W hm => ⟨ret_i (show laws_szVersionSS_m x0 x1 = (-1) from by unfold laws_szVersionSS_m; exact cond_f g7 (fin_inl (rng_ret (body := (fun k (s : Int) => laws_szVersionSS_b1 x0 k s)) (k := k8) (s := s9) (show k8 < x0.length from by omega) (show laws_szVersionSS_b1 x0 k8 s9 = Sum.inl (-1) from by unfold laws_szVersionSS_b1; exact cond_t g28 (rfl)) hF11) rfl)), hm.below⟩)
      · have g28 : (decide ((laws_szVersionS_m (gt x0 k8) s9) < 0)) = false := decide_eq_false h27
        refine CM_condF rfl g28 ?_
        refine CM_skip ?_
        refine QM_block_normal ?_
        refine QM_then ?_
        refine CM_region ?_
        refine wm ?_
        refine wv (fun W hm => rv_addN (p := k8) (q := 1) rfl rfl (by omega)) ?_
        refine wa ?_
        refine WM_nil ?_
        have hn29 := rng_next (R := Int) (body := (fun k (s : Int) => laws_szVersionSS_b1 x0 k s)) (k := k8) (s := s9) (s' := (laws_szVersionS_m (gt x0 k8) s9)) (show k8 < x0.length from by omega) (show laws_szVersionSS_b1 x0 k8 s9 = Sum.inr (laws_szVersionS_m (gt x0 k8) s9) from by unfold laws_szVersionSS_b1; exact cond_f g28 (rfl)) hF11
        exact QM_round (k8 + 1, (laws_szVersionS_m (gt x0 k8) s9), ()) (subL_cons rfl (subL_cons rfl (subL_cons rfl subL_nil))) (fun W hm => hm) ⟨(by omega), hn29⟩ (show x0.length - (k8 + 1) < x0.length - k8 from by omega)
    · have g14 : (decide (((k8 : Nat) : Int) < ((x0.length : Nat) : Int))) = false := decide_eq_false (by omega)
      refine CM_condF rfl g14 ?_
      refine CM_exit ?_
      refine QM_then_exit ?_
      refine QM_then_exit ?_
      have hE30 : rng (R := Int) (fun k (s : Int) => laws_szVersionSS_b1 x0 k s) (x0.length - 0) 0 (IntKind.i64.wrap (x1 - ((x0.length : Nat) : Int))) = Sum.inr s9 := rng_end hl13 hF11
      refine QM_block_hit ?_
      refine QM_then ?_
      refine sr ?_
      refine wm ?_
      refine wa ?_
      refine nt' ?_
      refine CM_ret ?_
      exact QM_ret1 rfl rfl (fun W hm => ⟨ret_i (show laws_szVersionSS_m x0 x1 = s9 from by unfold laws_szVersionSS_m; exact cond_f g7 (fin_inr hE30 (rfl))), hm.below⟩)

def laws_szStore_m (x0 : DStore) (x1 : Int) : Int :=
  cond (decide ((laws_szVersionSS_m x0.Segments x1) < 0)) (-1) (laws_szVersionSS_m x0.Segments x1)
set_option maxRecDepth 100000 in
theorem cb26 : Cb Try.prog 26 := ⟨Try.f26, _, Try.func26, rfl, by decide⟩
set_option maxRecDepth 10000 in
set_option maxHeartbeats 4000000 in
theorem laws_szStore_c (w : World) (z0 : List Value) (x0 : DStore) (x1 : Int) (r_0 : tyLStore.rd w w.heap.size z0 x0) :
    Calls Try.prog 26 #[.agg z0.toArray, .int .i64 x1] w fun e w' => e = .returned (.int .i64 (laws_szStore_m x0 x1)) ∧ Below w.heap.size w w' := by
  obtain ⟨v1, rfl, r2⟩ := tyLStore_rd r_0
  have r7 := r2
  obtain ⟨m3, A4, c5, rfl, q6⟩ := r2
  refine call_enterM (L := [(0, .agg #[.slice A4 x0.Segments.length c5, .int .i64 x0.Now]), (1, .int .i64 x1)]) (N := 12) Try.func26 rfl rfl (Nat.le_of_ble_eq_true rfl) (argsL_cons rfl (argsL_cons rfl argsL_nil)) ?_
  refine sr ?_
  refine WM_box rfl (Wd_none rfl) (by decide) (fun p8 => ?_)
  refine wa ?_
  refine nt' ?_
  refine sr ?_
  refine wv (fun W hm => rv_field Try.underlying41 rfl Try.type39 (by decide) rfl rfl) ?_
  refine wv (fun W hm => rv_load Try.underlying39 rfl rfl (hm.boxCell (n := 0) (o := 0) rfl rfl)) ?_
  refine wm ?_
  refine WM_callV (cl_fn cb67 rfl) (fun W hm => laws_szVersionSS_c W _ x0.Segments x1 (hm.rdS0 r7)) (Wd_none rfl) (by decide) ?_
  refine wa ?_
  refine nt' ?_
  refine CM_seq ?_
  refine sr ?_
  refine wm ?_
  refine wv (fun W hm => rv_lss rfl rfl) ?_
  refine nt' ?_
  by_cases h9 : (laws_szVersionSS_m x0.Segments x1) < 0
  · have g10 : (decide ((laws_szVersionSS_m x0.Segments x1) < 0)) = true := decide_eq_true h9
    refine CM_condT rfl g10 ?_
    refine sr ?_
    refine wa ?_
    refine nt' ?_
    refine CM_ret ?_
    refine QM_then_ret ?_
    exact QM_ret1 rfl rfl (fun W hm => ⟨ret_i (show laws_szStore_m x0 x1 = (-1) from by unfold laws_szStore_m; exact cond_t g10 (rfl)), hm.below⟩)
  · have g10 : (decide ((laws_szVersionSS_m x0.Segments x1) < 0)) = false := decide_eq_false h9
    refine CM_condF rfl g10 ?_
    refine CM_skip ?_
    refine QM_then ?_
    refine sr ?_
    refine wm ?_
    refine wa ?_
    refine nt' ?_
    refine CM_ret ?_
    exact QM_ret1 rfl rfl (fun W hm => ⟨ret_i (show laws_szStore_m x0 x1 = (laws_szVersionSS_m x0.Segments x1) from by unfold laws_szStore_m; exact cond_f g10 (rfl)), hm.below⟩)

def laws_szRow_m (x0 : DRow) (x1 : Int) : Int :=
  cond (decide ((laws_szIntS_m x0.Values x1) < 0)) (-1) (laws_szIntS_m x0.Values x1)
set_option maxRecDepth 100000 in
theorem cb79 : Cb Try.prog 79 := ⟨Try.f79, _, Try.func79, rfl, by decide⟩
set_option maxRecDepth 10000 in
set_option maxHeartbeats 4000000 in
theorem laws_szRow_c (w : World) (z0 : List Value) (x0 : DRow) (x1 : Int) (r_0 : tyLRow.rd w w.heap.size z0 x0) :
    Calls Try.prog 79 #[.agg z0.toArray, .int .i64 x1] w fun e w' => e = .returned (.int .i64 (laws_szRow_m x0 x1)) ∧ Below w.heap.size w w' := by
  obtain ⟨v1, rfl, r2⟩ := tyLRow_rd r_0
  have r7 := r2
  obtain ⟨m3, A4, c5, rfl, q6⟩ := r2
  refine call_enterM (L := [(0, .agg #[.int .i64 x0.Id, .slice A4 x0.Values.length c5]), (1, .int .i64 x1)]) (N := 12) Try.func79 rfl rfl (Nat.le_of_ble_eq_true rfl) (argsL_cons rfl (argsL_cons rfl argsL_nil)) ?_
  refine sr ?_
  refine WM_box rfl (Wd_none rfl) (by decide) (fun p8 => ?_)
  refine wa ?_
  refine nt' ?_
  refine sr ?_
  refine wv (fun W hm => rv_field Try.underlying63 rfl Try.type33 (by decide) rfl rfl) ?_
  refine wv (fun W hm => rv_load Try.underlying33 rfl rfl (hm.boxCell (n := 0) (o := 1) rfl rfl)) ?_
  refine wm ?_
  refine WM_callV (cl_fn cb102 rfl) (fun W hm => laws_szIntS_c W _ x0.Values x1 (hm.rdS0 r7)) (Wd_none rfl) (by decide) ?_
  refine wa ?_
  refine nt' ?_
  refine CM_seq ?_
  refine sr ?_
  refine wm ?_
  refine wv (fun W hm => rv_lss rfl rfl) ?_
  refine nt' ?_
  by_cases h9 : (laws_szIntS_m x0.Values x1) < 0
  · have g10 : (decide ((laws_szIntS_m x0.Values x1) < 0)) = true := decide_eq_true h9
    refine CM_condT rfl g10 ?_
    refine sr ?_
    refine wa ?_
    refine nt' ?_
    refine CM_ret ?_
    refine QM_then_ret ?_
    exact QM_ret1 rfl rfl (fun W hm => ⟨ret_i (show laws_szRow_m x0 x1 = (-1) from by unfold laws_szRow_m; exact cond_t g10 (rfl)), hm.below⟩)
  · have g10 : (decide ((laws_szIntS_m x0.Values x1) < 0)) = false := decide_eq_false h9
    refine CM_condF rfl g10 ?_
    refine CM_skip ?_
    refine QM_then ?_
    refine sr ?_
    refine wm ?_
    refine wa ?_
    refine nt' ?_
    refine CM_ret ?_
    exact QM_ret1 rfl rfl (fun W hm => ⟨ret_i (show laws_szRow_m x0 x1 = (laws_szIntS_m x0.Values x1) from by unfold laws_szRow_m; exact cond_f g10 (rfl)), hm.below⟩)

def laws_szUpdate_m (x0 : DUpdate) (x1 : Int) : Int :=
  cond (decide ((laws_szRow_m x0.Row x1) < 0)) (-1) (laws_szRow_m x0.Row x1)
set_option maxRecDepth 100000 in
theorem cb42 : Cb Try.prog 42 := ⟨Try.f42, _, Try.func42, rfl, by decide⟩
set_option maxRecDepth 10000 in
set_option maxHeartbeats 4000000 in
theorem laws_szUpdate_c (w : World) (z0 : List Value) (x0 : DUpdate) (x1 : Int) (r_0 : tyLUpdate.rd w w.heap.size z0 x0) :
    Calls Try.prog 42 #[.agg z0.toArray, .int .i64 x1] w fun e w' => e = .returned (.int .i64 (laws_szUpdate_m x0 x1)) ∧ Below w.heap.size w w' := by
  obtain ⟨v1, rfl, r2⟩ := tyLUpdate_rd r_0
  have r7 := r2
  obtain ⟨m3, A4, c5, rfl, q6⟩ := r2
  refine call_enterM (L := [(0, .agg #[.int .i64 x0.Kind, .int .i64 x0.Row.Id, .slice A4 x0.Row.Values.length c5, .int .i64 x0.Field, .int .i64 x0.Value]), (1, .int .i64 x1)]) (N := 12) Try.func42 rfl rfl (Nat.le_of_ble_eq_true rfl) (argsL_cons rfl (argsL_cons rfl argsL_nil)) ?_
  refine sr ?_
  refine WM_box rfl (Wd_none rfl) (by decide) (fun p8 => ?_)
  refine wa ?_
  refine nt' ?_
  refine sr ?_
  refine wv (fun W hm => rv_field Try.underlying65 rfl Try.type63 (by decide) rfl rfl) ?_
  refine wv (fun W hm => rv_loadN (cs := [.int .i64 x0.Row.Id, .slice A4 x0.Row.Values.length c5]) Try.underlying63 Try.type63 rfl rfl (hm.boxPart (n := 0) rfl rfl)) ?_
  refine wm ?_
  refine WM_callV (cl_fn cb79 rfl) (fun W hm => laws_szRow_c W _ x0.Row x1 (tyLRow_mk (x := x0.Row) (hm.rdS0 r7))) (Wd_none rfl) (by decide) ?_
  refine wa ?_
  refine nt' ?_
  refine CM_seq ?_
  refine sr ?_
  refine wm ?_
  refine wv (fun W hm => rv_lss rfl rfl) ?_
  refine nt' ?_
  by_cases h9 : (laws_szRow_m x0.Row x1) < 0
  · have g10 : (decide ((laws_szRow_m x0.Row x1) < 0)) = true := decide_eq_true h9
    refine CM_condT rfl g10 ?_
    refine sr ?_
    refine wa ?_
    refine nt' ?_
    refine CM_ret ?_
    refine QM_then_ret ?_
    exact QM_ret1 rfl rfl (fun W hm => ⟨ret_i (show laws_szUpdate_m x0 x1 = (-1) from by unfold laws_szUpdate_m; exact cond_t g10 (rfl)), hm.below⟩)
  · have g10 : (decide ((laws_szRow_m x0.Row x1) < 0)) = false := decide_eq_false h9
    refine CM_condF rfl g10 ?_
    refine CM_skip ?_
    refine QM_then ?_
    refine sr ?_
    refine wm ?_
    refine wa ?_
    refine nt' ?_
    refine CM_ret ?_
    exact QM_ret1 rfl rfl (fun W hm => ⟨ret_i (show laws_szUpdate_m x0 x1 = (laws_szRow_m x0.Row x1) from by unfold laws_szUpdate_m; exact cond_f g10 (rfl)), hm.below⟩)

def laws_szUpdateS_b1 (x0 : (List DUpdate)) (k8 : Nat) (s9 : Int) : Int ⊕ (Int) :=
  cond (decide ((laws_szUpdate_m (gt x0 k8) s9) < 0)) (Sum.inl (-1)) (Sum.inr (laws_szUpdate_m (gt x0 k8) s9))
def laws_szUpdateS_m (x0 : (List DUpdate)) (x1 : Int) : Int :=
  cond (decide ((IntKind.i64.wrap (x1 - ((x0.length : Nat) : Int))) < 0)) (-1) (Sum.elim id (fun (s : Int) => s) (rng (R := Int) (fun k (s : Int) => laws_szUpdateS_b1 x0 k s) (x0.length - 0) 0 (IntKind.i64.wrap (x1 - ((x0.length : Nat) : Int)))))
set_option maxRecDepth 100000 in
theorem cb48 : Cb Try.prog 48 := ⟨Try.f48, _, Try.func48, rfl, by decide⟩
set_option maxRecDepth 10000 in
set_option maxHeartbeats 4000000 in
theorem laws_szUpdateS_c (w : World) (z0 : Value) (x0 : (List DUpdate)) (x1 : Int) (r_0 : rdS tyLUpdate w w.heap.size z0 x0) :
    Calls Try.prog 48 #[z0, .int .i64 x1] w fun e w' => e = .returned (.int .i64 (laws_szUpdateS_m x0 x1)) ∧ Below w.heap.size w w' := by
  have r5 := r_0
  obtain ⟨m1, A2, c3, rfl, q4⟩ := r_0
  refine call_enterM (L := [(0, .slice A2 x0.length c3), (1, .int .i64 x1)]) (N := 27) Try.func48 rfl rfl (Nat.le_of_ble_eq_true rfl) (argsL_cons rfl (argsL_cons rfl argsL_nil)) ?_
  refine sr ?_
  refine wa ?_
  refine nt' ?_
  refine sr ?_
  refine wm ?_
  refine wm ?_
  refine wv (fun W hm => rv_len Try.underlying76 rfl) ?_
  refine wv (fun W hm => rv_sub rfl rfl) ?_
  refine wa ?_
  refine nt' ?_
  refine CM_seq ?_
  refine sr ?_
  refine wm ?_
  refine wv (fun W hm => rv_lss rfl rfl) ?_
  refine nt' ?_
  by_cases h6 : (IntKind.i64.wrap (x1 - ((x0.length : Nat) : Int))) < 0
  · have g7 : (decide ((IntKind.i64.wrap (x1 - ((x0.length : Nat) : Int))) < 0)) = true := decide_eq_true h6
    refine CM_condT rfl g7 ?_
    refine sr ?_
    refine wa ?_
    refine nt' ?_
    refine CM_ret ?_
    refine QM_then_ret ?_
    exact QM_ret1 rfl rfl (fun W hm => ⟨ret_i (show laws_szUpdateS_m x0 x1 = (-1) from by unfold laws_szUpdateS_m; exact cond_t g7 (rfl)), hm.below⟩)
  · have g7 : (decide ((IntKind.i64.wrap (x1 - ((x0.length : Nat) : Int))) < 0)) = false := decide_eq_false h6
    refine CM_condF rfl g7 ?_
    refine CM_skip ?_
    refine QM_then ?_
    refine CM_seq ?_
    refine sr ?_
    refine wa ?_
    refine nt' ?_
    refine CM_block ?_
    refine CM_loop (σ := Nat × (Int) × (Unit)) (fun s => [(0, .slice A2 x0.length c3), (1, .int .i64 s.2.1), (5, .int .i64 ((s.1 : Nat) : Int))]) (fun s => []) (fun s => s.1 ≤ x0.length ∧ rng (R := Int) (fun k (s : Int) => laws_szUpdateS_b1 x0 k s) (x0.length - s.1) s.1 s.2.1 = rng (R := Int) (fun k (s : Int) => laws_szUpdateS_b1 x0 k s) (x0.length - 0) 0 (IntKind.i64.wrap (x1 - ((x0.length : Nat) : Int)))) (fun s => x0.length - s.1) (0, (IntKind.i64.wrap (x1 - ((x0.length : Nat) : Int))), ()) (subL_cons rfl (subL_cons rfl (subL_cons rfl subL_nil))) (fun W hm => hm) ⟨(by omega), rfl⟩ ?_
    rintro ⟨k8, s9, ⟨⟩⟩ H12
    obtain ⟨hk10, hF11⟩ : k8 ≤ x0.length ∧ rng (R := Int) (fun k (s : Int) => laws_szUpdateS_b1 x0 k s) (x0.length - k8) k8 s9 = rng (R := Int) (fun k (s : Int) => laws_szUpdateS_b1 x0 k s) (x0.length - 0) 0 (IntKind.i64.wrap (x1 - ((x0.length : Nat) : Int))) := H12
    show CM Try.prog 27 _ _ _ _ [(0, .slice A2 x0.length c3), (1, .int .i64 s9), (5, .int .i64 ((k8 : Nat) : Int))] []
    refine CM_seq ?_
    refine sr ?_
    refine wm ?_
    refine wm ?_
    refine wv (fun W hm => rv_len Try.underlying76 rfl) ?_
    refine wv (fun W hm => rv_lss rfl rfl) ?_
    refine nt' ?_
    by_cases hl13 : k8 < x0.length
    · have g14 : (decide (((k8 : Nat) : Int) < ((x0.length : Nat) : Int))) = true := decide_eq_true (by omega)
      refine CM_condT rfl g14 ?_
      refine CM_skip ?_
      refine QM_then ?_
      refine CM_seq ?_
      refine CM_block ?_
      refine sr ?_
      refine wm ?_
      refine wm ?_
      obtain ⟨a15, rfl, hb16, he17⟩ := q4 (by omega)
      refine wv (fun W hm => rv_index (sz := 5) (k := k8) Try.underlying76 Try.type65 rfl rfl rfl (by omega)) ?_
      obtain ⟨_, e21, hc18⟩ := he17 k8 _ (gt_some (show k8 < x0.length from by omega))
      obtain ⟨v19, rfl, r20⟩ := tyLUpdate_rd e21
      have r26 := r20
      obtain ⟨m22, A23, c24, rfl, q25⟩ := r20
      refine wv (fun W hm => rv_loadN (cs := [.int .i64 ((gt x0 k8).Kind), .int .i64 ((gt x0 k8).Row.Id), .slice A23 ((gt x0 k8).Row.Values).length c24, .int .i64 ((gt x0 k8).Field), .int .i64 ((gt x0 k8).Value)]) Try.underlying65 Try.type65 rfl rfl (hm.elCells (show (a15.add (k8 * 5)).block < w.heap.size from by rw [add_block]; exact hb16.1) hc18)) ?_
      refine wm ?_
      refine WM_callV (cl_fn cb42 rfl) (fun W hm => laws_szUpdate_c W _ (gt x0 k8) s9 (tyLUpdate_mk (x := (gt x0 k8)) (hm.rdS0 r26))) (Wd_none rfl) (by decide) ?_
      refine wa ?_
      refine nt' ?_
      refine sr ?_
      refine wm ?_
      refine wv (fun W hm => rv_lss rfl rfl) ?_
      refine nt' ?_
      by_cases h27 : (laws_szUpdate_m (gt x0 k8) s9) < 0
      · have g28 : (decide ((laws_szUpdate_m (gt x0 k8) s9) < 0)) = true := decide_eq_true h27
        refine CM_condT rfl g28 ?_
        refine sr ?_
        refine wa ?_
        refine nt' ?_
        refine CM_ret ?_
        refine QM_block_ret ?_
        refine QM_then_ret ?_
        refine QM_then_ret ?_
        refine QM_block_ret ?_
        refine QM_then_ret ?_
        exact QM_ret1 rfl rfl (fun W hm => ⟨ret_i (show laws_szUpdateS_m x0 x1 = (-1) from by unfold laws_szUpdateS_m; exact cond_f g7 (fin_inl (rng_ret (body := (fun k (s : Int) => laws_szUpdateS_b1 x0 k s)) (k := k8) (s := s9) (show k8 < x0.length from by omega) (show laws_szUpdateS_b1 x0 k8 s9 = Sum.inl (-1) from by unfold laws_szUpdateS_b1; exact cond_t g28 (rfl)) hF11) rfl)), hm.below⟩)
      · have g28 : (decide ((laws_szUpdate_m (gt x0 k8) s9) < 0)) = false := decide_eq_false h27
        refine CM_condF rfl g28 ?_
        refine CM_skip ?_
        refine QM_block_normal ?_
        refine QM_then ?_
        refine CM_region ?_
        refine wm ?_
        refine wv (fun W hm => rv_addN (p := k8) (q := 1) rfl rfl (by omega)) ?_
        refine wa ?_
        refine WM_nil ?_
        have hn29 := rng_next (R := Int) (body := (fun k (s : Int) => laws_szUpdateS_b1 x0 k s)) (k := k8) (s := s9) (s' := (laws_szUpdate_m (gt x0 k8) s9)) (show k8 < x0.length from by omega) (show laws_szUpdateS_b1 x0 k8 s9 = Sum.inr (laws_szUpdate_m (gt x0 k8) s9) from by unfold laws_szUpdateS_b1; exact cond_f g28 (rfl)) hF11
        exact QM_round (k8 + 1, (laws_szUpdate_m (gt x0 k8) s9), ()) (subL_cons rfl (subL_cons rfl (subL_cons rfl subL_nil))) (fun W hm => hm) ⟨(by omega), hn29⟩ (show x0.length - (k8 + 1) < x0.length - k8 from by omega)
    · have g14 : (decide (((k8 : Nat) : Int) < ((x0.length : Nat) : Int))) = false := decide_eq_false (by omega)
      refine CM_condF rfl g14 ?_
      refine CM_exit ?_
      refine QM_then_exit ?_
      refine QM_then_exit ?_
      have hE30 : rng (R := Int) (fun k (s : Int) => laws_szUpdateS_b1 x0 k s) (x0.length - 0) 0 (IntKind.i64.wrap (x1 - ((x0.length : Nat) : Int))) = Sum.inr s9 := rng_end hl13 hF11
      refine QM_block_hit ?_
      refine QM_then ?_
      refine sr ?_
      refine wm ?_
      refine wa ?_
      refine nt' ?_
      refine CM_ret ?_
      exact QM_ret1 rfl rfl (fun W hm => ⟨ret_i (show laws_szUpdateS_m x0 x1 = s9 from by unfold laws_szUpdateS_m; exact cond_f g7 (fin_inr hE30 (rfl))), hm.below⟩)

def laws_toIntS_b1 (x0 : (List Int)) (k9 : Nat) (d10 : (List Int)) : (List Int) ⊕ ((List Int)) :=
  Sum.inr (d10.set k9 (gt x0 k9))
def laws_toIntS_m (x0 : (List Int)) : (List Int) :=
  Sum.elim id (fun (s : (List Int)) => s) (rng (R := (List Int)) (fun k (s : (List Int)) => laws_toIntS_b1 x0 k s) (x0.length - 0) 0 (List.replicate x0.length (0 : Int)))
set_option maxRecDepth 100000 in
theorem cb21 : Cb Try.prog 21 := ⟨Try.f21, _, Try.func21, rfl, by decide⟩
set_option maxRecDepth 10000 in
set_option maxHeartbeats 4000000 in
theorem laws_toIntS_c (w : World) (z0 : Value) (x0 : (List Int)) (r_0 : rdS tInt w w.heap.size z0 x0) (s_0 : x0.length ≤ 68719476736) :
    Calls Try.prog 21 #[z0] w fun e w' => ∃ v : Value, e = .returned (v) ∧ Mem w.heap.size w [iOwn (tSl tInt 3) [v] (laws_toIntS_m x0)] w' := by
  have r5 := r_0
  obtain ⟨m1, A2, c3, rfl, q4⟩ := r_0
  have l6 : x0.length ≤ 68719476736 := s_0
  refine call_enterM (L := [(0, .slice A2 x0.length c3)]) (N := 22) Try.func21 rfl rfl (Nat.le_of_ble_eq_true rfl) (argsL_cons rfl argsL_nil) ?_
  refine sr ?_
  refine wa ?_
  refine nt' ?_
  refine sr ?_
  refine wm ?_
  refine wv (fun W hm => rv_len Try.underlying33 rfl) ?_
  refine WM_make (E := tInt) (n := x0.length) (x0 := (0 : Int)) Try.underlying33 Try.type3 rfl rfl rfl (fun _ => tInt_own) rfl rfl (show x0.length * 8 ≤ 281474976710656 from by omega) (by omega) (Wd_none rfl) (by decide) (fun p7 => ?_)
  refine wa ?_
  refine nt' ?_
  refine CM_seq ?_
  refine sr ?_
  refine wa ?_
  refine nt' ?_
  refine CM_block ?_
  refine CM_loop (σ := Nat × ((List Int)) × (Unit)) (fun s => [(0, .slice A2 x0.length c3), (3, .slice (some ⟨p7, 0, none⟩) x0.length x0.length), (4, .int .i64 ((s.1 : Nat) : Int))]) (fun s => [iOwn (tSl tInt 3) [.slice (some ⟨p7, 0, none⟩) x0.length x0.length] s.2.1]) (fun s => s.1 ≤ x0.length ∧ rng (R := (List Int)) (fun k (s : (List Int)) => laws_toIntS_b1 x0 k s) (x0.length - s.1) s.1 s.2.1 = rng (R := (List Int)) (fun k (s : (List Int)) => laws_toIntS_b1 x0 k s) (x0.length - 0) 0 (List.replicate x0.length (0 : Int))) (fun s => x0.length - s.1) (0, (List.replicate x0.length (0 : Int)), ()) (subL_cons rfl (subL_cons rfl (subL_cons rfl subL_nil))) (fun W hm => hm) ⟨(by omega), rfl⟩ ?_
  rintro ⟨k9, d10, ⟨⟩⟩ H13
  obtain ⟨hk11, hF12⟩ : k9 ≤ x0.length ∧ rng (R := (List Int)) (fun k (s : (List Int)) => laws_toIntS_b1 x0 k s) (x0.length - k9) k9 d10 = rng (R := (List Int)) (fun k (s : (List Int)) => laws_toIntS_b1 x0 k s) (x0.length - 0) 0 (List.replicate x0.length (0 : Int)) := H13
  show CM Try.prog 22 _ _ _ _ [(0, .slice A2 x0.length c3), (3, .slice (some ⟨p7, 0, none⟩) x0.length x0.length), (4, .int .i64 ((k9 : Nat) : Int))] [iOwn (tSl tInt 3) [.slice (some ⟨p7, 0, none⟩) x0.length x0.length] d10]
  refine CM_seq ?_
  refine sr ?_
  refine wm ?_
  refine wm ?_
  refine wv (fun W hm => rv_len Try.underlying33 rfl) ?_
  refine wv (fun W hm => rv_lss rfl rfl) ?_
  refine nt' ?_
  by_cases hl14 : k9 < x0.length
  · have g15 : (decide (((k9 : Nat) : Int) < ((x0.length : Nat) : Int))) = true := decide_eq_true (by omega)
    refine CM_condT rfl g15 ?_
    refine CM_skip ?_
    refine QM_then ?_
    refine CM_seq ?_
    refine CM_block ?_
    refine CM_region ?_
    refine wm ?_
    refine wm ?_
    refine wm ?_
    refine wm ?_
    obtain ⟨a16, rfl, hb17, he18⟩ := q4 (by omega)
    refine wv (fun W hm => rv_index (sz := 1) (k := k9) Try.underlying33 Try.type3 rfl rfl rfl (by omega)) ?_
    refine wv (fun W hm => rv_load Try.underlying3 rfl rfl ((hm.cell0 (show (a16.add (k9 * 1)).block < w.heap.size from by rw [add_block]; exact hb17.1)).trans (rdS_int he18 k9 (by omega)))) ?_
    refine wv (fun W hm => rv_index (sz := 1) (k := k9) Try.underlying33 Try.type3 rfl rfl rfl (by omega)) ?_
    refine WM_setEl (E := tInt) (e := 3) (u := .int .i64 (gt x0 k9)) (k := k9) (p := p7) (n := x0.length) (xs := d10) (eis := []) (js := []) (yv := (gt x0 k9)) (fun W hm => hm) (fun _ _ hs => (Sep.nil hs ▸ tInt_own)) rfl Try.type3 rfl (by omega) rfl rfl (Wd_none rfl) ?_
    refine WM_nil ?_
    refine QM_block_normal ?_
    refine QM_then ?_
    refine CM_region ?_
    refine wm ?_
    refine wv (fun W hm => rv_addN (p := k9) (q := 1) rfl rfl (by omega)) ?_
    refine wa ?_
    refine WM_nil ?_
    have hn19 := rng_next (R := (List Int)) (body := (fun k (s : (List Int)) => laws_toIntS_b1 x0 k s)) (k := k9) (s := d10) (s' := (d10.set k9 (gt x0 k9))) (show k9 < x0.length from by omega) (show laws_toIntS_b1 x0 k9 d10 = Sum.inr (d10.set k9 (gt x0 k9)) from by unfold laws_toIntS_b1; exact rfl) hF12
    exact QM_round (k9 + 1, (d10.set k9 (gt x0 k9)), ()) (subL_cons rfl (subL_cons rfl (subL_cons rfl subL_nil))) (fun W hm => hm) ⟨(by omega), hn19⟩ (show x0.length - (k9 + 1) < x0.length - k9 from by omega)
  · have g15 : (decide (((k9 : Nat) : Int) < ((x0.length : Nat) : Int))) = false := decide_eq_false (by omega)
    refine CM_condF rfl g15 ?_
    refine CM_exit ?_
    refine QM_then_exit ?_
    refine QM_then_exit ?_
    have hE20 : rng (R := (List Int)) (fun k (s : (List Int)) => laws_toIntS_b1 x0 k s) (x0.length - 0) 0 (List.replicate x0.length (0 : Int)) = Sum.inr d10 := rng_end hl14 hF12
    refine QM_block_hit ?_
    refine QM_then ?_
    refine sr ?_
    refine wm ?_
    refine wa ?_
    refine nt' ?_
    refine CM_ret ?_
    refine QM_r1 rfl (RR_tmp rfl) (fun W hm => ⟨.slice (some ⟨p7, 0, none⟩) x0.length x0.length, ?_, ?_⟩)
    · first | rw [(show laws_toIntS_m x0 = d10 from by unfold laws_toIntS_m; exact fin_inr hE20 (rfl))] | rfl
    · rw [(show laws_toIntS_m x0 = d10 from by unfold laws_toIntS_m; exact fin_inr hE20 (rfl))]; exact hm

def laws_toVersion_m (x0 : DVersion) : DVersion :=
  (⟨x0.Id, (laws_toIntS_m x0.Values), x0.Born, x0.Died⟩ : DVersion)
set_option maxRecDepth 100000 in
theorem cb130 : Cb Try.prog 130 := ⟨Try.f130, _, Try.func130, rfl, by decide⟩
set_option maxRecDepth 10000 in
set_option maxHeartbeats 4000000 in
theorem laws_toVersion_c (w : World) (z0 : List Value) (x0 : DVersion) (r_0 : tyLVersion.rd w w.heap.size z0 x0) (s_0 : smVersion 68719476736 x0) :
    Calls Try.prog 130 #[.agg z0.toArray] w fun e w' => ∃ v : List Value, e = .returned (.agg v.toArray) ∧ Mem w.heap.size w [iOwn tyVersion v (laws_toVersion_m x0)] w' := by
  obtain ⟨v1, rfl, r2⟩ := tyLVersion_rd r_0
  have r7 := r2
  obtain ⟨m3, A4, c5, rfl, q6⟩ := r2
  have l8 : x0.Values.length ≤ 68719476736 := s_0
  refine call_enterM (L := [(0, .agg #[.int .i64 x0.Id, .slice A4 x0.Values.length c5, .int .i64 x0.Born, .int .i64 x0.Died])]) (N := 18) Try.func130 rfl rfl (Nat.le_of_ble_eq_true rfl) (argsL_cons rfl argsL_nil) ?_
  refine sr ?_
  refine WM_box rfl (Wd_none rfl) (by decide) (fun p9 => ?_)
  refine WM_alloc Try.type102 rfl (Wd_none rfl) (by decide) (fun p10 => ?_)
  refine nt' ?_
  refine sr ?_
  refine WM_alloc Try.type102 rfl (Wd_none rfl) (by decide) (fun p11 => ?_)
  refine nt' ?_
  refine sr ?_
  refine wv (fun W hm => rv_field Try.underlying146 rfl Try.type3 (by decide) rfl rfl) ?_
  refine wv (fun W hm => rv_load Try.underlying3 rfl rfl (hm.boxCell (n := 2) (o := 0) rfl rfl)) ?_
  refine wv (fun W hm => rv_field Try.underlying102 rfl Try.type3 (by decide) rfl rfl) ?_
  refine WM_storeBox (p := p11) (o := 0) (cs := [.int .i64 0, .slice none 0 0, .int .i64 0, .int .i64 0]) (cs' := [.int .i64 x0.Id, .slice none 0 0, .int .i64 0, .int .i64 0]) (js := [iBox p10 102 [.int .i64 0, .slice none 0 0, .int .i64 0, .int .i64 0], iBox p9 146 [.int .i64 x0.Id, .slice A4 x0.Values.length c5, .int .i64 x0.Born, .int .i64 x0.Died]]) (fun W hm => hm) Try.type3 rfl (Nat.le_of_ble_eq_true rfl) rfl rfl rfl rfl (Wd_none rfl) ?_
  refine nt' ?_
  refine sr ?_
  refine wv (fun W hm => rv_field Try.underlying146 rfl Try.type33 (by decide) rfl rfl) ?_
  refine wv (fun W hm => rv_load Try.underlying33 rfl rfl (hm.boxCell (n := 2) (o := 1) rfl rfl)) ?_
  refine WM_call (χ := Value) (val := fun x => x) (js := fun x => [iOwn (tSl tInt 3) [x] (laws_toIntS_m x0.Values)]) (cl_fn cb21 rfl) (fun W hm => laws_toIntS_c W _ x0.Values (hm.rdS0 r7) s_0) (Wd_none rfl) (by decide) (fun z12 => ?_)
  refine WM_form (n := 0) rfl ?_
  rintro A13 c14 rfl m15
  refine wv (fun W hm => rv_field Try.underlying102 rfl Try.type33 (by decide) rfl rfl) ?_
  refine WM_storeBox (p := p11) (o := 1) (cs := [.int .i64 x0.Id, .slice none 0 0, .int .i64 0, .int .i64 0]) (cs' := [.int .i64 x0.Id, .slice A13 (laws_toIntS_m x0.Values).length c14, .int .i64 0, .int .i64 0]) (js := [iOwn (tSl tInt 3) [.slice A13 (laws_toIntS_m x0.Values).length c14] (laws_toIntS_m x0.Values), iBox p10 102 [.int .i64 0, .slice none 0 0, .int .i64 0, .int .i64 0], iBox p9 146 [.int .i64 x0.Id, .slice A4 x0.Values.length c5, .int .i64 x0.Born, .int .i64 x0.Died]]) (fun W hm => (hm.pick [1, 0, 2, 3] (by decide))) Try.type33 rfl (Nat.le_of_ble_eq_true rfl) rfl rfl rfl rfl (Wd_none rfl) ?_
  refine nt' ?_
  refine sr ?_
  refine wv (fun W hm => rv_field Try.underlying146 rfl Try.type3 (by decide) rfl rfl) ?_
  refine wv (fun W hm => rv_load Try.underlying3 rfl rfl (hm.boxCell (n := 3) (o := 2) rfl rfl)) ?_
  refine wv (fun W hm => rv_field Try.underlying102 rfl Try.type3 (by decide) rfl rfl) ?_
  refine WM_storeBox (p := p11) (o := 2) (cs := [.int .i64 x0.Id, .slice A13 (laws_toIntS_m x0.Values).length c14, .int .i64 0, .int .i64 0]) (cs' := [.int .i64 x0.Id, .slice A13 (laws_toIntS_m x0.Values).length c14, .int .i64 x0.Born, .int .i64 0]) (js := [iOwn (tSl tInt 3) [.slice A13 (laws_toIntS_m x0.Values).length c14] (laws_toIntS_m x0.Values), iBox p10 102 [.int .i64 0, .slice none 0 0, .int .i64 0, .int .i64 0], iBox p9 146 [.int .i64 x0.Id, .slice A4 x0.Values.length c5, .int .i64 x0.Born, .int .i64 x0.Died]]) (fun W hm => hm) Try.type3 rfl (Nat.le_of_ble_eq_true rfl) rfl rfl rfl rfl (Wd_none rfl) ?_
  refine nt' ?_
  refine sr ?_
  refine wv (fun W hm => rv_field Try.underlying146 rfl Try.type3 (by decide) rfl rfl) ?_
  refine wv (fun W hm => rv_load Try.underlying3 rfl rfl (hm.boxCell (n := 3) (o := 3) rfl rfl)) ?_
  refine wv (fun W hm => rv_field Try.underlying102 rfl Try.type3 (by decide) rfl rfl) ?_
  refine WM_storeBox (p := p11) (o := 3) (cs := [.int .i64 x0.Id, .slice A13 (laws_toIntS_m x0.Values).length c14, .int .i64 x0.Born, .int .i64 0]) (cs' := [.int .i64 x0.Id, .slice A13 (laws_toIntS_m x0.Values).length c14, .int .i64 x0.Born, .int .i64 x0.Died]) (js := [iOwn (tSl tInt 3) [.slice A13 (laws_toIntS_m x0.Values).length c14] (laws_toIntS_m x0.Values), iBox p10 102 [.int .i64 0, .slice none 0 0, .int .i64 0, .int .i64 0], iBox p9 146 [.int .i64 x0.Id, .slice A4 x0.Values.length c5, .int .i64 x0.Born, .int .i64 x0.Died]]) (fun W hm => hm) Try.type3 rfl (Nat.le_of_ble_eq_true rfl) rfl rfl rfl rfl (Wd_none rfl) ?_
  refine nt' ?_
  refine sr ?_
  refine wv (fun W hm => rv_loadN (cs := [.int .i64 x0.Id, .slice A13 (laws_toIntS_m x0.Values).length c14, .int .i64 x0.Born, .int .i64 x0.Died]) Try.underlying102 Try.type102 rfl rfl (hm.boxCells (n := 0) rfl)) ?_
  refine WM_storeBox (p := p10) (o := 0) (cs := [.int .i64 0, .slice none 0 0, .int .i64 0, .int .i64 0]) (cs' := [.int .i64 x0.Id, .slice A13 (laws_toIntS_m x0.Values).length c14, .int .i64 x0.Born, .int .i64 x0.Died]) (js := [iBox p11 102 [.int .i64 x0.Id, .slice A13 (laws_toIntS_m x0.Values).length c14, .int .i64 x0.Born, .int .i64 x0.Died], iOwn (tSl tInt 3) [.slice A13 (laws_toIntS_m x0.Values).length c14] (laws_toIntS_m x0.Values), iBox p9 146 [.int .i64 x0.Id, .slice A4 x0.Values.length c5, .int .i64 x0.Born, .int .i64 x0.Died]]) (fun W hm => (hm.pick [2, 0, 1, 3] (by decide))) Try.type102 rfl (Nat.le_of_ble_eq_true rfl) rfl rfl rfl rfl (Wd_none rfl) ?_
  refine nt' ?_
  refine CM_ret ?_
  refine QM_r1 rfl (RR_cell (n := 0) rfl rfl Try.underlying102 Try.type102 rfl) (fun W hm => ⟨[.int .i64 x0.Id, .slice A13 (laws_toIntS_m x0.Values).length c14, .int .i64 x0.Born, .int .i64 x0.Died], ?_, ?_⟩)
  · first | rw [(show laws_toVersion_m x0 = (⟨x0.Id, (laws_toIntS_m x0.Values), x0.Born, x0.Died⟩ : DVersion) from by unfold laws_toVersion_m; exact rfl)] | rfl
  · rw [(show laws_toVersion_m x0 = (⟨x0.Id, (laws_toIntS_m x0.Values), x0.Born, x0.Died⟩ : DVersion) from by unfold laws_toVersion_m; exact rfl)]; exact Mem.join (is := [iOwn (tSl tInt 3) [.slice A13 (laws_toIntS_m x0.Values).length c14] (laws_toIntS_m x0.Values)]) (js := []) (fun _ _ hs => tyVersion_join (x := (⟨x0.Id, (laws_toIntS_m x0.Values), x0.Born, x0.Died⟩ : DVersion)) hs) (hm.pick [2] (by decide))

def laws_toVersionS_b1 (x0 : (List DVersion)) (k9 : Nat) (d10 : (List DVersion)) : (List DVersion) ⊕ ((List DVersion)) :=
  Sum.inr (d10.set k9 (laws_toVersion_m (gt x0 k9)))
def laws_toVersionS_m (x0 : (List DVersion)) : (List DVersion) :=
  Sum.elim id (fun (s : (List DVersion)) => s) (rng (R := (List DVersion)) (fun k (s : (List DVersion)) => laws_toVersionS_b1 x0 k s) (x0.length - 0) 0 (List.replicate x0.length (⟨(0 : Int), [], (0 : Int), (0 : Int)⟩ : DVersion)))
set_option maxRecDepth 100000 in
theorem cb113 : Cb Try.prog 113 := ⟨Try.f113, _, Try.func113, rfl, by decide⟩
set_option maxRecDepth 10000 in
set_option maxHeartbeats 4000000 in
theorem laws_toVersionS_c (w : World) (z0 : Value) (x0 : (List DVersion)) (r_0 : rdS tyLVersion w w.heap.size z0 x0) (s_0 : (x0.length ≤ 68719476736 ∧ ∀ y ∈ x0, smVersion 68719476736 y)) :
    Calls Try.prog 113 #[z0] w fun e w' => ∃ v : Value, e = .returned (v) ∧ Mem w.heap.size w [iOwn (tSl tyVersion 102) [v] (laws_toVersionS_m x0)] w' := by
  have r5 := r_0
  obtain ⟨m1, A2, c3, rfl, q4⟩ := r_0
  have l6 : x0.length ≤ 68719476736 := s_0.1
  refine call_enterM (L := [(0, .slice A2 x0.length c3)]) (N := 23) Try.func113 rfl rfl (Nat.le_of_ble_eq_true rfl) (argsL_cons rfl argsL_nil) ?_
  refine sr ?_
  refine wa ?_
  refine nt' ?_
  refine sr ?_
  refine wm ?_
  refine wv (fun W hm => rv_len Try.underlying132 rfl) ?_
  refine WM_make (E := tyVersion) (n := x0.length) (x0 := (⟨(0 : Int), [], (0 : Int), (0 : Int)⟩ : DVersion)) Try.underlying100 Try.type102 rfl rfl rfl (fun _ => ⟨[], [], _, _, rfl, rfl, tInt_own, ⟨[], [], _, _, rfl, rfl, own_nil, ⟨[], [], _, _, rfl, rfl, tInt_own, tInt_own⟩⟩⟩) rfl rfl (show x0.length * 48 ≤ 281474976710656 from by omega) (by omega) (Wd_none rfl) (by decide) (fun p7 => ?_)
  refine wa ?_
  refine nt' ?_
  refine CM_seq ?_
  refine sr ?_
  refine wa ?_
  refine nt' ?_
  refine CM_block ?_
  refine CM_loop (σ := Nat × ((List DVersion)) × (Unit)) (fun s => [(0, .slice A2 x0.length c3), (3, .slice (some ⟨p7, 0, none⟩) x0.length x0.length), (4, .int .i64 ((s.1 : Nat) : Int))]) (fun s => [iOwn (tSl tyVersion 102) [.slice (some ⟨p7, 0, none⟩) x0.length x0.length] s.2.1]) (fun s => s.1 ≤ x0.length ∧ rng (R := (List DVersion)) (fun k (s : (List DVersion)) => laws_toVersionS_b1 x0 k s) (x0.length - s.1) s.1 s.2.1 = rng (R := (List DVersion)) (fun k (s : (List DVersion)) => laws_toVersionS_b1 x0 k s) (x0.length - 0) 0 (List.replicate x0.length (⟨(0 : Int), [], (0 : Int), (0 : Int)⟩ : DVersion))) (fun s => x0.length - s.1) (0, (List.replicate x0.length (⟨(0 : Int), [], (0 : Int), (0 : Int)⟩ : DVersion)), ()) (subL_cons rfl (subL_cons rfl (subL_cons rfl subL_nil))) (fun W hm => hm) ⟨(by omega), rfl⟩ ?_
  rintro ⟨k9, d10, ⟨⟩⟩ H13
  obtain ⟨hk11, hF12⟩ : k9 ≤ x0.length ∧ rng (R := (List DVersion)) (fun k (s : (List DVersion)) => laws_toVersionS_b1 x0 k s) (x0.length - k9) k9 d10 = rng (R := (List DVersion)) (fun k (s : (List DVersion)) => laws_toVersionS_b1 x0 k s) (x0.length - 0) 0 (List.replicate x0.length (⟨(0 : Int), [], (0 : Int), (0 : Int)⟩ : DVersion)) := H13
  show CM Try.prog 23 _ _ _ _ [(0, .slice A2 x0.length c3), (3, .slice (some ⟨p7, 0, none⟩) x0.length x0.length), (4, .int .i64 ((k9 : Nat) : Int))] [iOwn (tSl tyVersion 102) [.slice (some ⟨p7, 0, none⟩) x0.length x0.length] d10]
  refine CM_seq ?_
  refine sr ?_
  refine wm ?_
  refine wm ?_
  refine wv (fun W hm => rv_len Try.underlying132 rfl) ?_
  refine wv (fun W hm => rv_lss rfl rfl) ?_
  refine nt' ?_
  by_cases hl14 : k9 < x0.length
  · have g15 : (decide (((k9 : Nat) : Int) < ((x0.length : Nat) : Int))) = true := decide_eq_true (by omega)
    refine CM_condT rfl g15 ?_
    refine CM_skip ?_
    refine QM_then ?_
    refine CM_seq ?_
    refine CM_block ?_
    refine CM_region ?_
    refine wm ?_
    refine wm ?_
    refine wm ?_
    refine wm ?_
    obtain ⟨a16, rfl, hb17, he18⟩ := q4 (by omega)
    refine wv (fun W hm => rv_index (sz := 4) (k := k9) Try.underlying132 Try.type146 rfl rfl rfl (by omega)) ?_
    obtain ⟨_, e22, hc19⟩ := he18 k9 _ (gt_some (show k9 < x0.length from by omega))
    obtain ⟨v20, rfl, r21⟩ := tyLVersion_rd e22
    have l23 : ((gt x0 k9).Values).length ≤ 68719476736 := (s_0.2 _ (gt_mem (show k9 < x0.length from by omega)))
    have r28 := r21
    obtain ⟨m24, A25, c26, rfl, q27⟩ := r21
    refine wv (fun W hm => rv_loadN (cs := [.int .i64 ((gt x0 k9).Id), .slice A25 ((gt x0 k9).Values).length c26, .int .i64 ((gt x0 k9).Born), .int .i64 ((gt x0 k9).Died)]) Try.underlying146 Try.type146 rfl rfl (hm.elCells (show (a16.add (k9 * 4)).block < w.heap.size from by rw [add_block]; exact hb17.1) hc19)) ?_
    refine WM_call (χ := List Value) (val := fun x => .agg x.toArray) (js := fun x => [iOwn tyVersion x (laws_toVersion_m (gt x0 k9))]) (cl_fn cb130 rfl) (fun W hm => laws_toVersion_c W _ (gt x0 k9) (tyLVersion_mk (x := (gt x0 k9)) (hm.rdS0 r28)) (s_0.2 _ (gt_mem (show k9 < x0.length from by omega)))) (Wd_none rfl) (by decide) (fun z29 => ?_)
    refine WM_split (γ := Value) (js := fun g => [iOwn (tSl tInt 3) [g] ((laws_toVersion_m (gt x0 k9)).Values)]) (C := fun g => z29 = [.int .i64 ((laws_toVersion_m (gt x0 k9)).Id), g, .int .i64 ((laws_toVersion_m (gt x0 k9)).Born), .int .i64 ((laws_toVersion_m (gt x0 k9)).Died)]) (fun _ _ h => tyVersion_split h) ?_
    rintro v30 rfl
    refine WM_form (n := 0) rfl ?_
    rintro A31 c32 rfl m33
    refine wv (fun W hm => rv_index (sz := 4) (k := k9) Try.underlying100 Try.type102 rfl rfl rfl (by omega)) ?_
    refine WM_setEl (E := tyVersion) (e := 102) (u := .agg #[.int .i64 ((laws_toVersion_m (gt x0 k9)).Id), .slice A31 ((laws_toVersion_m (gt x0 k9)).Values).length c32, .int .i64 ((laws_toVersion_m (gt x0 k9)).Born), .int .i64 ((laws_toVersion_m (gt x0 k9)).Died)]) (k := k9) (p := p7) (n := x0.length) (xs := d10) (eis := [iOwn (tSl tInt 3) [.slice A31 ((laws_toVersion_m (gt x0 k9)).Values).length c32] ((laws_toVersion_m (gt x0 k9)).Values)]) (js := []) (yv := (laws_toVersion_m (gt x0 k9))) (fun W hm => (hm.pick [1, 0] (by decide))) (fun _ _ hs => (tyVersion_join (x := (laws_toVersion_m (gt x0 k9))) hs)) rfl Try.type102 rfl (by omega) rfl rfl (Wd_none rfl) ?_
    refine WM_nil ?_
    refine QM_block_normal ?_
    refine QM_then ?_
    refine CM_region ?_
    refine wm ?_
    refine wv (fun W hm => rv_addN (p := k9) (q := 1) rfl rfl (by omega)) ?_
    refine wa ?_
    refine WM_nil ?_
    have hn35 := rng_next (R := (List DVersion)) (body := (fun k (s : (List DVersion)) => laws_toVersionS_b1 x0 k s)) (k := k9) (s := d10) (s' := (d10.set k9 (laws_toVersion_m (gt x0 k9)))) (show k9 < x0.length from by omega) (show laws_toVersionS_b1 x0 k9 d10 = Sum.inr (d10.set k9 (laws_toVersion_m (gt x0 k9))) from by unfold laws_toVersionS_b1; exact rfl) hF12
    exact QM_round (k9 + 1, (d10.set k9 (laws_toVersion_m (gt x0 k9))), ()) (subL_cons rfl (subL_cons rfl (subL_cons rfl subL_nil))) (fun W hm => hm) ⟨(by omega), hn35⟩ (show x0.length - (k9 + 1) < x0.length - k9 from by omega)
  · have g15 : (decide (((k9 : Nat) : Int) < ((x0.length : Nat) : Int))) = false := decide_eq_false (by omega)
    refine CM_condF rfl g15 ?_
    refine CM_exit ?_
    refine QM_then_exit ?_
    refine QM_then_exit ?_
    have hE36 : rng (R := (List DVersion)) (fun k (s : (List DVersion)) => laws_toVersionS_b1 x0 k s) (x0.length - 0) 0 (List.replicate x0.length (⟨(0 : Int), [], (0 : Int), (0 : Int)⟩ : DVersion)) = Sum.inr d10 := rng_end hl14 hF12
    refine QM_block_hit ?_
    refine QM_then ?_
    refine sr ?_
    refine wm ?_
    refine wa ?_
    refine nt' ?_
    refine CM_ret ?_
    refine QM_r1 rfl (RR_tmp rfl) (fun W hm => ⟨.slice (some ⟨p7, 0, none⟩) x0.length x0.length, ?_, ?_⟩)
    · first | rw [(show laws_toVersionS_m x0 = d10 from by unfold laws_toVersionS_m; exact fin_inr hE36 (rfl))] | rfl
    · rw [(show laws_toVersionS_m x0 = d10 from by unfold laws_toVersionS_m; exact fin_inr hE36 (rfl))]; exact hm

def laws_toVersionSS_b1 (x0 : (List (List DVersion))) (k9 : Nat) (d10 : (List (List DVersion))) : (List (List DVersion)) ⊕ ((List (List DVersion))) :=
  Sum.inr (d10.set k9 (laws_toVersionS_m (gt x0 k9)))
def laws_toVersionSS_m (x0 : (List (List DVersion))) : (List (List DVersion)) :=
  Sum.elim id (fun (s : (List (List DVersion))) => s) (rng (R := (List (List DVersion))) (fun k (s : (List (List DVersion))) => laws_toVersionSS_b1 x0 k s) (x0.length - 0) 0 (List.replicate x0.length []))
set_option maxRecDepth 100000 in
theorem cb71 : Cb Try.prog 71 := ⟨Try.f71, _, Try.func71, rfl, by decide⟩
set_option maxRecDepth 10000 in
set_option maxHeartbeats 4000000 in
theorem laws_toVersionSS_c (w : World) (z0 : Value) (x0 : (List (List DVersion))) (r_0 : rdS (tSl tyLVersion 146) w w.heap.size z0 x0) (s_0 : (x0.length ≤ 68719476736 ∧ ∀ y ∈ x0, (y.length ≤ 68719476736 ∧ ∀ y1 ∈ y, smVersion 68719476736 y1))) :
    Calls Try.prog 71 #[z0] w fun e w' => ∃ v : Value, e = .returned (v) ∧ Mem w.heap.size w [iOwn (tSl (tSl tyVersion 102) 100) [v] (laws_toVersionSS_m x0)] w' := by
  have r5 := r_0
  obtain ⟨m1, A2, c3, rfl, q4⟩ := r_0
  have l6 : x0.length ≤ 68719476736 := s_0.1
  refine call_enterM (L := [(0, .slice A2 x0.length c3)]) (N := 23) Try.func71 rfl rfl (Nat.le_of_ble_eq_true rfl) (argsL_cons rfl argsL_nil) ?_
  refine sr ?_
  refine wa ?_
  refine nt' ?_
  refine sr ?_
  refine wm ?_
  refine wv (fun W hm => rv_len Try.underlying39 rfl) ?_
  refine WM_make (E := (tSl tyVersion 102)) (n := x0.length) (x0 := []) Try.underlying43 Try.type100 rfl rfl rfl (fun _ => own_nil) rfl rfl (show x0.length * 24 ≤ 281474976710656 from by omega) (by omega) (Wd_none rfl) (by decide) (fun p7 => ?_)
  refine wa ?_
  refine nt' ?_
  refine CM_seq ?_
  refine sr ?_
  refine wa ?_
  refine nt' ?_
  refine CM_block ?_
  refine CM_loop (σ := Nat × ((List (List DVersion))) × (Unit)) (fun s => [(0, .slice A2 x0.length c3), (3, .slice (some ⟨p7, 0, none⟩) x0.length x0.length), (4, .int .i64 ((s.1 : Nat) : Int))]) (fun s => [iOwn (tSl (tSl tyVersion 102) 100) [.slice (some ⟨p7, 0, none⟩) x0.length x0.length] s.2.1]) (fun s => s.1 ≤ x0.length ∧ rng (R := (List (List DVersion))) (fun k (s : (List (List DVersion))) => laws_toVersionSS_b1 x0 k s) (x0.length - s.1) s.1 s.2.1 = rng (R := (List (List DVersion))) (fun k (s : (List (List DVersion))) => laws_toVersionSS_b1 x0 k s) (x0.length - 0) 0 (List.replicate x0.length [])) (fun s => x0.length - s.1) (0, (List.replicate x0.length []), ()) (subL_cons rfl (subL_cons rfl (subL_cons rfl subL_nil))) (fun W hm => hm) ⟨(by omega), rfl⟩ ?_
  rintro ⟨k9, d10, ⟨⟩⟩ H13
  obtain ⟨hk11, hF12⟩ : k9 ≤ x0.length ∧ rng (R := (List (List DVersion))) (fun k (s : (List (List DVersion))) => laws_toVersionSS_b1 x0 k s) (x0.length - k9) k9 d10 = rng (R := (List (List DVersion))) (fun k (s : (List (List DVersion))) => laws_toVersionSS_b1 x0 k s) (x0.length - 0) 0 (List.replicate x0.length []) := H13
  show CM Try.prog 23 _ _ _ _ [(0, .slice A2 x0.length c3), (3, .slice (some ⟨p7, 0, none⟩) x0.length x0.length), (4, .int .i64 ((k9 : Nat) : Int))] [iOwn (tSl (tSl tyVersion 102) 100) [.slice (some ⟨p7, 0, none⟩) x0.length x0.length] d10]
  refine CM_seq ?_
  refine sr ?_
  refine wm ?_
  refine wm ?_
  refine wv (fun W hm => rv_len Try.underlying39 rfl) ?_
  refine wv (fun W hm => rv_lss rfl rfl) ?_
  refine nt' ?_
  by_cases hl14 : k9 < x0.length
  · have g15 : (decide (((k9 : Nat) : Int) < ((x0.length : Nat) : Int))) = true := decide_eq_true (by omega)
    refine CM_condT rfl g15 ?_
    refine CM_skip ?_
    refine QM_then ?_
    refine CM_seq ?_
    refine CM_block ?_
    refine CM_region ?_
    refine wm ?_
    refine wm ?_
    refine wm ?_
    refine wm ?_
    obtain ⟨a16, rfl, hb17, he18⟩ := q4 (by omega)
    refine wv (fun W hm => rv_index (sz := 1) (k := k9) Try.underlying39 Try.type132 rfl rfl rfl (by omega)) ?_
    obtain ⟨_, e20, hc19⟩ := he18 k9 _ (gt_some (show k9 < x0.length from by omega))
    have l21 : (gt x0 k9).length ≤ 68719476736 := (s_0.2 _ (gt_mem (show k9 < x0.length from by omega))).1
    obtain ⟨v22, rfl, r23⟩ := e20
    have r28 := r23
    obtain ⟨m24, A25, c26, rfl, q27⟩ := r23
    refine wv (fun W hm => rv_load Try.underlying132 rfl rfl ((hm.cell0 (show (a16.add (k9 * 1)).block < w.heap.size from by rw [add_block]; exact hb17.1)).trans (hc19 0 _ rfl))) ?_
    refine WM_call (χ := Value) (val := fun x => x) (js := fun x => [iOwn (tSl tyVersion 102) [x] (laws_toVersionS_m (gt x0 k9))]) (cl_fn cb113 rfl) (fun W hm => laws_toVersionS_c W _ (gt x0 k9) (hm.rdS0 r28) (s_0.2 _ (gt_mem (show k9 < x0.length from by omega)))) (Wd_none rfl) (by decide) (fun z29 => ?_)
    refine WM_form (n := 0) rfl ?_
    rintro A30 c31 rfl m32
    refine wv (fun W hm => rv_index (sz := 1) (k := k9) Try.underlying43 Try.type100 rfl rfl rfl (by omega)) ?_
    refine WM_setEl (E := (tSl tyVersion 102)) (e := 100) (u := .slice A30 (laws_toVersionS_m (gt x0 k9)).length c31) (k := k9) (p := p7) (n := x0.length) (xs := d10) (eis := [iOwn (tSl tyVersion 102) [.slice A30 (laws_toVersionS_m (gt x0 k9)).length c31] (laws_toVersionS_m (gt x0 k9))]) (js := []) (yv := (laws_toVersionS_m (gt x0 k9))) (fun W hm => (hm.pick [1, 0] (by decide))) (fun _ _ hs => (Sep.one hs)) rfl Try.type100 rfl (by omega) rfl rfl (Wd_none rfl) ?_
    refine WM_nil ?_
    refine QM_block_normal ?_
    refine QM_then ?_
    refine CM_region ?_
    refine wm ?_
    refine wv (fun W hm => rv_addN (p := k9) (q := 1) rfl rfl (by omega)) ?_
    refine wa ?_
    refine WM_nil ?_
    have hn34 := rng_next (R := (List (List DVersion))) (body := (fun k (s : (List (List DVersion))) => laws_toVersionSS_b1 x0 k s)) (k := k9) (s := d10) (s' := (d10.set k9 (laws_toVersionS_m (gt x0 k9)))) (show k9 < x0.length from by omega) (show laws_toVersionSS_b1 x0 k9 d10 = Sum.inr (d10.set k9 (laws_toVersionS_m (gt x0 k9))) from by unfold laws_toVersionSS_b1; exact rfl) hF12
    exact QM_round (k9 + 1, (d10.set k9 (laws_toVersionS_m (gt x0 k9))), ()) (subL_cons rfl (subL_cons rfl (subL_cons rfl subL_nil))) (fun W hm => hm) ⟨(by omega), hn34⟩ (show x0.length - (k9 + 1) < x0.length - k9 from by omega)
  · have g15 : (decide (((k9 : Nat) : Int) < ((x0.length : Nat) : Int))) = false := decide_eq_false (by omega)
    refine CM_condF rfl g15 ?_
    refine CM_exit ?_
    refine QM_then_exit ?_
    refine QM_then_exit ?_
    have hE35 : rng (R := (List (List DVersion))) (fun k (s : (List (List DVersion))) => laws_toVersionSS_b1 x0 k s) (x0.length - 0) 0 (List.replicate x0.length []) = Sum.inr d10 := rng_end hl14 hF12
    refine QM_block_hit ?_
    refine QM_then ?_
    refine sr ?_
    refine wm ?_
    refine wa ?_
    refine nt' ?_
    refine CM_ret ?_
    refine QM_r1 rfl (RR_tmp rfl) (fun W hm => ⟨.slice (some ⟨p7, 0, none⟩) x0.length x0.length, ?_, ?_⟩)
    · first | rw [(show laws_toVersionSS_m x0 = d10 from by unfold laws_toVersionSS_m; exact fin_inr hE35 (rfl))] | rfl
    · rw [(show laws_toVersionSS_m x0 = d10 from by unfold laws_toVersionSS_m; exact fin_inr hE35 (rfl))]; exact hm

def laws_toStore_m (x0 : DStore) : DStore :=
  (⟨(laws_toVersionSS_m x0.Segments), x0.Now⟩ : DStore)
set_option maxRecDepth 100000 in
theorem cb28 : Cb Try.prog 28 := ⟨Try.f28, _, Try.func28, rfl, by decide⟩
set_option maxRecDepth 10000 in
set_option maxHeartbeats 4000000 in
theorem laws_toStore_c (w : World) (z0 : List Value) (x0 : DStore) (r_0 : tyLStore.rd w w.heap.size z0 x0) (s_0 : smStore 68719476736 x0) :
    Calls Try.prog 28 #[.agg z0.toArray] w fun e w' => ∃ v : List Value, e = .returned (.agg v.toArray) ∧ Mem w.heap.size w [iOwn tyStore v (laws_toStore_m x0)] w' := by
  obtain ⟨v1, rfl, r2⟩ := tyLStore_rd r_0
  have r7 := r2
  obtain ⟨m3, A4, c5, rfl, q6⟩ := r2
  have l8 : x0.Segments.length ≤ 68719476736 := s_0.1
  refine call_enterM (L := [(0, .agg #[.slice A4 x0.Segments.length c5, .int .i64 x0.Now])]) (N := 12) Try.func28 rfl rfl (Nat.le_of_ble_eq_true rfl) (argsL_cons rfl argsL_nil) ?_
  refine sr ?_
  refine WM_box rfl (Wd_none rfl) (by decide) (fun p9 => ?_)
  refine WM_alloc Try.type45 rfl (Wd_none rfl) (by decide) (fun p10 => ?_)
  refine nt' ?_
  refine sr ?_
  refine WM_alloc Try.type45 rfl (Wd_none rfl) (by decide) (fun p11 => ?_)
  refine nt' ?_
  refine sr ?_
  refine wv (fun W hm => rv_field Try.underlying41 rfl Try.type39 (by decide) rfl rfl) ?_
  refine wv (fun W hm => rv_load Try.underlying39 rfl rfl (hm.boxCell (n := 2) (o := 0) rfl rfl)) ?_
  refine WM_call (χ := Value) (val := fun x => x) (js := fun x => [iOwn (tSl (tSl tyVersion 102) 100) [x] (laws_toVersionSS_m x0.Segments)]) (cl_fn cb71 rfl) (fun W hm => laws_toVersionSS_c W _ x0.Segments (hm.rdS0 r7) s_0) (Wd_none rfl) (by decide) (fun z12 => ?_)
  refine WM_form (n := 0) rfl ?_
  rintro A13 c14 rfl m15
  refine wv (fun W hm => rv_field Try.underlying45 rfl Try.type43 (by decide) rfl rfl) ?_
  refine WM_storeBox (p := p11) (o := 0) (cs := [.slice none 0 0, .int .i64 0]) (cs' := [.slice A13 (laws_toVersionSS_m x0.Segments).length c14, .int .i64 0]) (js := [iOwn (tSl (tSl tyVersion 102) 100) [.slice A13 (laws_toVersionSS_m x0.Segments).length c14] (laws_toVersionSS_m x0.Segments), iBox p10 45 [.slice none 0 0, .int .i64 0], iBox p9 41 [.slice A4 x0.Segments.length c5, .int .i64 x0.Now]]) (fun W hm => (hm.pick [1, 0, 2, 3] (by decide))) Try.type43 rfl (Nat.le_of_ble_eq_true rfl) rfl rfl rfl rfl (Wd_none rfl) ?_
  refine nt' ?_
  refine sr ?_
  refine wv (fun W hm => rv_field Try.underlying41 rfl Try.type3 (by decide) rfl rfl) ?_
  refine wv (fun W hm => rv_load Try.underlying3 rfl rfl (hm.boxCell (n := 3) (o := 1) rfl rfl)) ?_
  refine wv (fun W hm => rv_field Try.underlying45 rfl Try.type3 (by decide) rfl rfl) ?_
  refine WM_storeBox (p := p11) (o := 1) (cs := [.slice A13 (laws_toVersionSS_m x0.Segments).length c14, .int .i64 0]) (cs' := [.slice A13 (laws_toVersionSS_m x0.Segments).length c14, .int .i64 x0.Now]) (js := [iOwn (tSl (tSl tyVersion 102) 100) [.slice A13 (laws_toVersionSS_m x0.Segments).length c14] (laws_toVersionSS_m x0.Segments), iBox p10 45 [.slice none 0 0, .int .i64 0], iBox p9 41 [.slice A4 x0.Segments.length c5, .int .i64 x0.Now]]) (fun W hm => hm) Try.type3 rfl (Nat.le_of_ble_eq_true rfl) rfl rfl rfl rfl (Wd_none rfl) ?_
  refine nt' ?_
  refine sr ?_
  refine wv (fun W hm => rv_loadN (cs := [.slice A13 (laws_toVersionSS_m x0.Segments).length c14, .int .i64 x0.Now]) Try.underlying45 Try.type45 rfl rfl (hm.boxCells (n := 0) rfl)) ?_
  refine WM_storeBox (p := p10) (o := 0) (cs := [.slice none 0 0, .int .i64 0]) (cs' := [.slice A13 (laws_toVersionSS_m x0.Segments).length c14, .int .i64 x0.Now]) (js := [iBox p11 45 [.slice A13 (laws_toVersionSS_m x0.Segments).length c14, .int .i64 x0.Now], iOwn (tSl (tSl tyVersion 102) 100) [.slice A13 (laws_toVersionSS_m x0.Segments).length c14] (laws_toVersionSS_m x0.Segments), iBox p9 41 [.slice A4 x0.Segments.length c5, .int .i64 x0.Now]]) (fun W hm => (hm.pick [2, 0, 1, 3] (by decide))) Try.type45 rfl (Nat.le_of_ble_eq_true rfl) rfl rfl rfl rfl (Wd_none rfl) ?_
  refine nt' ?_
  refine CM_ret ?_
  refine QM_r1 rfl (RR_cell (n := 0) rfl rfl Try.underlying45 Try.type45 rfl) (fun W hm => ⟨[.slice A13 (laws_toVersionSS_m x0.Segments).length c14, .int .i64 x0.Now], ?_, ?_⟩)
  · first | rw [(show laws_toStore_m x0 = (⟨(laws_toVersionSS_m x0.Segments), x0.Now⟩ : DStore) from by unfold laws_toStore_m; exact rfl)] | rfl
  · rw [(show laws_toStore_m x0 = (⟨(laws_toVersionSS_m x0.Segments), x0.Now⟩ : DStore) from by unfold laws_toStore_m; exact rfl)]; exact Mem.join (is := [iOwn (tSl (tSl tyVersion 102) 100) [.slice A13 (laws_toVersionSS_m x0.Segments).length c14] (laws_toVersionSS_m x0.Segments)]) (js := []) (fun _ _ hs => tyStore_join (x := (⟨(laws_toVersionSS_m x0.Segments), x0.Now⟩ : DStore)) hs) (hm.pick [2] (by decide))

def laws_toRow_m (x0 : DRow) : DRow :=
  (⟨x0.Id, (laws_toIntS_m x0.Values)⟩ : DRow)
set_option maxRecDepth 100000 in
theorem cb83 : Cb Try.prog 83 := ⟨Try.f83, _, Try.func83, rfl, by decide⟩
set_option maxRecDepth 10000 in
set_option maxHeartbeats 4000000 in
theorem laws_toRow_c (w : World) (z0 : List Value) (x0 : DRow) (r_0 : tyLRow.rd w w.heap.size z0 x0) (s_0 : smRow 68719476736 x0) :
    Calls Try.prog 83 #[.agg z0.toArray] w fun e w' => ∃ v : List Value, e = .returned (.agg v.toArray) ∧ Mem w.heap.size w [iOwn tyRow v (laws_toRow_m x0)] w' := by
  obtain ⟨v1, rfl, r2⟩ := tyLRow_rd r_0
  have r7 := r2
  obtain ⟨m3, A4, c5, rfl, q6⟩ := r2
  have l8 : x0.Values.length ≤ 68719476736 := s_0
  refine call_enterM (L := [(0, .agg #[.int .i64 x0.Id, .slice A4 x0.Values.length c5])]) (N := 12) Try.func83 rfl rfl (Nat.le_of_ble_eq_true rfl) (argsL_cons rfl argsL_nil) ?_
  refine sr ?_
  refine WM_box rfl (Wd_none rfl) (by decide) (fun p9 => ?_)
  refine WM_alloc Try.type69 rfl (Wd_none rfl) (by decide) (fun p10 => ?_)
  refine nt' ?_
  refine sr ?_
  refine WM_alloc Try.type69 rfl (Wd_none rfl) (by decide) (fun p11 => ?_)
  refine nt' ?_
  refine sr ?_
  refine wv (fun W hm => rv_field Try.underlying63 rfl Try.type3 (by decide) rfl rfl) ?_
  refine wv (fun W hm => rv_load Try.underlying3 rfl rfl (hm.boxCell (n := 2) (o := 0) rfl rfl)) ?_
  refine wv (fun W hm => rv_field Try.underlying69 rfl Try.type3 (by decide) rfl rfl) ?_
  refine WM_storeBox (p := p11) (o := 0) (cs := [.int .i64 0, .slice none 0 0]) (cs' := [.int .i64 x0.Id, .slice none 0 0]) (js := [iBox p10 69 [.int .i64 0, .slice none 0 0], iBox p9 63 [.int .i64 x0.Id, .slice A4 x0.Values.length c5]]) (fun W hm => hm) Try.type3 rfl (Nat.le_of_ble_eq_true rfl) rfl rfl rfl rfl (Wd_none rfl) ?_
  refine nt' ?_
  refine sr ?_
  refine wv (fun W hm => rv_field Try.underlying63 rfl Try.type33 (by decide) rfl rfl) ?_
  refine wv (fun W hm => rv_load Try.underlying33 rfl rfl (hm.boxCell (n := 2) (o := 1) rfl rfl)) ?_
  refine WM_call (χ := Value) (val := fun x => x) (js := fun x => [iOwn (tSl tInt 3) [x] (laws_toIntS_m x0.Values)]) (cl_fn cb21 rfl) (fun W hm => laws_toIntS_c W _ x0.Values (hm.rdS0 r7) s_0) (Wd_none rfl) (by decide) (fun z12 => ?_)
  refine WM_form (n := 0) rfl ?_
  rintro A13 c14 rfl m15
  refine wv (fun W hm => rv_field Try.underlying69 rfl Try.type33 (by decide) rfl rfl) ?_
  refine WM_storeBox (p := p11) (o := 1) (cs := [.int .i64 x0.Id, .slice none 0 0]) (cs' := [.int .i64 x0.Id, .slice A13 (laws_toIntS_m x0.Values).length c14]) (js := [iOwn (tSl tInt 3) [.slice A13 (laws_toIntS_m x0.Values).length c14] (laws_toIntS_m x0.Values), iBox p10 69 [.int .i64 0, .slice none 0 0], iBox p9 63 [.int .i64 x0.Id, .slice A4 x0.Values.length c5]]) (fun W hm => (hm.pick [1, 0, 2, 3] (by decide))) Try.type33 rfl (Nat.le_of_ble_eq_true rfl) rfl rfl rfl rfl (Wd_none rfl) ?_
  refine nt' ?_
  refine sr ?_
  refine wv (fun W hm => rv_loadN (cs := [.int .i64 x0.Id, .slice A13 (laws_toIntS_m x0.Values).length c14]) Try.underlying69 Try.type69 rfl rfl (hm.boxCells (n := 0) rfl)) ?_
  refine WM_storeBox (p := p10) (o := 0) (cs := [.int .i64 0, .slice none 0 0]) (cs' := [.int .i64 x0.Id, .slice A13 (laws_toIntS_m x0.Values).length c14]) (js := [iBox p11 69 [.int .i64 x0.Id, .slice A13 (laws_toIntS_m x0.Values).length c14], iOwn (tSl tInt 3) [.slice A13 (laws_toIntS_m x0.Values).length c14] (laws_toIntS_m x0.Values), iBox p9 63 [.int .i64 x0.Id, .slice A4 x0.Values.length c5]]) (fun W hm => (hm.pick [2, 0, 1, 3] (by decide))) Try.type69 rfl (Nat.le_of_ble_eq_true rfl) rfl rfl rfl rfl (Wd_none rfl) ?_
  refine nt' ?_
  refine CM_ret ?_
  refine QM_r1 rfl (RR_cell (n := 0) rfl rfl Try.underlying69 Try.type69 rfl) (fun W hm => ⟨[.int .i64 x0.Id, .slice A13 (laws_toIntS_m x0.Values).length c14], ?_, ?_⟩)
  · first | rw [(show laws_toRow_m x0 = (⟨x0.Id, (laws_toIntS_m x0.Values)⟩ : DRow) from by unfold laws_toRow_m; exact rfl)] | rfl
  · rw [(show laws_toRow_m x0 = (⟨x0.Id, (laws_toIntS_m x0.Values)⟩ : DRow) from by unfold laws_toRow_m; exact rfl)]; exact Mem.join (is := [iOwn (tSl tInt 3) [.slice A13 (laws_toIntS_m x0.Values).length c14] (laws_toIntS_m x0.Values)]) (js := []) (fun _ _ hs => tyRow_join (x := (⟨x0.Id, (laws_toIntS_m x0.Values)⟩ : DRow)) hs) (hm.pick [2] (by decide))

def laws_toUpdate_m (x0 : DUpdate) : DUpdate :=
  (⟨x0.Kind, (laws_toRow_m x0.Row), x0.Field, x0.Value⟩ : DUpdate)
set_option maxRecDepth 100000 in
theorem cb44 : Cb Try.prog 44 := ⟨Try.f44, _, Try.func44, rfl, by decide⟩
set_option maxRecDepth 10000 in
set_option maxHeartbeats 4000000 in
theorem laws_toUpdate_c (w : World) (z0 : List Value) (x0 : DUpdate) (r_0 : tyLUpdate.rd w w.heap.size z0 x0) (s_0 : smUpdate 68719476736 x0) :
    Calls Try.prog 44 #[.agg z0.toArray] w fun e w' => ∃ v : List Value, e = .returned (.agg v.toArray) ∧ Mem w.heap.size w [iOwn tyUpdate v (laws_toUpdate_m x0)] w' := by
  obtain ⟨v1, rfl, r2⟩ := tyLUpdate_rd r_0
  have r7 := r2
  obtain ⟨m3, A4, c5, rfl, q6⟩ := r2
  have l8 : x0.Row.Values.length ≤ 68719476736 := s_0
  refine call_enterM (L := [(0, .agg #[.int .i64 x0.Kind, .int .i64 x0.Row.Id, .slice A4 x0.Row.Values.length c5, .int .i64 x0.Field, .int .i64 x0.Value])]) (N := 18) Try.func44 rfl rfl (Nat.le_of_ble_eq_true rfl) (argsL_cons rfl argsL_nil) ?_
  refine sr ?_
  refine WM_box rfl (Wd_none rfl) (by decide) (fun p9 => ?_)
  refine WM_alloc Try.type71 rfl (Wd_none rfl) (by decide) (fun p10 => ?_)
  refine nt' ?_
  refine sr ?_
  refine WM_alloc Try.type71 rfl (Wd_none rfl) (by decide) (fun p11 => ?_)
  refine nt' ?_
  refine sr ?_
  refine wv (fun W hm => rv_field Try.underlying65 rfl Try.type3 (by decide) rfl rfl) ?_
  refine wv (fun W hm => rv_load Try.underlying3 rfl rfl (hm.boxCell (n := 2) (o := 0) rfl rfl)) ?_
  refine wv (fun W hm => rv_field Try.underlying71 rfl Try.type3 (by decide) rfl rfl) ?_
  refine WM_storeBox (p := p11) (o := 0) (cs := [.int .i64 0, .int .i64 0, .slice none 0 0, .int .i64 0, .int .i64 0]) (cs' := [.int .i64 x0.Kind, .int .i64 0, .slice none 0 0, .int .i64 0, .int .i64 0]) (js := [iBox p10 71 [.int .i64 0, .int .i64 0, .slice none 0 0, .int .i64 0, .int .i64 0], iBox p9 65 [.int .i64 x0.Kind, .int .i64 x0.Row.Id, .slice A4 x0.Row.Values.length c5, .int .i64 x0.Field, .int .i64 x0.Value]]) (fun W hm => hm) Try.type3 rfl (Nat.le_of_ble_eq_true rfl) rfl rfl rfl rfl (Wd_none rfl) ?_
  refine nt' ?_
  refine sr ?_
  refine wv (fun W hm => rv_field Try.underlying65 rfl Try.type63 (by decide) rfl rfl) ?_
  refine wv (fun W hm => rv_loadN (cs := [.int .i64 x0.Row.Id, .slice A4 x0.Row.Values.length c5]) Try.underlying63 Try.type63 rfl rfl (hm.boxPart (n := 2) rfl rfl)) ?_
  refine WM_call (χ := List Value) (val := fun x => .agg x.toArray) (js := fun x => [iOwn tyRow x (laws_toRow_m x0.Row)]) (cl_fn cb83 rfl) (fun W hm => laws_toRow_c W _ x0.Row (tyLRow_mk (x := x0.Row) (hm.rdS0 r7)) s_0) (Wd_none rfl) (by decide) (fun z12 => ?_)
  refine WM_split (γ := Value) (js := fun g => [iOwn (tSl tInt 3) [g] ((laws_toRow_m x0.Row).Values)]) (C := fun g => z12 = [.int .i64 ((laws_toRow_m x0.Row).Id), g]) (fun _ _ h => tyRow_split h) ?_
  rintro v13 rfl
  refine WM_form (n := 0) rfl ?_
  rintro A14 c15 rfl m16
  refine wv (fun W hm => rv_field Try.underlying71 rfl Try.type69 (by decide) rfl rfl) ?_
  refine WM_storeBox (p := p11) (o := 1) (cs := [.int .i64 x0.Kind, .int .i64 0, .slice none 0 0, .int .i64 0, .int .i64 0]) (cs' := [.int .i64 x0.Kind, .int .i64 ((laws_toRow_m x0.Row).Id), .slice A14 ((laws_toRow_m x0.Row).Values).length c15, .int .i64 0, .int .i64 0]) (js := [iOwn (tSl tInt 3) [.slice A14 ((laws_toRow_m x0.Row).Values).length c15] ((laws_toRow_m x0.Row).Values), iBox p10 71 [.int .i64 0, .int .i64 0, .slice none 0 0, .int .i64 0, .int .i64 0], iBox p9 65 [.int .i64 x0.Kind, .int .i64 x0.Row.Id, .slice A4 x0.Row.Values.length c5, .int .i64 x0.Field, .int .i64 x0.Value]]) (fun W hm => (hm.pick [1, 0, 2, 3] (by decide))) Try.type69 rfl (Nat.le_of_ble_eq_true rfl) rfl rfl rfl rfl (Wd_none rfl) ?_
  refine nt' ?_
  refine sr ?_
  refine wv (fun W hm => rv_field Try.underlying65 rfl Try.type3 (by decide) rfl rfl) ?_
  refine wv (fun W hm => rv_load Try.underlying3 rfl rfl (hm.boxCell (n := 3) (o := 3) rfl rfl)) ?_
  refine wv (fun W hm => rv_field Try.underlying71 rfl Try.type3 (by decide) rfl rfl) ?_
  refine WM_storeBox (p := p11) (o := 3) (cs := [.int .i64 x0.Kind, .int .i64 ((laws_toRow_m x0.Row).Id), .slice A14 ((laws_toRow_m x0.Row).Values).length c15, .int .i64 0, .int .i64 0]) (cs' := [.int .i64 x0.Kind, .int .i64 ((laws_toRow_m x0.Row).Id), .slice A14 ((laws_toRow_m x0.Row).Values).length c15, .int .i64 x0.Field, .int .i64 0]) (js := [iOwn (tSl tInt 3) [.slice A14 ((laws_toRow_m x0.Row).Values).length c15] ((laws_toRow_m x0.Row).Values), iBox p10 71 [.int .i64 0, .int .i64 0, .slice none 0 0, .int .i64 0, .int .i64 0], iBox p9 65 [.int .i64 x0.Kind, .int .i64 x0.Row.Id, .slice A4 x0.Row.Values.length c5, .int .i64 x0.Field, .int .i64 x0.Value]]) (fun W hm => hm) Try.type3 rfl (Nat.le_of_ble_eq_true rfl) rfl rfl rfl rfl (Wd_none rfl) ?_
  refine nt' ?_
  refine sr ?_
  refine wv (fun W hm => rv_field Try.underlying65 rfl Try.type3 (by decide) rfl rfl) ?_
  refine wv (fun W hm => rv_load Try.underlying3 rfl rfl (hm.boxCell (n := 3) (o := 4) rfl rfl)) ?_
  refine wv (fun W hm => rv_field Try.underlying71 rfl Try.type3 (by decide) rfl rfl) ?_
  refine WM_storeBox (p := p11) (o := 4) (cs := [.int .i64 x0.Kind, .int .i64 ((laws_toRow_m x0.Row).Id), .slice A14 ((laws_toRow_m x0.Row).Values).length c15, .int .i64 x0.Field, .int .i64 0]) (cs' := [.int .i64 x0.Kind, .int .i64 ((laws_toRow_m x0.Row).Id), .slice A14 ((laws_toRow_m x0.Row).Values).length c15, .int .i64 x0.Field, .int .i64 x0.Value]) (js := [iOwn (tSl tInt 3) [.slice A14 ((laws_toRow_m x0.Row).Values).length c15] ((laws_toRow_m x0.Row).Values), iBox p10 71 [.int .i64 0, .int .i64 0, .slice none 0 0, .int .i64 0, .int .i64 0], iBox p9 65 [.int .i64 x0.Kind, .int .i64 x0.Row.Id, .slice A4 x0.Row.Values.length c5, .int .i64 x0.Field, .int .i64 x0.Value]]) (fun W hm => hm) Try.type3 rfl (Nat.le_of_ble_eq_true rfl) rfl rfl rfl rfl (Wd_none rfl) ?_
  refine nt' ?_
  refine sr ?_
  refine wv (fun W hm => rv_loadN (cs := [.int .i64 x0.Kind, .int .i64 ((laws_toRow_m x0.Row).Id), .slice A14 ((laws_toRow_m x0.Row).Values).length c15, .int .i64 x0.Field, .int .i64 x0.Value]) Try.underlying71 Try.type71 rfl rfl (hm.boxCells (n := 0) rfl)) ?_
  refine WM_storeBox (p := p10) (o := 0) (cs := [.int .i64 0, .int .i64 0, .slice none 0 0, .int .i64 0, .int .i64 0]) (cs' := [.int .i64 x0.Kind, .int .i64 ((laws_toRow_m x0.Row).Id), .slice A14 ((laws_toRow_m x0.Row).Values).length c15, .int .i64 x0.Field, .int .i64 x0.Value]) (js := [iBox p11 71 [.int .i64 x0.Kind, .int .i64 ((laws_toRow_m x0.Row).Id), .slice A14 ((laws_toRow_m x0.Row).Values).length c15, .int .i64 x0.Field, .int .i64 x0.Value], iOwn (tSl tInt 3) [.slice A14 ((laws_toRow_m x0.Row).Values).length c15] ((laws_toRow_m x0.Row).Values), iBox p9 65 [.int .i64 x0.Kind, .int .i64 x0.Row.Id, .slice A4 x0.Row.Values.length c5, .int .i64 x0.Field, .int .i64 x0.Value]]) (fun W hm => (hm.pick [2, 0, 1, 3] (by decide))) Try.type71 rfl (Nat.le_of_ble_eq_true rfl) rfl rfl rfl rfl (Wd_none rfl) ?_
  refine nt' ?_
  refine CM_ret ?_
  refine QM_r1 rfl (RR_cell (n := 0) rfl rfl Try.underlying71 Try.type71 rfl) (fun W hm => ⟨[.int .i64 x0.Kind, .int .i64 ((laws_toRow_m x0.Row).Id), .slice A14 ((laws_toRow_m x0.Row).Values).length c15, .int .i64 x0.Field, .int .i64 x0.Value], ?_, ?_⟩)
  · first | rw [(show laws_toUpdate_m x0 = (⟨x0.Kind, (laws_toRow_m x0.Row), x0.Field, x0.Value⟩ : DUpdate) from by unfold laws_toUpdate_m; exact rfl)] | rfl
  · rw [(show laws_toUpdate_m x0 = (⟨x0.Kind, (laws_toRow_m x0.Row), x0.Field, x0.Value⟩ : DUpdate) from by unfold laws_toUpdate_m; exact rfl)]; exact Mem.join (is := [iOwn (tSl tInt 3) [.slice A14 ((laws_toRow_m x0.Row).Values).length c15] ((laws_toRow_m x0.Row).Values)]) (js := []) (fun _ _ hs => tyUpdate_join (x := (⟨x0.Kind, (laws_toRow_m x0.Row), x0.Field, x0.Value⟩ : DUpdate)) hs) (hm.pick [2] (by decide))

def laws_toUpdateS_b1 (x0 : (List DUpdate)) (k9 : Nat) (d10 : (List DUpdate)) : (List DUpdate) ⊕ ((List DUpdate)) :=
  Sum.inr (d10.set k9 (laws_toUpdate_m (gt x0 k9)))
def laws_toUpdateS_m (x0 : (List DUpdate)) : (List DUpdate) :=
  Sum.elim id (fun (s : (List DUpdate)) => s) (rng (R := (List DUpdate)) (fun k (s : (List DUpdate)) => laws_toUpdateS_b1 x0 k s) (x0.length - 0) 0 (List.replicate x0.length (⟨(0 : Int), (⟨(0 : Int), []⟩ : DRow), (0 : Int), (0 : Int)⟩ : DUpdate)))
set_option maxRecDepth 100000 in
theorem cb50 : Cb Try.prog 50 := ⟨Try.f50, _, Try.func50, rfl, by decide⟩
set_option maxRecDepth 10000 in
set_option maxHeartbeats 4000000 in
theorem laws_toUpdateS_c (w : World) (z0 : Value) (x0 : (List DUpdate)) (r_0 : rdS tyLUpdate w w.heap.size z0 x0) (s_0 : (x0.length ≤ 68719476736 ∧ ∀ y ∈ x0, smUpdate 68719476736 y)) :
    Calls Try.prog 50 #[z0] w fun e w' => ∃ v : Value, e = .returned (v) ∧ Mem w.heap.size w [iOwn (tSl tyUpdate 71) [v] (laws_toUpdateS_m x0)] w' := by
  have r5 := r_0
  obtain ⟨m1, A2, c3, rfl, q4⟩ := r_0
  have l6 : x0.length ≤ 68719476736 := s_0.1
  refine call_enterM (L := [(0, .slice A2 x0.length c3)]) (N := 23) Try.func50 rfl rfl (Nat.le_of_ble_eq_true rfl) (argsL_cons rfl argsL_nil) ?_
  refine sr ?_
  refine wa ?_
  refine nt' ?_
  refine sr ?_
  refine wm ?_
  refine wv (fun W hm => rv_len Try.underlying76 rfl) ?_
  refine WM_make (E := tyUpdate) (n := x0.length) (x0 := (⟨(0 : Int), (⟨(0 : Int), []⟩ : DRow), (0 : Int), (0 : Int)⟩ : DUpdate)) Try.underlying79 Try.type71 rfl rfl rfl (fun _ => ⟨[], [], _, _, rfl, rfl, tInt_own, ⟨[], [], _, _, rfl, rfl, ⟨[], [], _, _, rfl, rfl, tInt_own, own_nil⟩, ⟨[], [], _, _, rfl, rfl, tInt_own, tInt_own⟩⟩⟩) rfl rfl (show x0.length * 56 ≤ 281474976710656 from by omega) (by omega) (Wd_none rfl) (by decide) (fun p7 => ?_)
  refine wa ?_
  refine nt' ?_
  refine CM_seq ?_
  refine sr ?_
  refine wa ?_
  refine nt' ?_
  refine CM_block ?_
  refine CM_loop (σ := Nat × ((List DUpdate)) × (Unit)) (fun s => [(0, .slice A2 x0.length c3), (3, .slice (some ⟨p7, 0, none⟩) x0.length x0.length), (4, .int .i64 ((s.1 : Nat) : Int))]) (fun s => [iOwn (tSl tyUpdate 71) [.slice (some ⟨p7, 0, none⟩) x0.length x0.length] s.2.1]) (fun s => s.1 ≤ x0.length ∧ rng (R := (List DUpdate)) (fun k (s : (List DUpdate)) => laws_toUpdateS_b1 x0 k s) (x0.length - s.1) s.1 s.2.1 = rng (R := (List DUpdate)) (fun k (s : (List DUpdate)) => laws_toUpdateS_b1 x0 k s) (x0.length - 0) 0 (List.replicate x0.length (⟨(0 : Int), (⟨(0 : Int), []⟩ : DRow), (0 : Int), (0 : Int)⟩ : DUpdate))) (fun s => x0.length - s.1) (0, (List.replicate x0.length (⟨(0 : Int), (⟨(0 : Int), []⟩ : DRow), (0 : Int), (0 : Int)⟩ : DUpdate)), ()) (subL_cons rfl (subL_cons rfl (subL_cons rfl subL_nil))) (fun W hm => hm) ⟨(by omega), rfl⟩ ?_
  rintro ⟨k9, d10, ⟨⟩⟩ H13
  obtain ⟨hk11, hF12⟩ : k9 ≤ x0.length ∧ rng (R := (List DUpdate)) (fun k (s : (List DUpdate)) => laws_toUpdateS_b1 x0 k s) (x0.length - k9) k9 d10 = rng (R := (List DUpdate)) (fun k (s : (List DUpdate)) => laws_toUpdateS_b1 x0 k s) (x0.length - 0) 0 (List.replicate x0.length (⟨(0 : Int), (⟨(0 : Int), []⟩ : DRow), (0 : Int), (0 : Int)⟩ : DUpdate)) := H13
  show CM Try.prog 23 _ _ _ _ [(0, .slice A2 x0.length c3), (3, .slice (some ⟨p7, 0, none⟩) x0.length x0.length), (4, .int .i64 ((k9 : Nat) : Int))] [iOwn (tSl tyUpdate 71) [.slice (some ⟨p7, 0, none⟩) x0.length x0.length] d10]
  refine CM_seq ?_
  refine sr ?_
  refine wm ?_
  refine wm ?_
  refine wv (fun W hm => rv_len Try.underlying76 rfl) ?_
  refine wv (fun W hm => rv_lss rfl rfl) ?_
  refine nt' ?_
  by_cases hl14 : k9 < x0.length
  · have g15 : (decide (((k9 : Nat) : Int) < ((x0.length : Nat) : Int))) = true := decide_eq_true (by omega)
    refine CM_condT rfl g15 ?_
    refine CM_skip ?_
    refine QM_then ?_
    refine CM_seq ?_
    refine CM_block ?_
    refine CM_region ?_
    refine wm ?_
    refine wm ?_
    refine wm ?_
    refine wm ?_
    obtain ⟨a16, rfl, hb17, he18⟩ := q4 (by omega)
    refine wv (fun W hm => rv_index (sz := 5) (k := k9) Try.underlying76 Try.type65 rfl rfl rfl (by omega)) ?_
    obtain ⟨_, e22, hc19⟩ := he18 k9 _ (gt_some (show k9 < x0.length from by omega))
    obtain ⟨v20, rfl, r21⟩ := tyLUpdate_rd e22
    have l23 : ((gt x0 k9).Row.Values).length ≤ 68719476736 := (s_0.2 _ (gt_mem (show k9 < x0.length from by omega)))
    have r28 := r21
    obtain ⟨m24, A25, c26, rfl, q27⟩ := r21
    refine wv (fun W hm => rv_loadN (cs := [.int .i64 ((gt x0 k9).Kind), .int .i64 ((gt x0 k9).Row.Id), .slice A25 ((gt x0 k9).Row.Values).length c26, .int .i64 ((gt x0 k9).Field), .int .i64 ((gt x0 k9).Value)]) Try.underlying65 Try.type65 rfl rfl (hm.elCells (show (a16.add (k9 * 5)).block < w.heap.size from by rw [add_block]; exact hb17.1) hc19)) ?_
    refine WM_call (χ := List Value) (val := fun x => .agg x.toArray) (js := fun x => [iOwn tyUpdate x (laws_toUpdate_m (gt x0 k9))]) (cl_fn cb44 rfl) (fun W hm => laws_toUpdate_c W _ (gt x0 k9) (tyLUpdate_mk (x := (gt x0 k9)) (hm.rdS0 r28)) (s_0.2 _ (gt_mem (show k9 < x0.length from by omega)))) (Wd_none rfl) (by decide) (fun z29 => ?_)
    refine WM_split (γ := Value) (js := fun g => [iOwn (tSl tInt 3) [g] ((laws_toUpdate_m (gt x0 k9)).Row.Values)]) (C := fun g => z29 = [.int .i64 ((laws_toUpdate_m (gt x0 k9)).Kind), .int .i64 ((laws_toUpdate_m (gt x0 k9)).Row.Id), g, .int .i64 ((laws_toUpdate_m (gt x0 k9)).Field), .int .i64 ((laws_toUpdate_m (gt x0 k9)).Value)]) (fun _ _ h => tyUpdate_split h) ?_
    rintro v30 rfl
    refine WM_form (n := 0) rfl ?_
    rintro A31 c32 rfl m33
    refine wv (fun W hm => rv_index (sz := 5) (k := k9) Try.underlying79 Try.type71 rfl rfl rfl (by omega)) ?_
    refine WM_setEl (E := tyUpdate) (e := 71) (u := .agg #[.int .i64 ((laws_toUpdate_m (gt x0 k9)).Kind), .int .i64 ((laws_toUpdate_m (gt x0 k9)).Row.Id), .slice A31 ((laws_toUpdate_m (gt x0 k9)).Row.Values).length c32, .int .i64 ((laws_toUpdate_m (gt x0 k9)).Field), .int .i64 ((laws_toUpdate_m (gt x0 k9)).Value)]) (k := k9) (p := p7) (n := x0.length) (xs := d10) (eis := [iOwn (tSl tInt 3) [.slice A31 ((laws_toUpdate_m (gt x0 k9)).Row.Values).length c32] ((laws_toUpdate_m (gt x0 k9)).Row.Values)]) (js := []) (yv := (laws_toUpdate_m (gt x0 k9))) (fun W hm => (hm.pick [1, 0] (by decide))) (fun _ _ hs => (tyUpdate_join (x := (laws_toUpdate_m (gt x0 k9))) hs)) rfl Try.type71 rfl (by omega) rfl rfl (Wd_none rfl) ?_
    refine WM_nil ?_
    refine QM_block_normal ?_
    refine QM_then ?_
    refine CM_region ?_
    refine wm ?_
    refine wv (fun W hm => rv_addN (p := k9) (q := 1) rfl rfl (by omega)) ?_
    refine wa ?_
    refine WM_nil ?_
    have hn35 := rng_next (R := (List DUpdate)) (body := (fun k (s : (List DUpdate)) => laws_toUpdateS_b1 x0 k s)) (k := k9) (s := d10) (s' := (d10.set k9 (laws_toUpdate_m (gt x0 k9)))) (show k9 < x0.length from by omega) (show laws_toUpdateS_b1 x0 k9 d10 = Sum.inr (d10.set k9 (laws_toUpdate_m (gt x0 k9))) from by unfold laws_toUpdateS_b1; exact rfl) hF12
    exact QM_round (k9 + 1, (d10.set k9 (laws_toUpdate_m (gt x0 k9))), ()) (subL_cons rfl (subL_cons rfl (subL_cons rfl subL_nil))) (fun W hm => hm) ⟨(by omega), hn35⟩ (show x0.length - (k9 + 1) < x0.length - k9 from by omega)
  · have g15 : (decide (((k9 : Nat) : Int) < ((x0.length : Nat) : Int))) = false := decide_eq_false (by omega)
    refine CM_condF rfl g15 ?_
    refine CM_exit ?_
    refine QM_then_exit ?_
    refine QM_then_exit ?_
    have hE36 : rng (R := (List DUpdate)) (fun k (s : (List DUpdate)) => laws_toUpdateS_b1 x0 k s) (x0.length - 0) 0 (List.replicate x0.length (⟨(0 : Int), (⟨(0 : Int), []⟩ : DRow), (0 : Int), (0 : Int)⟩ : DUpdate)) = Sum.inr d10 := rng_end hl14 hF12
    refine QM_block_hit ?_
    refine QM_then ?_
    refine sr ?_
    refine wm ?_
    refine wa ?_
    refine nt' ?_
    refine CM_ret ?_
    refine QM_r1 rfl (RR_tmp rfl) (fun W hm => ⟨.slice (some ⟨p7, 0, none⟩) x0.length x0.length, ?_, ?_⟩)
    · first | rw [(show laws_toUpdateS_m x0 = d10 from by unfold laws_toUpdateS_m; exact fin_inr hE36 (rfl))] | rfl
    · rw [(show laws_toUpdateS_m x0 = d10 from by unfold laws_toUpdateS_m; exact fin_inr hE36 (rfl))]; exact hm

def spec_l7One_m (x0 : Int) (x1 : (List Int)) (x2 : Int) (x3 : Int) : DVersion :=
  (⟨x0, x1, x2, x3⟩ : DVersion)
set_option maxRecDepth 100000 in
theorem cb129 : Cb Try.prog 129 := ⟨Try.f129, _, Try.func129, rfl, by decide⟩
set_option maxRecDepth 10000 in
set_option maxHeartbeats 4000000 in
theorem spec_l7One_c (w : World) (x0 : Int) (z1 : Value) (x1 : (List Int)) (x2 : Int) (x3 : Int) (r_1 : rdS tInt w w.heap.size z1 x1) (s_1 : x1.length ≤ 68719476736) :
    Calls Try.prog 129 #[.int .i64 x0, z1, .int .i64 x2, .int .i64 x3] w fun e w' => ∃ v : List Value, e = .returned (.agg v.toArray) ∧ Mem w.heap.size w [iOwn tyVersion v (spec_l7One_m x0 x1 x2 x3)] w' := by
  have r5 := r_1
  obtain ⟨m1, A2, c3, rfl, q4⟩ := r_1
  have l6 : x1.length ≤ 68719476736 := s_1
  refine call_enterM (L := [(0, .int .i64 x0), (1, .slice A2 x1.length c3), (2, .int .i64 x2), (3, .int .i64 x3)]) (N := 16) Try.func129 rfl rfl (Nat.le_of_ble_eq_true rfl) (argsL_cons rfl (argsL_cons rfl (argsL_cons rfl (argsL_cons rfl argsL_nil)))) ?_
  refine sr ?_
  refine WM_alloc Try.type102 rfl (Wd_none rfl) (by decide) (fun p7 => ?_)
  refine nt' ?_
  refine sr ?_
  refine wm ?_
  refine WM_build0 (E := tInt) Try.underlying33 Try.type3 (Wd_none rfl) (by decide) (fun p8 => ?_)
  refine wm ?_
  refine WM_appendR (F := tInt) (E := tInt) (e := 3) (v := .slice (some ⟨p8, 0, none⟩) 0 0) (xs := []) (ys := x1) (js := [iBox p7 102 [.int .i64 0, .slice none 0 0, .int .i64 0, .int .i64 0]]) (fun W hm => hm) (fun W hm => src_flat flat_int (hm.rdS0 r5)) Try.underlying33 Try.type3 rfl rfl rfl (Nat.le_of_ble_eq_true rfl) rfl rfl (show ([].length + x1.length) * 8 ≤ 140737488355328 from by first | omega | (simp only [List.length_append, List.length_cons, List.length_nil] at *; omega)) (show [].length + x1.length ≤ 9223372036854775807 from by first | omega | (simp only [List.length_append, List.length_cons, List.length_nil] at *; omega)) (Wd_none rfl) (by decide) (fun v10 => ?_)
  refine WM_form (n := 0) rfl ?_
  rintro A11 c12 rfl m13
  refine wm ?_
  refine wm ?_
  refine wv (fun W hm => rv_build (cs := [.int .i64 x0, .slice A11 x1.length c12, .int .i64 x2, .int .i64 x3]) rfl (by kernel_rfl)) ?_
  refine WM_storeBox (p := p7) (o := 0) (cs := [.int .i64 0, .slice none 0 0, .int .i64 0, .int .i64 0]) (cs' := [.int .i64 x0, .slice A11 x1.length c12, .int .i64 x2, .int .i64 x3]) (js := [iOwn (tSl tInt 3) [.slice A11 x1.length c12] x1]) (fun W hm => (hm.pick [1, 0] (by decide))) Try.type102 rfl (Nat.le_of_ble_eq_true rfl) rfl rfl rfl rfl (Wd_none rfl) ?_
  refine nt' ?_
  refine CM_ret ?_
  refine QM_r1 rfl (RR_cell (n := 0) rfl rfl Try.underlying102 Try.type102 rfl) (fun W hm => ⟨[.int .i64 x0, .slice A11 x1.length c12, .int .i64 x2, .int .i64 x3], ?_, ?_⟩)
  · first | rw [(show spec_l7One_m x0 x1 x2 x3 = (⟨x0, x1, x2, x3⟩ : DVersion) from by unfold spec_l7One_m; exact rfl)] | rfl
  · rw [(show spec_l7One_m x0 x1 x2 x3 = (⟨x0, x1, x2, x3⟩ : DVersion) from by unfold spec_l7One_m; exact rfl)]; exact Mem.join (is := [iOwn (tSl tInt 3) [.slice A11 x1.length c12] x1]) (js := []) (fun _ _ hs => tyVersion_join (x := (⟨x0, x1, x2, x3⟩ : DVersion)) hs) (hm.pick [1] (by decide))

def spec_l7Part_b1 (x0 : (List DVersion)) (k9 : Nat) (d10 : (List DVersion)) : (List DVersion) ⊕ ((List DVersion)) :=
  Sum.inr (d10 ++ [(spec_l7One_m ((gt x0 k9).Id) ((gt x0 k9).Values) ((gt x0 k9).Born) ((gt x0 k9).Died))])
def spec_l7Part_m (x0 : (List DVersion)) : (List DVersion) :=
  Sum.elim id (fun (s : (List DVersion)) => s) (rng (R := (List DVersion)) (fun k (s : (List DVersion)) => spec_l7Part_b1 x0 k s) (x0.length - 0) 0 [])
set_option maxRecDepth 100000 in
theorem cb109 : Cb Try.prog 109 := ⟨Try.f109, _, Try.func109, rfl, by decide⟩
set_option maxRecDepth 10000 in
set_option maxHeartbeats 4000000 in
theorem spec_l7Part_c (w : World) (z0 : Value) (x0 : (List DVersion)) (r_0 : rdS tyVersion w w.heap.size z0 x0) (s_0 : (x0.length ≤ 68719476736 ∧ ∀ y ∈ x0, smVersion 68719476736 y)) :
    Calls Try.prog 109 #[z0] w fun e w' => ∃ v : Value, e = .returned (v) ∧ Mem w.heap.size w [iOwn (tSl tyVersion 102) [v] (spec_l7Part_m x0)] w' := by
  have r5 := r_0
  obtain ⟨m1, A2, c3, rfl, q4⟩ := r_0
  have l6 : x0.length ≤ 68719476736 := s_0.1
  refine call_enterM (L := [(0, .slice A2 x0.length c3)]) (N := 37) Try.func109 rfl rfl (Nat.le_of_ble_eq_true rfl) (argsL_cons rfl argsL_nil) ?_
  refine sr ?_
  refine wa ?_
  refine nt' ?_
  refine sr ?_
  refine WM_build0 (E := tyVersion) Try.underlying100 Try.type102 (Wd_none rfl) (by decide) (fun p7 => ?_)
  refine wa ?_
  refine nt' ?_
  refine CM_seq ?_
  refine sr ?_
  refine wa ?_
  refine nt' ?_
  refine CM_block ?_
  refine CM_loop (σ := Nat × ((List DVersion)) × (Option Addr × Nat)) (fun s => [(0, .slice A2 x0.length c3), (3, .slice s.2.2.1 s.2.1.length s.2.2.2), (4, .int .i64 ((s.1 : Nat) : Int))]) (fun s => [iOwn (tSl tyVersion 102) [.slice s.2.2.1 s.2.1.length s.2.2.2] s.2.1]) (fun s => s.1 ≤ x0.length ∧ rng (R := (List DVersion)) (fun k (s : (List DVersion)) => spec_l7Part_b1 x0 k s) (x0.length - s.1) s.1 s.2.1 = rng (R := (List DVersion)) (fun k (s : (List DVersion)) => spec_l7Part_b1 x0 k s) (x0.length - 0) 0 [] ∧ s.2.1.length ≤ 0 + s.1) (fun s => x0.length - s.1) (0, [], ((some ⟨p7, 0, none⟩), 0)) (subL_cons rfl (subL_cons rfl (subL_cons rfl subL_nil))) (fun W hm => hm) ⟨(by omega), rfl, Nat.le_refl _⟩ ?_
  rintro ⟨k9, d10, ⟨A11, c12⟩⟩ H15
  obtain ⟨hk13, hF14, hi16⟩ : k9 ≤ x0.length ∧ rng (R := (List DVersion)) (fun k (s : (List DVersion)) => spec_l7Part_b1 x0 k s) (x0.length - k9) k9 d10 = rng (R := (List DVersion)) (fun k (s : (List DVersion)) => spec_l7Part_b1 x0 k s) (x0.length - 0) 0 [] ∧ d10.length ≤ 0 + k9 := H15
  show CM Try.prog 37 _ _ _ _ [(0, .slice A2 x0.length c3), (3, .slice A11 d10.length c12), (4, .int .i64 ((k9 : Nat) : Int))] [iOwn (tSl tyVersion 102) [.slice A11 d10.length c12] d10]
  refine CM_seq ?_
  refine sr ?_
  refine wm ?_
  refine wm ?_
  refine wv (fun W hm => rv_len Try.underlying100 rfl) ?_
  refine wv (fun W hm => rv_lss rfl rfl) ?_
  refine nt' ?_
  by_cases hl17 : k9 < x0.length
  · have g18 : (decide (((k9 : Nat) : Int) < ((x0.length : Nat) : Int))) = true := decide_eq_true (by omega)
    refine CM_condT rfl g18 ?_
    refine CM_skip ?_
    refine QM_then ?_
    refine CM_seq ?_
    refine CM_block ?_
    refine CM_regionB (n := 25) (listed := #[false, false, false, false, false, false, false, false, false, false, false, false, false, false, false, false, false, false, false, false, false, false, false, false, false]) (s := []) (by kernel_rfl) rfl (by kernel_rfl) (fun W hm => (hm.pick [] (by decide))) ?_
    refine QB_take 0 (listed' := #[true, false, false, false, false, false, false, false, false, false, false, false, false, false, false, false, false, false, false, false, false, false, false, false, false]) (by kernel_rfl) rfl (by kernel_rfl) (by kernel_rfl) (by kernel_rfl) (fun _ _ _ h => h) (fun W hm => rv_move rfl) (Wd_none rfl) rfl (by decide) ?_
    refine QB_take 1 (listed' := #[true, true, false, false, false, false, false, false, false, false, false, false, false, false, false, false, false, false, false, false, false, false, false, false, false]) (by kernel_rfl) rfl (by kernel_rfl) (by kernel_rfl) (by kernel_rfl) (fun _ _ _ h => h) (fun W hm => rv_move rfl) (Wd_none rfl) rfl (by decide) ?_
    refine QB_take 2 (listed' := #[true, true, true, false, false, false, false, false, false, false, false, false, false, false, false, false, false, false, false, false, false, false, false, false, false]) (by kernel_rfl) rfl (by kernel_rfl) (by kernel_rfl) (by kernel_rfl) (fun _ _ _ h => h) (fun W hm => rv_move rfl) (Wd_none rfl) rfl (by decide) ?_
    obtain ⟨a19, rfl, hb20, he21⟩ := q4 (by omega)
    refine QB_take 3 (listed' := #[true, true, true, true, false, false, false, false, false, false, false, false, false, false, false, false, false, false, false, false, false, false, false, false, false]) (by kernel_rfl) rfl (by kernel_rfl) (by kernel_rfl) (by kernel_rfl) (fun _ _ _ h => h) (fun W hm => rv_index (sz := 4) (k := k9) Try.underlying100 Try.type102 rfl rfl rfl (by omega)) (Wd_none rfl) rfl (by decide) ?_
    refine QB_take 4 (listed' := #[true, true, true, true, true, false, false, false, false, false, false, false, false, false, false, false, false, false, false, false, false, false, false, false, false]) (by kernel_rfl) rfl (by kernel_rfl) (by kernel_rfl) (by kernel_rfl) (fun _ _ _ h => h) (fun W hm => rv_field Try.underlying102 rfl Try.type3 (by decide) rfl rfl) (Wd_none rfl) rfl (by decide) ?_
    obtain ⟨_, e25, hc22⟩ := he21 k9 _ (gt_some (show k9 < x0.length from by omega))
    obtain ⟨v23, rfl, r24⟩ := tyVersion_rd e25
    have l26 : ((gt x0 k9).Values).length ≤ 68719476736 := (s_0.2 _ (gt_mem (show k9 < x0.length from by omega)))
    have r31 := r24
    obtain ⟨m27, A28, c29, rfl, q30⟩ := r24
    refine QB_take 5 (listed' := #[true, true, true, true, true, true, false, false, false, false, false, false, false, false, false, false, false, false, false, false, false, false, false, false, false]) (by kernel_rfl) rfl (by kernel_rfl) (by kernel_rfl) (by kernel_rfl) (fun _ _ _ h => h) (fun W hm => rv_load Try.underlying3 rfl rfl ((hm.cell0 (show ((a19.add (k9 * 4)).add 0).block < w.heap.size from by rw [add_block, add_block]; exact hb20.1)).trans (hc22 0 _ rfl))) (Wd_none rfl) rfl (by decide) ?_
    refine QB_take 6 (listed' := #[true, true, true, true, true, true, true, false, false, false, false, false, false, false, false, false, false, false, false, false, false, false, false, false, false]) (by kernel_rfl) rfl (by kernel_rfl) (by kernel_rfl) (by kernel_rfl) (fun _ _ _ h => h) (fun W hm => rv_move rfl) (Wd_none rfl) rfl (by decide) ?_
    refine QB_take 7 (listed' := #[true, true, true, true, true, true, true, true, false, false, false, false, false, false, false, false, false, false, false, false, false, false, false, false, false]) (by kernel_rfl) rfl (by kernel_rfl) (by kernel_rfl) (by kernel_rfl) (fun _ _ _ h => h) (fun W hm => rv_move rfl) (Wd_none rfl) rfl (by decide) ?_
    refine QB_take 8 (listed' := #[true, true, true, true, true, true, true, true, true, false, false, false, false, false, false, false, false, false, false, false, false, false, false, false, false]) (by kernel_rfl) rfl (by kernel_rfl) (by kernel_rfl) (by kernel_rfl) (fun _ _ _ h => h) (fun W hm => rv_index (sz := 4) (k := k9) Try.underlying100 Try.type102 rfl rfl rfl (by omega)) (Wd_none rfl) rfl (by decide) ?_
    refine QB_take 9 (listed' := #[true, true, true, true, true, true, true, true, true, true, false, false, false, false, false, false, false, false, false, false, false, false, false, false, false]) (by kernel_rfl) rfl (by kernel_rfl) (by kernel_rfl) (by kernel_rfl) (fun _ _ _ h => h) (fun W hm => rv_field Try.underlying102 rfl Try.type33 (by decide) rfl rfl) (Wd_none rfl) rfl (by decide) ?_
    refine QB_take 10 (listed' := #[true, true, true, true, true, true, true, true, true, true, true, false, false, false, false, false, false, false, false, false, false, false, false, false, false]) (by kernel_rfl) rfl (by kernel_rfl) (by kernel_rfl) (by kernel_rfl) (fun _ _ _ h => h) (fun W hm => rv_load Try.underlying33 rfl rfl ((hm.cell0 (show ((a19.add (k9 * 4)).add 1).block < w.heap.size from by rw [add_block, add_block]; exact hb20.1)).trans (hc22 1 _ rfl))) (Wd_none rfl) rfl (by decide) ?_
    refine QB_take 11 (listed' := #[true, true, true, true, true, true, true, true, true, true, true, true, false, false, false, false, false, false, false, false, false, false, false, false, false]) (by kernel_rfl) rfl (by kernel_rfl) (by kernel_rfl) (by kernel_rfl) (fun _ _ _ h => h) (fun W hm => rv_move rfl) (Wd_none rfl) rfl (by decide) ?_
    refine QB_take 12 (listed' := #[true, true, true, true, true, true, true, true, true, true, true, true, true, false, false, false, false, false, false, false, false, false, false, false, false]) (by kernel_rfl) rfl (by kernel_rfl) (by kernel_rfl) (by kernel_rfl) (fun _ _ _ h => h) (fun W hm => rv_move rfl) (Wd_none rfl) rfl (by decide) ?_
    refine QB_take 13 (listed' := #[true, true, true, true, true, true, true, true, true, true, true, true, true, true, false, false, false, false, false, false, false, false, false, false, false]) (by kernel_rfl) rfl (by kernel_rfl) (by kernel_rfl) (by kernel_rfl) (fun _ _ _ h => h) (fun W hm => rv_index (sz := 4) (k := k9) Try.underlying100 Try.type102 rfl rfl rfl (by omega)) (Wd_none rfl) rfl (by decide) ?_
    refine QB_take 14 (listed' := #[true, true, true, true, true, true, true, true, true, true, true, true, true, true, true, false, false, false, false, false, false, false, false, false, false]) (by kernel_rfl) rfl (by kernel_rfl) (by kernel_rfl) (by kernel_rfl) (fun _ _ _ h => h) (fun W hm => rv_field Try.underlying102 rfl Try.type3 (by decide) rfl rfl) (Wd_none rfl) rfl (by decide) ?_
    refine QB_take 15 (listed' := #[true, true, true, true, true, true, true, true, true, true, true, true, true, true, true, true, false, false, false, false, false, false, false, false, false]) (by kernel_rfl) rfl (by kernel_rfl) (by kernel_rfl) (by kernel_rfl) (fun _ _ _ h => h) (fun W hm => rv_load Try.underlying3 rfl rfl ((hm.cell0 (show ((a19.add (k9 * 4)).add 2).block < w.heap.size from by rw [add_block, add_block]; exact hb20.1)).trans (hc22 2 _ rfl))) (Wd_none rfl) rfl (by decide) ?_
    refine QB_take 16 (listed' := #[true, true, true, true, true, true, true, true, true, true, true, true, true, true, true, true, true, false, false, false, false, false, false, false, false]) (by kernel_rfl) rfl (by kernel_rfl) (by kernel_rfl) (by kernel_rfl) (fun _ _ _ h => h) (fun W hm => rv_move rfl) (Wd_none rfl) rfl (by decide) ?_
    refine QB_take 17 (listed' := #[true, true, true, true, true, true, true, true, true, true, true, true, true, true, true, true, true, true, false, false, false, false, false, false, false]) (by kernel_rfl) rfl (by kernel_rfl) (by kernel_rfl) (by kernel_rfl) (fun _ _ _ h => h) (fun W hm => rv_move rfl) (Wd_none rfl) rfl (by decide) ?_
    refine QB_take 18 (listed' := #[true, true, true, true, true, true, true, true, true, true, true, true, true, true, true, true, true, true, true, false, false, false, false, false, false]) (by kernel_rfl) rfl (by kernel_rfl) (by kernel_rfl) (by kernel_rfl) (fun _ _ _ h => h) (fun W hm => rv_index (sz := 4) (k := k9) Try.underlying100 Try.type102 rfl rfl rfl (by omega)) (Wd_none rfl) rfl (by decide) ?_
    refine QB_take 19 (listed' := #[true, true, true, true, true, true, true, true, true, true, true, true, true, true, true, true, true, true, true, true, false, false, false, false, false]) (by kernel_rfl) rfl (by kernel_rfl) (by kernel_rfl) (by kernel_rfl) (fun _ _ _ h => h) (fun W hm => rv_field Try.underlying102 rfl Try.type3 (by decide) rfl rfl) (Wd_none rfl) rfl (by decide) ?_
    refine QB_take 20 (listed' := #[true, true, true, true, true, true, true, true, true, true, true, true, true, true, true, true, true, true, true, true, true, false, false, false, false]) (by kernel_rfl) rfl (by kernel_rfl) (by kernel_rfl) (by kernel_rfl) (fun _ _ _ h => h) (fun W hm => rv_load Try.underlying3 rfl rfl ((hm.cell0 (show ((a19.add (k9 * 4)).add 3).block < w.heap.size from by rw [add_block, add_block]; exact hb20.1)).trans (hc22 3 _ rfl))) (Wd_none rfl) rfl (by decide) ?_
    refine QB_one 21 (listed' := #[true, true, true, true, true, true, true, true, true, true, true, true, true, true, true, true, true, true, true, true, true, true, false, false, false]) (by kernel_rfl) rfl (by kernel_rfl) ?_
    refine WM_call (χ := List Value) (val := fun x => .agg x.toArray) (js := fun x => [iOwn tyVersion x (spec_l7One_m ((gt x0 k9).Id) ((gt x0 k9).Values) ((gt x0 k9).Born) ((gt x0 k9).Died))]) (cl_fn cb129 rfl) (fun W hm => spec_l7One_c W ((gt x0 k9).Id) _ ((gt x0 k9).Values) ((gt x0 k9).Born) ((gt x0 k9).Died) (hm.rdS0 r31) (s_0.2 _ (gt_mem (show k9 < x0.length from by omega)))) (Wd_none rfl) (by decide) (fun z32 => ?_)
    refine WM_split (γ := Value) (js := fun g => [iOwn (tSl tInt 3) [g] ((spec_l7One_m ((gt x0 k9).Id) ((gt x0 k9).Values) ((gt x0 k9).Born) ((gt x0 k9).Died)).Values)]) (C := fun g => z32 = [.int .i64 ((spec_l7One_m ((gt x0 k9).Id) ((gt x0 k9).Values) ((gt x0 k9).Born) ((gt x0 k9).Died)).Id), g, .int .i64 ((spec_l7One_m ((gt x0 k9).Id) ((gt x0 k9).Values) ((gt x0 k9).Born) ((gt x0 k9).Died)).Born), .int .i64 ((spec_l7One_m ((gt x0 k9).Id) ((gt x0 k9).Values) ((gt x0 k9).Born) ((gt x0 k9).Died)).Died)]) (fun _ _ h => tyVersion_split h) ?_
    rintro v33 rfl
    refine WM_form (n := 0) rfl ?_
    rintro A34 c35 rfl m36
    refine WM_nil ?_
    refine QB_next (fun W hm => (hm.pick [] (by decide))) ?_
    refine QB_one 22 (listed' := #[true, true, true, true, true, true, true, true, true, true, true, true, true, true, true, true, true, true, true, true, true, true, true, false, false]) (by kernel_rfl) rfl (by kernel_rfl) ?_
    refine WM_build (cs := [.int .i64 ((spec_l7One_m ((gt x0 k9).Id) ((gt x0 k9).Values) ((gt x0 k9).Born) ((gt x0 k9).Died)).Id), .slice A34 ((spec_l7One_m ((gt x0 k9).Id) ((gt x0 k9).Values) ((gt x0 k9).Born) ((gt x0 k9).Died)).Values).length c35, .int .i64 ((spec_l7One_m ((gt x0 k9).Id) ((gt x0 k9).Values) ((gt x0 k9).Born) ((gt x0 k9).Died)).Born), .int .i64 ((spec_l7One_m ((gt x0 k9).Id) ((gt x0 k9).Values) ((gt x0 k9).Born) ((gt x0 k9).Died)).Died)]) Try.underlying100 Try.type102 rfl (by decide) (by decide) rfl (by kernel_rfl) (Wd_none rfl) (by decide) (fun p38 => ?_)
    refine WM_nil ?_
    refine QB_next (fun W hm => (hm.pick [] (by decide))) ?_
    refine QB_one 23 (listed' := #[true, true, true, true, true, true, true, true, true, true, true, true, true, true, true, true, true, true, true, true, true, true, true, true, false]) (by kernel_rfl) rfl (by kernel_rfl) ?_
    refine WM_append (E := tyVersion) (e := 102) (v := .slice A11 d10.length c12) (p := p38) (q := 1) (xs := d10) (ys := [(spec_l7One_m ((gt x0 k9).Id) ((gt x0 k9).Values) ((gt x0 k9).Born) ((gt x0 k9).Died))]) (eis := [iOwn (tSl tInt 3) [.slice A34 ((spec_l7One_m ((gt x0 k9).Id) ((gt x0 k9).Values) ((gt x0 k9).Born) ((gt x0 k9).Died)).Values).length c35] ((spec_l7One_m ((gt x0 k9).Id) ((gt x0 k9).Values) ((gt x0 k9).Born) ((gt x0 k9).Died)).Values)]) (js := []) (news := [.int .i64 ((spec_l7One_m ((gt x0 k9).Id) ((gt x0 k9).Values) ((gt x0 k9).Born) ((gt x0 k9).Died)).Id), .slice A34 ((spec_l7One_m ((gt x0 k9).Id) ((gt x0 k9).Values) ((gt x0 k9).Born) ((gt x0 k9).Died)).Values).length c35, .int .i64 ((spec_l7One_m ((gt x0 k9).Id) ((gt x0 k9).Values) ((gt x0 k9).Born) ((gt x0 k9).Died)).Born), .int .i64 ((spec_l7One_m ((gt x0 k9).Id) ((gt x0 k9).Values) ((gt x0 k9).Born) ((gt x0 k9).Died)).Died)]) (fun W hm => (hm.pick [0, 2, 1] (by decide))) (fun _ _ hs => Els.single (tyVersion_join (x := (spec_l7One_m ((gt x0 k9).Id) ((gt x0 k9).Values) ((gt x0 k9).Born) ((gt x0 k9).Died))) hs)) Try.underlying100 Try.type102 rfl rfl rfl (Nat.le_of_ble_eq_true rfl) rfl rfl rfl (show (d10.length + 1) * 48 ≤ 140737488355328 from by omega) (show d10.length + 1 ≤ 9223372036854775807 from by omega) (Wd_none rfl) (by decide) (fun v39 => ?_)
    refine WM_form (n := 0) rfl ?_
    rintro A40 c41 rfl m42
    refine WM_nil ?_
    refine QB_next (fun W hm => (hm.pick [] (by decide))) ?_
    refine QB_take 24 (listed' := #[true, true, true, true, true, true, true, true, true, true, true, true, true, true, true, true, true, true, true, true, true, true, true, true, true]) (by kernel_rfl) rfl (by kernel_rfl) (by kernel_rfl) (by kernel_rfl) (fun _ _ _ h => h) (fun W hm => rv_assign rfl) (Wd_none rfl) rfl (by decide) ?_
    refine QB_done (by kernel_rfl) ?_
    refine QM_block_normal ?_
    refine QM_then ?_
    refine CM_region ?_
    refine wm ?_
    refine wv (fun W hm => rv_addN (p := k9) (q := 1) rfl rfl (by omega)) ?_
    refine wa ?_
    refine WM_nil ?_
    have hn44 := rng_next (R := (List DVersion)) (body := (fun k (s : (List DVersion)) => spec_l7Part_b1 x0 k s)) (k := k9) (s := d10) (s' := (d10 ++ [(spec_l7One_m ((gt x0 k9).Id) ((gt x0 k9).Values) ((gt x0 k9).Born) ((gt x0 k9).Died))])) (show k9 < x0.length from by omega) (show spec_l7Part_b1 x0 k9 d10 = Sum.inr (d10 ++ [(spec_l7One_m ((gt x0 k9).Id) ((gt x0 k9).Values) ((gt x0 k9).Born) ((gt x0 k9).Died))]) from by unfold spec_l7Part_b1; exact rfl) hF14
    exact QM_round (k9 + 1, (d10 ++ [(spec_l7One_m ((gt x0 k9).Id) ((gt x0 k9).Values) ((gt x0 k9).Born) ((gt x0 k9).Died))]), (A40, c41)) (subL_cons rfl (subL_cons rfl (subL_cons rfl subL_nil))) (fun W hm => hm) ⟨(by omega), hn44, (show (d10 ++ [(spec_l7One_m ((gt x0 k9).Id) ((gt x0 k9).Values) ((gt x0 k9).Born) ((gt x0 k9).Died))]).length ≤ 0 + (k9 + 1) from by first | omega | (simp only [List.length_append, List.length_cons, List.length_nil] at *; omega))⟩ (show x0.length - (k9 + 1) < x0.length - k9 from by omega)
  · have g18 : (decide (((k9 : Nat) : Int) < ((x0.length : Nat) : Int))) = false := decide_eq_false (by omega)
    refine CM_condF rfl g18 ?_
    refine CM_exit ?_
    refine QM_then_exit ?_
    refine QM_then_exit ?_
    have hE45 : rng (R := (List DVersion)) (fun k (s : (List DVersion)) => spec_l7Part_b1 x0 k s) (x0.length - 0) 0 [] = Sum.inr d10 := rng_end hl17 hF14
    refine QM_block_hit ?_
    refine QM_then ?_
    refine sr ?_
    refine wm ?_
    refine wa ?_
    refine nt' ?_
    refine CM_ret ?_
    refine QM_r1 rfl (RR_tmp rfl) (fun W hm => ⟨.slice A11 d10.length c12, ?_, ?_⟩)
    · first | rw [(show spec_l7Part_m x0 = d10 from by unfold spec_l7Part_m; exact fin_inr hE45 (rfl))] | rfl
    · rw [(show spec_l7Part_m x0 = d10 from by unfold spec_l7Part_m; exact fin_inr hE45 (rfl))]; exact hm
theorem spec_l7Part_eq (x0 : (List DVersion)) : spec_l7Part_m x0 = x0 := by
  unfold spec_l7Part_m; rw [rng_app (xs := x0) (b := fun k s => spec_l7Part_b1 x0 k s) (fun _ _ => rfl)]; rfl
theorem spec_l7Part_c2 (w : World) (z0 : Value) (x0 : (List DVersion)) (r_0 : rdS tyVersion w w.heap.size z0 x0) (s_0 : (x0.length ≤ 68719476736 ∧ ∀ y ∈ x0, smVersion 68719476736 y)) :
    Calls Try.prog 109 #[z0] w fun e w' => ∃ v : Value, e = .returned (v) ∧ Mem w.heap.size w [iOwn (tSl tyVersion 102) [v] x0] w' := by
  have h := spec_l7Part_c w z0 x0 r_0 s_0
  rw [spec_l7Part_eq] at h
  exact h

def spec_l7Copy_b1 (x0 : DStore) (k12 : Nat) (d15 : (List (List DVersion))) : DStore ⊕ ((List (List DVersion))) :=
  Sum.inr (d15 ++ [(gt x0.Segments k12)])
def spec_l7Copy_m (x0 : DStore) : DStore :=
  Sum.elim id (fun (s : (List (List DVersion))) => (⟨s, x0.Now⟩ : DStore)) (rng (R := DStore) (fun k (s : (List (List DVersion))) => spec_l7Copy_b1 x0 k s) (x0.Segments.length - 0) 0 [])
set_option maxRecDepth 100000 in
theorem cb68 : Cb Try.prog 68 := ⟨Try.f68, _, Try.func68, rfl, by decide⟩
set_option maxRecDepth 10000 in
set_option maxHeartbeats 4000000 in
theorem spec_l7Copy_c (w : World) (z0 : List Value) (x0 : DStore) (r_0 : tyStore.rd w w.heap.size z0 x0) (s_0 : smStore 68719476736 x0) :
    Calls Try.prog 68 #[.agg z0.toArray] w fun e w' => ∃ v : List Value, e = .returned (.agg v.toArray) ∧ Mem w.heap.size w [iOwn tyStore v (spec_l7Copy_m x0)] w' := by
  obtain ⟨v1, rfl, r2⟩ := tyStore_rd r_0
  have r7 := r2
  obtain ⟨m3, A4, c5, rfl, q6⟩ := r2
  have l8 : x0.Segments.length ≤ 68719476736 := s_0.1
  refine call_enterM (L := [(0, .agg #[.slice A4 x0.Segments.length c5, .int .i64 x0.Now])]) (N := 27) Try.func68 rfl rfl (Nat.le_of_ble_eq_true rfl) (argsL_cons rfl argsL_nil) ?_
  refine sr ?_
  refine WM_box rfl (Wd_none rfl) (by decide) (fun p9 => ?_)
  refine WM_alloc Try.type45 rfl (Wd_none rfl) (by decide) (fun p10 => ?_)
  refine nt' ?_
  refine sr ?_
  refine wv (fun W hm => rv_field Try.underlying45 rfl Try.type3 (by decide) rfl rfl) ?_
  refine wv (fun W hm => rv_load Try.underlying3 rfl rfl (hm.boxCell (n := 1) (o := 1) rfl rfl)) ?_
  refine wv (fun W hm => rv_build (cs := [.slice none 0 0, .int .i64 x0.Now]) rfl (by kernel_rfl)) ?_
  refine WM_alloc Try.type45 rfl (Wd_none rfl) (by decide) (fun p11 => ?_)
  refine WM_storeBox (p := p11) (o := 0) (cs := [.slice none 0 0, .int .i64 0]) (cs' := [.slice none 0 0, .int .i64 x0.Now]) (js := [iBox p10 45 [.slice none 0 0, .int .i64 0], iBox p9 45 [.slice A4 x0.Segments.length c5, .int .i64 x0.Now]]) (fun W hm => hm) Try.type45 rfl (Nat.le_of_ble_eq_true rfl) rfl rfl rfl rfl (Wd_none rfl) ?_
  refine nt' ?_
  refine CM_seq ?_
  refine sr ?_
  refine wa ?_
  refine nt' ?_
  refine CM_block ?_
  refine CM_items (fun W hm => (hm.addNil (E := (tSl tyVersion 102)) (e := 100)).last) ?_
  refine CM_loop (σ := Nat × ((List (List DVersion))) × (Option Addr × Nat)) (fun s => [(1, .pointer (some (⟨p9, 0, none⟩ : Addr))), (2, .pointer (some (⟨p10, 0, none⟩ : Addr))), (3, .pointer (some (⟨p11, 0, none⟩ : Addr))), (4, .int .i64 ((s.1 : Nat) : Int))]) (fun s => [iBox p11 45 [.slice s.2.2.1 s.2.1.length s.2.2.2, .int .i64 x0.Now], iBox p10 45 [.slice none 0 0, .int .i64 0], iBox p9 45 [.slice A4 x0.Segments.length c5, .int .i64 x0.Now], iOwn (tSl (tSl tyVersion 102) 100) [.slice s.2.2.1 s.2.1.length s.2.2.2] s.2.1]) (fun s => s.1 ≤ x0.Segments.length ∧ rng (R := DStore) (fun k (s : (List (List DVersion))) => spec_l7Copy_b1 x0 k s) (x0.Segments.length - s.1) s.1 s.2.1 = rng (R := DStore) (fun k (s : (List (List DVersion))) => spec_l7Copy_b1 x0 k s) (x0.Segments.length - 0) 0 [] ∧ s.2.1.length ≤ 0 + s.1) (fun s => x0.Segments.length - s.1) (0, [], (none, 0)) (subL_cons rfl (subL_cons rfl (subL_cons rfl (subL_cons rfl subL_nil)))) (fun W hm => hm) ⟨(by omega), rfl, Nat.le_refl _⟩ ?_
  rintro ⟨k12, d15, ⟨A16, c17⟩⟩ H20
  obtain ⟨hk18, hF19, hi21⟩ : k12 ≤ x0.Segments.length ∧ rng (R := DStore) (fun k (s : (List (List DVersion))) => spec_l7Copy_b1 x0 k s) (x0.Segments.length - k12) k12 d15 = rng (R := DStore) (fun k (s : (List (List DVersion))) => spec_l7Copy_b1 x0 k s) (x0.Segments.length - 0) 0 [] ∧ d15.length ≤ 0 + k12 := H20
  show CM Try.prog 27 _ _ _ _ [(1, .pointer (some (⟨p9, 0, none⟩ : Addr))), (2, .pointer (some (⟨p10, 0, none⟩ : Addr))), (3, .pointer (some (⟨p11, 0, none⟩ : Addr))), (4, .int .i64 ((k12 : Nat) : Int))] [iBox p11 45 [.slice A16 d15.length c17, .int .i64 x0.Now], iBox p10 45 [.slice none 0 0, .int .i64 0], iBox p9 45 [.slice A4 x0.Segments.length c5, .int .i64 x0.Now], iOwn (tSl (tSl tyVersion 102) 100) [.slice A16 d15.length c17] d15]
  refine CM_seq ?_
  refine sr ?_
  refine wm ?_
  refine wv (fun W hm => rv_field Try.underlying45 rfl Try.type43 (by decide) rfl rfl) ?_
  refine wv (fun W hm => rv_load Try.underlying43 rfl rfl (hm.boxCell (n := 2) (o := 0) rfl rfl)) ?_
  refine wv (fun W hm => rv_len Try.underlying43 rfl) ?_
  refine wv (fun W hm => rv_lss rfl rfl) ?_
  refine nt' ?_
  by_cases hl22 : k12 < x0.Segments.length
  · have g23 : (decide (((k12 : Nat) : Int) < ((x0.Segments.length : Nat) : Int))) = true := decide_eq_true (by omega)
    refine CM_condT rfl g23 ?_
    refine CM_skip ?_
    refine QM_then ?_
    refine CM_seq ?_
    refine CM_block ?_
    obtain ⟨a24, rfl, hb25, he26⟩ := q6 (by omega)
    obtain ⟨_, e28, hc27⟩ := he26 k12 _ (gt_some (show k12 < x0.Segments.length from by omega))
    have l29 : (gt x0.Segments k12).length ≤ 68719476736 := (s_0.2 _ (gt_mem (show k12 < x0.Segments.length from by omega))).1
    obtain ⟨v30, rfl, r31⟩ := e28
    have r36 := r31
    obtain ⟨m32, A33, c34, rfl, q35⟩ := r31
    refine CM_cut (σ := Option Addr × Nat) (fun s => [(1, .pointer (some (⟨p9, 0, none⟩ : Addr))), (2, .pointer (some (⟨p10, 0, none⟩ : Addr))), (3, .pointer (some (⟨p11, 0, none⟩ : Addr))), (4, .int .i64 ((k12 : Nat) : Int))]) (fun s => [iBox p11 45 [.slice s.1 (d15 ++ [(gt x0.Segments k12)]).length s.2, .int .i64 x0.Now], iOwn (tSl (tSl tyVersion 102) 100) [.slice s.1 (d15 ++ [(gt x0.Segments k12)]).length s.2] (d15 ++ [(gt x0.Segments k12)]), iBox p10 45 [.slice none 0 0, .int .i64 0], iBox p9 45 [.slice (some a24) x0.Segments.length c5, .int .i64 x0.Now]]) (fun _ => True) ?_ ?_
    ·
      refine CM_regionB (n := 12) (listed := #[false, false, false, false, false, false, false, false, false, false, false, false]) (s := [iBox p10 45 [.slice none 0 0, .int .i64 0]]) (by kernel_rfl) rfl (by kernel_rfl) (fun W hm => (hm.pick [1] (by decide))) ?_
      refine QB_take 0 (listed' := #[true, false, false, false, false, false, false, false, false, false, false, false]) (by kernel_rfl) rfl (by kernel_rfl) (by kernel_rfl) (by kernel_rfl) (fun _ _ _ h => h) (fun W hm => rv_field Try.underlying45 rfl Try.type43 (by decide) rfl rfl) (Wd_none rfl) rfl (by decide) ?_
      refine QB_take 2 (listed' := #[true, false, true, false, false, false, false, false, false, false, false, false]) (by kernel_rfl) rfl (by kernel_rfl) (by kernel_rfl) (by kernel_rfl) (fun _ _ _ h => h) (fun W hm => rv_field Try.underlying45 rfl Try.type43 (by decide) rfl rfl) (Wd_none rfl) rfl (by decide) ?_
      refine QB_take 4 (listed' := #[true, false, true, false, true, false, false, false, false, false, false, false]) (by kernel_rfl) rfl (by kernel_rfl) (by kernel_rfl) (by kernel_rfl) (fun _ _ _ h => h) (fun W hm => rv_move rfl) (Wd_none rfl) rfl (by decide) ?_
      refine QB_all [1, 3] (by kernel_rfl) (by decide) ?_
      refine QBs_cons (listed' := #[true, true, true, false, true, false, false, false, false, false, false, false]) (by kernel_rfl) rfl ?_ ?_
      ·
        refine wv (fun W hm => rv_load Try.underlying43 rfl rfl (hm.boxCell (n := 0) (o := 0) rfl rfl)) ?_
        refine WM_nil ?_
        refine QB_next (fun W hm => (hm.pick [1] (by decide))) ?_
        refine QB_one 3 (listed' := #[true, true, true, true, true, false, false, false, false, false, false, false]) (by kernel_rfl) rfl (by kernel_rfl) ?_
        refine wv (fun W hm => rv_load Try.underlying43 rfl rfl (hm.boxCell (n := 2) (o := 0) rfl rfl)) ?_
        refine WM_nil ?_
        refine QB_next (fun W hm => (hm.pick [1] (by decide))) ?_
        refine QB_take 5 (listed' := #[true, true, true, true, true, true, false, false, false, false, false, false]) (by kernel_rfl) rfl (by kernel_rfl) (by kernel_rfl) (by kernel_rfl) (fun _ _ _ h => h) (fun W hm => rv_index (sz := 1) (k := k12) Try.underlying43 Try.type100 rfl rfl rfl (by omega)) (Wd_none rfl) rfl (by decide) ?_
        refine QB_take 6 (listed' := #[true, true, true, true, true, true, true, false, false, false, false, false]) (by kernel_rfl) rfl (by kernel_rfl) (by kernel_rfl) (by kernel_rfl) (fun _ _ _ h => h) (fun W hm => rv_load Try.underlying100 rfl rfl ((hm.cell0 (show (a24.add (k12 * 1)).block < w.heap.size from by rw [add_block]; exact hb25.1)).trans (hc27 0 _ rfl))) (Wd_none rfl) rfl (by decide) ?_
        refine QB_one 7 (listed' := #[true, true, true, true, true, true, true, true, false, false, false, false]) (by kernel_rfl) rfl (by kernel_rfl) ?_
        refine WM_call (χ := Value) (val := fun x => x) (js := fun x => [iOwn (tSl tyVersion 102) [x] (gt x0.Segments k12)]) (cl_fn cb109 rfl) (fun W hm => spec_l7Part_c2 W _ (gt x0.Segments k12) (hm.rdS0 r36) (s_0.2 _ (gt_mem (show k12 < x0.Segments.length from by omega)))) (Wd_none rfl) (by decide) (fun z48 => ?_)
        refine WM_form (n := 0) rfl ?_
        rintro A49 c50 rfl m51
        refine WM_nil ?_
        refine QB_next (fun W hm => (hm.pick [2] (by decide))) ?_
        refine QB_one 8 (listed' := #[true, true, true, true, true, true, true, true, true, false, false, false]) (by kernel_rfl) rfl (by kernel_rfl) ?_
        refine WM_build (cs := [.slice A49 (gt x0.Segments k12).length c50]) Try.underlying43 Try.type100 rfl (by decide) (by decide) rfl (by kernel_rfl) (Wd_none rfl) (by decide) (fun p53 => ?_)
        refine WM_nil ?_
        refine QB_next (fun W hm => (hm.pick [3] (by decide))) ?_
        refine QB_one 9 (listed' := #[true, true, true, true, true, true, true, true, true, true, false, false]) (by kernel_rfl) rfl (by kernel_rfl) ?_
        refine WM_append (E := (tSl tyVersion 102)) (e := 100) (v := .slice A16 d15.length c17) (p := p53) (q := 1) (xs := d15) (ys := [(gt x0.Segments k12)]) (eis := [iOwn (tSl tyVersion 102) [.slice A49 (gt x0.Segments k12).length c50] (gt x0.Segments k12)]) (js := [iBox p11 45 [.slice A16 d15.length c17, .int .i64 x0.Now], iBox p10 45 [.slice none 0 0, .int .i64 0], iBox p9 45 [.slice (some a24) x0.Segments.length c5, .int .i64 x0.Now]]) (news := [.slice A49 (gt x0.Segments k12).length c50]) (fun W hm => (hm.pick [0, 5, 1, 2, 3, 4] (by decide))) (fun _ _ hs => Els.single (Sep.one hs)) Try.underlying43 Try.type100 rfl rfl rfl (Nat.le_of_ble_eq_true rfl) rfl rfl rfl (show (d15.length + 1) * 24 ≤ 140737488355328 from by omega) (show d15.length + 1 ≤ 9223372036854775807 from by omega) (Wd_none rfl) (by decide) (fun v54 => ?_)
        refine WM_form (n := 0) rfl ?_
        rintro A55 c56 rfl m57
        refine WM_nil ?_
        refine QB_next (fun W hm => (hm.pick [2] (by decide))) ?_
        refine QB_take 10 (listed' := #[true, true, true, true, true, true, true, true, true, true, true, false]) (by kernel_rfl) rfl (by kernel_rfl) (by kernel_rfl) (by kernel_rfl) (fun _ _ _ h => h) (fun W hm => rv_field Try.underlying45 rfl Try.type43 (by decide) rfl rfl) (Wd_none rfl) rfl (by decide) ?_
        refine QB_one 11 (listed' := #[true, true, true, true, true, true, true, true, true, true, true, true]) (by kernel_rfl) rfl (by kernel_rfl) ?_
        refine WM_storeBox (p := p11) (o := 0) (cs := [.slice A16 d15.length c17, .int .i64 x0.Now]) (cs' := [.slice A55 (d15 ++ [(gt x0.Segments k12)]).length c56, .int .i64 x0.Now]) (js := [iOwn (tSl (tSl tyVersion 102) 100) [.slice A55 (d15 ++ [(gt x0.Segments k12)]).length c56] (d15 ++ [(gt x0.Segments k12)]), iBox p10 45 [.slice none 0 0, .int .i64 0], iBox p9 45 [.slice (some a24) x0.Segments.length c5, .int .i64 x0.Now]]) (fun W hm => (hm.pick [1, 0, 2, 3] (by decide))) Try.type43 rfl (Nat.le_of_ble_eq_true rfl) rfl rfl rfl rfl (Wd_none rfl) ?_
        refine WM_nil ?_
        refine QB_next (fun W hm => (hm.pick [2] (by decide))) ?_
        refine QB_done (by kernel_rfl) ?_
        exact QM_cut_normal (A55, c56) (subL_cons rfl (subL_cons rfl (subL_cons rfl (subL_cons rfl subL_nil)))) (fun W hm => hm) trivial
      refine QBs_cons (listed' := #[true, false, true, true, true, false, false, false, false, false, false, false]) (by kernel_rfl) rfl ?_ ?_
      ·
        refine wv (fun W hm => rv_load Try.underlying43 rfl rfl (hm.boxCell (n := 2) (o := 0) rfl rfl)) ?_
        refine WM_nil ?_
        refine QB_next (fun W hm => (hm.pick [1] (by decide))) ?_
        refine QB_take 5 (listed' := #[true, false, true, true, true, true, false, false, false, false, false, false]) (by kernel_rfl) rfl (by kernel_rfl) (by kernel_rfl) (by kernel_rfl) (fun _ _ _ h => h) (fun W hm => rv_index (sz := 1) (k := k12) Try.underlying43 Try.type100 rfl rfl rfl (by omega)) (Wd_none rfl) rfl (by decide) ?_
        refine QB_take 6 (listed' := #[true, false, true, true, true, true, true, false, false, false, false, false]) (by kernel_rfl) rfl (by kernel_rfl) (by kernel_rfl) (by kernel_rfl) (fun _ _ _ h => h) (fun W hm => rv_load Try.underlying100 rfl rfl ((hm.cell0 (show (a24.add (k12 * 1)).block < w.heap.size from by rw [add_block]; exact hb25.1)).trans (hc27 0 _ rfl))) (Wd_none rfl) rfl (by decide) ?_
        refine QB_all [1, 7] (by kernel_rfl) (by decide) ?_
        refine QBs_cons (listed' := #[true, true, true, true, true, true, true, false, false, false, false, false]) (by kernel_rfl) rfl ?_ ?_
        ·
          refine wv (fun W hm => rv_load Try.underlying43 rfl rfl (hm.boxCell (n := 0) (o := 0) rfl rfl)) ?_
          refine WM_nil ?_
          refine QB_next (fun W hm => (hm.pick [1] (by decide))) ?_
          refine QB_one 7 (listed' := #[true, true, true, true, true, true, true, true, false, false, false, false]) (by kernel_rfl) rfl (by kernel_rfl) ?_
          refine WM_call (χ := Value) (val := fun x => x) (js := fun x => [iOwn (tSl tyVersion 102) [x] (gt x0.Segments k12)]) (cl_fn cb109 rfl) (fun W hm => spec_l7Part_c2 W _ (gt x0.Segments k12) (hm.rdS0 r36) (s_0.2 _ (gt_mem (show k12 < x0.Segments.length from by omega)))) (Wd_none rfl) (by decide) (fun z59 => ?_)
          refine WM_form (n := 0) rfl ?_
          rintro A60 c61 rfl m62
          refine WM_nil ?_
          refine QB_next (fun W hm => (hm.pick [2] (by decide))) ?_
          refine QB_one 8 (listed' := #[true, true, true, true, true, true, true, true, true, false, false, false]) (by kernel_rfl) rfl (by kernel_rfl) ?_
          refine WM_build (cs := [.slice A60 (gt x0.Segments k12).length c61]) Try.underlying43 Try.type100 rfl (by decide) (by decide) rfl (by kernel_rfl) (Wd_none rfl) (by decide) (fun p64 => ?_)
          refine WM_nil ?_
          refine QB_next (fun W hm => (hm.pick [3] (by decide))) ?_
          refine QB_one 9 (listed' := #[true, true, true, true, true, true, true, true, true, true, false, false]) (by kernel_rfl) rfl (by kernel_rfl) ?_
          refine WM_append (E := (tSl tyVersion 102)) (e := 100) (v := .slice A16 d15.length c17) (p := p64) (q := 1) (xs := d15) (ys := [(gt x0.Segments k12)]) (eis := [iOwn (tSl tyVersion 102) [.slice A60 (gt x0.Segments k12).length c61] (gt x0.Segments k12)]) (js := [iBox p11 45 [.slice A16 d15.length c17, .int .i64 x0.Now], iBox p10 45 [.slice none 0 0, .int .i64 0], iBox p9 45 [.slice (some a24) x0.Segments.length c5, .int .i64 x0.Now]]) (news := [.slice A60 (gt x0.Segments k12).length c61]) (fun W hm => (hm.pick [0, 5, 1, 2, 3, 4] (by decide))) (fun _ _ hs => Els.single (Sep.one hs)) Try.underlying43 Try.type100 rfl rfl rfl (Nat.le_of_ble_eq_true rfl) rfl rfl rfl (show (d15.length + 1) * 24 ≤ 140737488355328 from by omega) (show d15.length + 1 ≤ 9223372036854775807 from by omega) (Wd_none rfl) (by decide) (fun v65 => ?_)
          refine WM_form (n := 0) rfl ?_
          rintro A66 c67 rfl m68
          refine WM_nil ?_
          refine QB_next (fun W hm => (hm.pick [2] (by decide))) ?_
          refine QB_take 10 (listed' := #[true, true, true, true, true, true, true, true, true, true, true, false]) (by kernel_rfl) rfl (by kernel_rfl) (by kernel_rfl) (by kernel_rfl) (fun _ _ _ h => h) (fun W hm => rv_field Try.underlying45 rfl Try.type43 (by decide) rfl rfl) (Wd_none rfl) rfl (by decide) ?_
          refine QB_one 11 (listed' := #[true, true, true, true, true, true, true, true, true, true, true, true]) (by kernel_rfl) rfl (by kernel_rfl) ?_
          refine WM_storeBox (p := p11) (o := 0) (cs := [.slice A16 d15.length c17, .int .i64 x0.Now]) (cs' := [.slice A66 (d15 ++ [(gt x0.Segments k12)]).length c67, .int .i64 x0.Now]) (js := [iOwn (tSl (tSl tyVersion 102) 100) [.slice A66 (d15 ++ [(gt x0.Segments k12)]).length c67] (d15 ++ [(gt x0.Segments k12)]), iBox p10 45 [.slice none 0 0, .int .i64 0], iBox p9 45 [.slice (some a24) x0.Segments.length c5, .int .i64 x0.Now]]) (fun W hm => (hm.pick [1, 0, 2, 3] (by decide))) Try.type43 rfl (Nat.le_of_ble_eq_true rfl) rfl rfl rfl rfl (Wd_none rfl) ?_
          refine WM_nil ?_
          refine QB_next (fun W hm => (hm.pick [2] (by decide))) ?_
          refine QB_done (by kernel_rfl) ?_
          exact QM_cut_normal (A66, c67) (subL_cons rfl (subL_cons rfl (subL_cons rfl (subL_cons rfl subL_nil)))) (fun W hm => hm) trivial
        refine QBs_cons (listed' := #[true, false, true, true, true, true, true, true, false, false, false, false]) (by kernel_rfl) rfl ?_ ?_
        ·
          refine WM_call (χ := Value) (val := fun x => x) (js := fun x => [iOwn (tSl tyVersion 102) [x] (gt x0.Segments k12)]) (cl_fn cb109 rfl) (fun W hm => spec_l7Part_c2 W _ (gt x0.Segments k12) (hm.rdS0 r36) (s_0.2 _ (gt_mem (show k12 < x0.Segments.length from by omega)))) (Wd_none rfl) (by decide) (fun z70 => ?_)
          refine WM_form (n := 0) rfl ?_
          rintro A71 c72 rfl m73
          refine WM_nil ?_
          refine QB_next (fun W hm => (hm.pick [2] (by decide))) ?_
          refine QB_all [1, 8] (by kernel_rfl) (by decide) ?_
          refine QBs_cons (listed' := #[true, true, true, true, true, true, true, true, false, false, false, false]) (by kernel_rfl) rfl ?_ ?_
          ·
            refine wv (fun W hm => rv_load Try.underlying43 rfl rfl (hm.boxCell (n := 1) (o := 0) rfl rfl)) ?_
            refine WM_nil ?_
            refine QB_next (fun W hm => (hm.pick [2] (by decide))) ?_
            refine QB_one 8 (listed' := #[true, true, true, true, true, true, true, true, true, false, false, false]) (by kernel_rfl) rfl (by kernel_rfl) ?_
            refine WM_build (cs := [.slice A71 (gt x0.Segments k12).length c72]) Try.underlying43 Try.type100 rfl (by decide) (by decide) rfl (by kernel_rfl) (Wd_none rfl) (by decide) (fun p75 => ?_)
            refine WM_nil ?_
            refine QB_next (fun W hm => (hm.pick [3] (by decide))) ?_
            refine QB_one 9 (listed' := #[true, true, true, true, true, true, true, true, true, true, false, false]) (by kernel_rfl) rfl (by kernel_rfl) ?_
            refine WM_append (E := (tSl tyVersion 102)) (e := 100) (v := .slice A16 d15.length c17) (p := p75) (q := 1) (xs := d15) (ys := [(gt x0.Segments k12)]) (eis := [iOwn (tSl tyVersion 102) [.slice A71 (gt x0.Segments k12).length c72] (gt x0.Segments k12)]) (js := [iBox p11 45 [.slice A16 d15.length c17, .int .i64 x0.Now], iBox p10 45 [.slice none 0 0, .int .i64 0], iBox p9 45 [.slice (some a24) x0.Segments.length c5, .int .i64 x0.Now]]) (news := [.slice A71 (gt x0.Segments k12).length c72]) (fun W hm => (hm.pick [0, 5, 1, 2, 3, 4] (by decide))) (fun _ _ hs => Els.single (Sep.one hs)) Try.underlying43 Try.type100 rfl rfl rfl (Nat.le_of_ble_eq_true rfl) rfl rfl rfl (show (d15.length + 1) * 24 ≤ 140737488355328 from by omega) (show d15.length + 1 ≤ 9223372036854775807 from by omega) (Wd_none rfl) (by decide) (fun v76 => ?_)
            refine WM_form (n := 0) rfl ?_
            rintro A77 c78 rfl m79
            refine WM_nil ?_
            refine QB_next (fun W hm => (hm.pick [2] (by decide))) ?_
            refine QB_take 10 (listed' := #[true, true, true, true, true, true, true, true, true, true, true, false]) (by kernel_rfl) rfl (by kernel_rfl) (by kernel_rfl) (by kernel_rfl) (fun _ _ _ h => h) (fun W hm => rv_field Try.underlying45 rfl Try.type43 (by decide) rfl rfl) (Wd_none rfl) rfl (by decide) ?_
            refine QB_one 11 (listed' := #[true, true, true, true, true, true, true, true, true, true, true, true]) (by kernel_rfl) rfl (by kernel_rfl) ?_
            refine WM_storeBox (p := p11) (o := 0) (cs := [.slice A16 d15.length c17, .int .i64 x0.Now]) (cs' := [.slice A77 (d15 ++ [(gt x0.Segments k12)]).length c78, .int .i64 x0.Now]) (js := [iOwn (tSl (tSl tyVersion 102) 100) [.slice A77 (d15 ++ [(gt x0.Segments k12)]).length c78] (d15 ++ [(gt x0.Segments k12)]), iBox p10 45 [.slice none 0 0, .int .i64 0], iBox p9 45 [.slice (some a24) x0.Segments.length c5, .int .i64 x0.Now]]) (fun W hm => (hm.pick [1, 0, 2, 3] (by decide))) Try.type43 rfl (Nat.le_of_ble_eq_true rfl) rfl rfl rfl rfl (Wd_none rfl) ?_
            refine WM_nil ?_
            refine QB_next (fun W hm => (hm.pick [2] (by decide))) ?_
            refine QB_done (by kernel_rfl) ?_
            exact QM_cut_normal (A77, c78) (subL_cons rfl (subL_cons rfl (subL_cons rfl (subL_cons rfl subL_nil)))) (fun W hm => hm) trivial
          refine QBs_cons (listed' := #[true, false, true, true, true, true, true, true, true, false, false, false]) (by kernel_rfl) rfl ?_ ?_
          ·
            refine WM_build (cs := [.slice A71 (gt x0.Segments k12).length c72]) Try.underlying43 Try.type100 rfl (by decide) (by decide) rfl (by kernel_rfl) (Wd_none rfl) (by decide) (fun p81 => ?_)
            refine WM_nil ?_
            refine QB_next (fun W hm => (hm.pick [3] (by decide))) ?_
            refine QB_one 1 (listed' := #[true, true, true, true, true, true, true, true, true, false, false, false]) (by kernel_rfl) rfl (by kernel_rfl) ?_
            refine wv (fun W hm => rv_load Try.underlying43 rfl rfl (hm.boxCell (n := 2) (o := 0) rfl rfl)) ?_
            refine WM_nil ?_
            refine QB_next (fun W hm => (hm.pick [3] (by decide))) ?_
            refine QB_one 9 (listed' := #[true, true, true, true, true, true, true, true, true, true, false, false]) (by kernel_rfl) rfl (by kernel_rfl) ?_
            refine WM_append (E := (tSl tyVersion 102)) (e := 100) (v := .slice A16 d15.length c17) (p := p81) (q := 1) (xs := d15) (ys := [(gt x0.Segments k12)]) (eis := [iOwn (tSl tyVersion 102) [.slice A71 (gt x0.Segments k12).length c72] (gt x0.Segments k12)]) (js := [iBox p11 45 [.slice A16 d15.length c17, .int .i64 x0.Now], iBox p10 45 [.slice none 0 0, .int .i64 0], iBox p9 45 [.slice (some a24) x0.Segments.length c5, .int .i64 x0.Now]]) (news := [.slice A71 (gt x0.Segments k12).length c72]) (fun W hm => (hm.pick [0, 5, 1, 2, 3, 4] (by decide))) (fun _ _ hs => Els.single (Sep.one hs)) Try.underlying43 Try.type100 rfl rfl rfl (Nat.le_of_ble_eq_true rfl) rfl rfl rfl (show (d15.length + 1) * 24 ≤ 140737488355328 from by omega) (show d15.length + 1 ≤ 9223372036854775807 from by omega) (Wd_none rfl) (by decide) (fun v82 => ?_)
            refine WM_form (n := 0) rfl ?_
            rintro A83 c84 rfl m85
            refine WM_nil ?_
            refine QB_next (fun W hm => (hm.pick [2] (by decide))) ?_
            refine QB_take 10 (listed' := #[true, true, true, true, true, true, true, true, true, true, true, false]) (by kernel_rfl) rfl (by kernel_rfl) (by kernel_rfl) (by kernel_rfl) (fun _ _ _ h => h) (fun W hm => rv_field Try.underlying45 rfl Try.type43 (by decide) rfl rfl) (Wd_none rfl) rfl (by decide) ?_
            refine QB_one 11 (listed' := #[true, true, true, true, true, true, true, true, true, true, true, true]) (by kernel_rfl) rfl (by kernel_rfl) ?_
            refine WM_storeBox (p := p11) (o := 0) (cs := [.slice A16 d15.length c17, .int .i64 x0.Now]) (cs' := [.slice A83 (d15 ++ [(gt x0.Segments k12)]).length c84, .int .i64 x0.Now]) (js := [iOwn (tSl (tSl tyVersion 102) 100) [.slice A83 (d15 ++ [(gt x0.Segments k12)]).length c84] (d15 ++ [(gt x0.Segments k12)]), iBox p10 45 [.slice none 0 0, .int .i64 0], iBox p9 45 [.slice (some a24) x0.Segments.length c5, .int .i64 x0.Now]]) (fun W hm => (hm.pick [1, 0, 2, 3] (by decide))) Try.type43 rfl (Nat.le_of_ble_eq_true rfl) rfl rfl rfl rfl (Wd_none rfl) ?_
            refine WM_nil ?_
            refine QB_next (fun W hm => (hm.pick [2] (by decide))) ?_
            refine QB_done (by kernel_rfl) ?_
            exact QM_cut_normal (A83, c84) (subL_cons rfl (subL_cons rfl (subL_cons rfl (subL_cons rfl subL_nil)))) (fun W hm => hm) trivial
          exact QBs_nil
        exact QBs_nil
      exact QBs_nil
    ·
      rintro ⟨A44, c45⟩ -
      show QM 27 _ _ _ .normal [(1, .pointer (some (⟨p9, 0, none⟩ : Addr))), (2, .pointer (some (⟨p10, 0, none⟩ : Addr))), (3, .pointer (some (⟨p11, 0, none⟩ : Addr))), (4, .int .i64 ((k12 : Nat) : Int))] [iBox p11 45 [.slice A44 (d15 ++ [(gt x0.Segments k12)]).length c45, .int .i64 x0.Now], iOwn (tSl (tSl tyVersion 102) 100) [.slice A44 (d15 ++ [(gt x0.Segments k12)]).length c45] (d15 ++ [(gt x0.Segments k12)]), iBox p10 45 [.slice none 0 0, .int .i64 0], iBox p9 45 [.slice (some a24) x0.Segments.length c5, .int .i64 x0.Now]]
      refine QM_len (n := 1) rfl ?_
      intro m87 m88
      refine QM_block_normal ?_
      refine QM_then ?_
      refine CM_region ?_
      refine wm ?_
      refine wv (fun W hm => rv_addN (p := k12) (q := 1) rfl rfl (by omega)) ?_
      refine wa ?_
      refine WM_nil ?_
      have hn89 := rng_next (R := DStore) (body := (fun k (s : (List (List DVersion))) => spec_l7Copy_b1 x0 k s)) (k := k12) (s := d15) (s' := (d15 ++ [(gt x0.Segments k12)])) (show k12 < x0.Segments.length from by omega) (show spec_l7Copy_b1 x0 k12 d15 = Sum.inr (d15 ++ [(gt x0.Segments k12)]) from by unfold spec_l7Copy_b1; exact rfl) hF19
      exact QM_round (k12 + 1, (d15 ++ [(gt x0.Segments k12)]), (A44, c45)) (subL_cons rfl (subL_cons rfl (subL_cons rfl (subL_cons rfl subL_nil)))) (fun W hm => (hm.pick [0, 2, 3, 1] (by decide))) ⟨(by omega), hn89, (show (d15 ++ [(gt x0.Segments k12)]).length ≤ 0 + (k12 + 1) from by first | omega | (simp only [List.length_append, List.length_cons, List.length_nil] at *; omega))⟩ (show x0.Segments.length - (k12 + 1) < x0.Segments.length - k12 from by omega)
  · have g23 : (decide (((k12 : Nat) : Int) < ((x0.Segments.length : Nat) : Int))) = false := decide_eq_false (by omega)
    refine CM_condF rfl g23 ?_
    refine CM_exit ?_
    refine QM_then_exit ?_
    refine QM_then_exit ?_
    have hE90 : rng (R := DStore) (fun k (s : (List (List DVersion))) => spec_l7Copy_b1 x0 k s) (x0.Segments.length - 0) 0 [] = Sum.inr d15 := rng_end hl22 hF19
    refine QM_block_hit ?_
    refine QM_then ?_
    refine sr ?_
    refine wv (fun W hm => rv_loadN (cs := [.slice A16 d15.length c17, .int .i64 x0.Now]) Try.underlying45 Try.type45 rfl rfl (hm.boxCells (n := 0) rfl)) ?_
    refine WM_storeBox (p := p10) (o := 0) (cs := [.slice none 0 0, .int .i64 0]) (cs' := [.slice A16 d15.length c17, .int .i64 x0.Now]) (js := [iBox p11 45 [.slice A16 d15.length c17, .int .i64 x0.Now], iBox p9 45 [.slice A4 x0.Segments.length c5, .int .i64 x0.Now], iOwn (tSl (tSl tyVersion 102) 100) [.slice A16 d15.length c17] d15]) (fun W hm => (hm.pick [1, 0, 2, 3] (by decide))) Try.type45 rfl (Nat.le_of_ble_eq_true rfl) rfl rfl rfl rfl (Wd_none rfl) ?_
    refine nt' ?_
    refine CM_ret ?_
    refine QM_r1 rfl (RR_cell (n := 0) rfl rfl Try.underlying45 Try.type45 rfl) (fun W hm => ⟨[.slice A16 d15.length c17, .int .i64 x0.Now], ?_, ?_⟩)
    · first | rw [(show spec_l7Copy_m x0 = (⟨d15, x0.Now⟩ : DStore) from by unfold spec_l7Copy_m; exact fin_inr hE90 (rfl))] | rfl
    · rw [(show spec_l7Copy_m x0 = (⟨d15, x0.Now⟩ : DStore) from by unfold spec_l7Copy_m; exact fin_inr hE90 (rfl))]; exact Mem.join (is := [iOwn (tSl (tSl tyVersion 102) 100) [.slice A16 d15.length c17] d15]) (js := []) (fun _ _ hs => tyStore_join (x := (⟨d15, x0.Now⟩ : DStore)) hs) (hm.pick [3] (by decide))
theorem spec_l7Copy_eq (x0 : DStore) : spec_l7Copy_m x0 = x0 := by
  unfold spec_l7Copy_m; rw [rng_app (xs := x0.Segments) (b := fun k s => spec_l7Copy_b1 x0 k s) (fun _ _ => rfl)]; rfl
theorem spec_l7Copy_c2 (w : World) (z0 : List Value) (x0 : DStore) (r_0 : tyStore.rd w w.heap.size z0 x0) (s_0 : smStore 68719476736 x0) :
    Calls Try.prog 68 #[.agg z0.toArray] w fun e w' => ∃ v : List Value, e = .returned (.agg v.toArray) ∧ Mem w.heap.size w [iOwn tyStore v x0] w' := by
  have h := spec_l7Copy_c w z0 x0 r_0 s_0
  rw [spec_l7Copy_eq] at h
  exact h

def spec_l1In_m (x0 : Int) (x1 : Int) (x2 : Int) : Bool :=
  cond (decide (x1 ≤ x0)) (decide (x0 ≤ x2)) false
set_option maxRecDepth 100000 in
theorem cb110 : Cb Try.prog 110 := ⟨Try.f110, _, Try.func110, rfl, by decide⟩
set_option maxRecDepth 10000 in
set_option maxHeartbeats 4000000 in
theorem spec_l1In_c (w : World) (x0 : Int) (x1 : Int) (x2 : Int) :
    Calls Try.prog 110 #[.int .i64 x0, .int .i64 x1, .int .i64 x2] w fun e w' => e = .returned (.bool (spec_l1In_m x0 x1 x2)) ∧ Below w.heap.size w w' := by
  refine call_enterM (L := [(0, .int .i64 x0), (1, .int .i64 x1), (2, .int .i64 x2)]) (N := 15) Try.func110 rfl rfl (Nat.le_of_ble_eq_true rfl) (argsL_cons rfl (argsL_cons rfl (argsL_cons rfl argsL_nil))) ?_
  refine sr ?_
  refine wa ?_
  refine nt' ?_
  refine sr ?_
  refine wm ?_
  refine wm ?_
  refine wv (fun W hm => rv_geq rfl rfl) ?_
  refine wm ?_
  by_cases h1 : x1 ≤ x0
  · have g2 : (decide (x1 ≤ x0)) = true := decide_eq_true h1
    refine wg (fun W hm => rv_move rfl) g2 ?_
    refine wg (fun W hm => rv_move rfl) g2 ?_
    refine wg (fun W hm => rv_leq rfl rfl) g2 ?_
    refine wv (fun W hm => rv_pickT rfl g2 rfl) ?_
    refine wa ?_
    refine nt' ?_
    refine CM_ret ?_
    exact QM_ret1 rfl rfl (fun W hm => ⟨ret_b (show spec_l1In_m x0 x1 x2 = (decide (x0 ≤ x2)) from by unfold spec_l1In_m; exact cond_t g2 (rfl)), hm.below⟩)
  · have g2 : (decide (x1 ≤ x0)) = false := decide_eq_false h1
    refine ws g2 ?_
    refine ws g2 ?_
    refine ws g2 ?_
    refine wv (fun W hm => rv_pickF rfl g2 rfl) ?_
    refine wa ?_
    refine nt' ?_
    refine CM_ret ?_
    exact QM_ret1 rfl rfl (fun W hm => ⟨ret_b (show spec_l1In_m x0 x1 x2 = false from by unfold spec_l1In_m; exact cond_f g2 (rfl)), hm.below⟩)

theorem spec_l1In_fact {x a b : Int} (h : spec_l1In_m x a b = true) : a ≤ x ∧ x ≤ b := by
  unfold spec_l1In_m at h
  by_cases h1 : a ≤ x
  · rw [decide_eq_true h1] at h
    exact ⟨h1, of_decide_eq_true h⟩
  · rw [decide_eq_false h1] at h
    cases h
theorem spec_l1In_iff (x a b : Int) : spec_l1In_m x a b = decide (a ≤ x ∧ x ≤ b) := by
  unfold spec_l1In_m
  by_cases h1 : a ≤ x
  · by_cases h2 : x ≤ b
    · simp [h1, h2]
    · simp [h1, h2]
  · simp [h1]

def spec_l7All_b1 (x0 : DStore) (k12 : Nat) (d13 : (List DVersion)) : (List DVersion) ⊕ ((List DVersion)) :=
  Sum.inr (d13 ++ (gt x0.Segments k12))
def spec_l7All_m (x0 : DStore) : (List DVersion) :=
  Sum.elim id (fun (s : (List DVersion)) => s) (rng (R := (List DVersion)) (fun k (s : (List DVersion)) => spec_l7All_b1 x0 k s) (x0.Segments.length - 0) 0 [])
set_option maxRecDepth 100000 in
theorem cb99 : Cb Try.prog 99 := ⟨Try.f99, _, Try.func99, rfl, by decide⟩
set_option maxRecDepth 10000 in
set_option maxHeartbeats 4000000 in
theorem spec_l7All_c (B : Nat) (w0 : World) (is : List It) (w : World) (z0 : List Value) (x0 : DStore) (r_0 : tyStore.rd w0 B z0 x0) (s_0 : smStore 68719476736 x0) (hq : (x0.Segments.map List.length).sum ≤ 68719476736) (hm : Mem B w0 is w) :
    Calls Try.prog 99 #[.agg z0.toArray] w fun e w' => ∃ v : Value, e = .returned (v) ∧ Mem B w0 (iOwn (tSl (tBor tyVersion w0 B) 102) [v] (spec_l7All_m x0) :: is) w' := by
  obtain ⟨v1, rfl, r2⟩ := tyStore_rd r_0
  have r7 := r2
  obtain ⟨m3, A4, c5, rfl, q6⟩ := r2
  have l8 : x0.Segments.length ≤ 68719476736 := s_0.1
  refine call_enterW (L := [(0, .agg #[.slice A4 x0.Segments.length c5, .int .i64 x0.Now])]) (N := 21) Try.func99 rfl rfl (Nat.le_of_ble_eq_true rfl) (argsL_cons rfl argsL_nil) hm ?_
  refine sr ?_
  refine WM_box rfl (Wd_none rfl) (by decide) (fun p9 => ?_)
  refine wa ?_
  refine nt' ?_
  refine sr ?_
  refine WM_build0 (E := (tBor tyVersion w0 B)) Try.underlying100 Try.type102 (Wd_none rfl) (by decide) (fun p10 => ?_)
  refine wa ?_
  refine nt' ?_
  refine CM_seq ?_
  refine sr ?_
  refine wa ?_
  refine nt' ?_
  refine CM_block ?_
  refine CM_loop (σ := Nat × ((List DVersion)) × (Option Addr × Nat)) (fun s => [(1, .pointer (some (⟨p9, 0, none⟩ : Addr))), (3, .slice s.2.2.1 s.2.1.length s.2.2.2), (4, .int .i64 ((s.1 : Nat) : Int))]) (fun s => (iOwn (tSl (tBor tyVersion w0 B) 102) [.slice s.2.2.1 s.2.1.length s.2.2.2] s.2.1 :: iBox p9 45 [.slice A4 x0.Segments.length c5, .int .i64 x0.Now] :: is)) (fun s => s.1 ≤ x0.Segments.length ∧ rng (R := (List DVersion)) (fun k (s : (List DVersion)) => spec_l7All_b1 x0 k s) (x0.Segments.length - s.1) s.1 s.2.1 = rng (R := (List DVersion)) (fun k (s : (List DVersion)) => spec_l7All_b1 x0 k s) (x0.Segments.length - 0) 0 [] ∧ s.2.1.length ≤ ((x0.Segments.take s.1).map List.length).sum) (fun s => x0.Segments.length - s.1) (0, [], ((some ⟨p10, 0, none⟩), 0)) (subL_cons rfl (subL_cons rfl (subL_cons rfl subL_nil))) (fun W hm => hm) ⟨(by omega), rfl, Nat.zero_le _⟩ ?_
  rintro ⟨k12, d13, ⟨A14, c15⟩⟩ H18
  obtain ⟨hk16, hF17, hi19⟩ : k12 ≤ x0.Segments.length ∧ rng (R := (List DVersion)) (fun k (s : (List DVersion)) => spec_l7All_b1 x0 k s) (x0.Segments.length - k12) k12 d13 = rng (R := (List DVersion)) (fun k (s : (List DVersion)) => spec_l7All_b1 x0 k s) (x0.Segments.length - 0) 0 [] ∧ d13.length ≤ ((x0.Segments.take k12).map List.length).sum := H18
  show CM Try.prog 21 _ _ _ _ [(1, .pointer (some (⟨p9, 0, none⟩ : Addr))), (3, .slice A14 d13.length c15), (4, .int .i64 ((k12 : Nat) : Int))] (iOwn (tSl (tBor tyVersion w0 B) 102) [.slice A14 d13.length c15] d13 :: iBox p9 45 [.slice A4 x0.Segments.length c5, .int .i64 x0.Now] :: is)
  refine CM_seq ?_
  refine sr ?_
  refine wm ?_
  refine wv (fun W hm => rv_field Try.underlying45 rfl Try.type43 (by decide) rfl rfl) ?_
  refine wv (fun W hm => rv_load Try.underlying43 rfl rfl (hm.boxCell (n := 1) (o := 0) rfl rfl)) ?_
  refine wv (fun W hm => rv_len Try.underlying43 rfl) ?_
  refine wv (fun W hm => rv_lss rfl rfl) ?_
  refine nt' ?_
  by_cases hl20 : k12 < x0.Segments.length
  · have g21 : (decide (((k12 : Nat) : Int) < ((x0.Segments.length : Nat) : Int))) = true := decide_eq_true (by omega)
    refine CM_condT rfl g21 ?_
    refine CM_skip ?_
    refine QM_then ?_
    refine CM_seq ?_
    refine CM_block ?_
    refine CM_region ?_
    refine wm ?_
    refine wv (fun W hm => rv_field Try.underlying45 rfl Try.type43 (by decide) rfl rfl) ?_
    refine wv (fun W hm => rv_load Try.underlying43 rfl rfl (hm.boxCell (n := 1) (o := 0) rfl rfl)) ?_
    refine wm ?_
    obtain ⟨a22, rfl, hb23, he24⟩ := q6 (by omega)
    refine wv (fun W hm => rv_index (sz := 1) (k := k12) Try.underlying43 Try.type100 rfl rfl rfl (by omega)) ?_
    obtain ⟨_, e26, hc25⟩ := he24 k12 _ (gt_some (show k12 < x0.Segments.length from by omega))
    have l27 : (gt x0.Segments k12).length ≤ 68719476736 := (s_0.2 _ (gt_mem (show k12 < x0.Segments.length from by omega))).1
    obtain ⟨v28, rfl, r29⟩ := e26
    have r34 := r29
    obtain ⟨m30, A31, c32, rfl, q33⟩ := r29
    refine wv (fun W hm => rv_load Try.underlying100 rfl rfl ((hm.cell0 (show (a22.add (k12 * 1)).block < B from by rw [add_block]; exact hb23.1)).trans (hc25 0 _ rfl))) ?_
    refine WM_appendR (F := (tBor tyVersion w0 B)) (E := tyVersion) (e := 102) (v := .slice A14 d13.length c15) (xs := d13) (ys := (gt x0.Segments k12)) (js := (iBox p9 45 [.slice (some a22) x0.Segments.length c5, .int .i64 x0.Now] :: is)) (fun W hm => (hm.front (n := 0) rfl)) (fun W hm => src_bor hm r34) Try.underlying100 Try.type102 rfl rfl rfl (Nat.le_of_ble_eq_true rfl) rfl rfl (show (d13.length + (gt x0.Segments k12).length) * 48 ≤ 140737488355328 from by have h1 := sum_take_succ (w := List.length) (xs := x0.Segments) (j := k12) (by omega); have h2 := sum_take_le (w := List.length) (xs := x0.Segments) (k12 + 1); omega) (show d13.length + (gt x0.Segments k12).length ≤ 9223372036854775807 from by have h1 := sum_take_succ (w := List.length) (xs := x0.Segments) (j := k12) (by omega); have h2 := sum_take_le (w := List.length) (xs := x0.Segments) (k12 + 1); omega) (Wd_none rfl) (by decide) (fun v35 => ?_)
    refine WM_form (n := 0) rfl ?_
    rintro A36 c37 rfl m38
    refine wa ?_
    refine WM_nil ?_
    refine QM_block_normal ?_
    refine QM_then ?_
    refine CM_region ?_
    refine wm ?_
    refine wv (fun W hm => rv_addN (p := k12) (q := 1) rfl rfl (by omega)) ?_
    refine wa ?_
    refine WM_nil ?_
    have hn40 := rng_next (R := (List DVersion)) (body := (fun k (s : (List DVersion)) => spec_l7All_b1 x0 k s)) (k := k12) (s := d13) (s' := (d13 ++ (gt x0.Segments k12))) (show k12 < x0.Segments.length from by omega) (show spec_l7All_b1 x0 k12 d13 = Sum.inr (d13 ++ (gt x0.Segments k12)) from by unfold spec_l7All_b1; exact rfl) hF17
    exact QM_round (k12 + 1, (d13 ++ (gt x0.Segments k12)), (A36, c37)) (subL_cons rfl (subL_cons rfl (subL_cons rfl subL_nil))) (fun W hm => hm) ⟨(by omega), hn40, (show (d13 ++ (gt x0.Segments k12)).length ≤ ((x0.Segments.take (k12 + 1)).map List.length).sum from by rw [List.length_append, sum_take_succ (by omega)]; omega)⟩ (show x0.Segments.length - (k12 + 1) < x0.Segments.length - k12 from by omega)
  · have g21 : (decide (((k12 : Nat) : Int) < ((x0.Segments.length : Nat) : Int))) = false := decide_eq_false (by omega)
    refine CM_condF rfl g21 ?_
    refine CM_exit ?_
    refine QM_then_exit ?_
    refine QM_then_exit ?_
    have hE41 : rng (R := (List DVersion)) (fun k (s : (List DVersion)) => spec_l7All_b1 x0 k s) (x0.Segments.length - 0) 0 [] = Sum.inr d13 := rng_end hl20 hF17
    refine QM_block_hit ?_
    refine QM_then ?_
    refine sr ?_
    refine wm ?_
    refine wa ?_
    refine nt' ?_
    refine CM_ret ?_
    refine QM_r1 rfl (RR_tmp rfl) (fun W hm => ⟨.slice A14 d13.length c15, ?_, ?_⟩)
    · first | rw [(show spec_l7All_m x0 = d13 from by unfold spec_l7All_m; exact fin_inr hE41 (rfl))] | rfl
    · rw [(show spec_l7All_m x0 = d13 from by unfold spec_l7All_m; exact fin_inr hE41 (rfl))]; exact ((hm.front (n := 0) rfl).front (n := 1) rfl).tail

def spec_IsRow_b1 (x0 : DRow) (k9 : Nat) : Bool ⊕ (Unit) :=
  cond (spec_l1In_m (gt x0.Values k9) 0 99) (Sum.inr ()) (Sum.inl false)
def spec_IsRow_m (x0 : DRow) : Bool :=
  Sum.elim id (fun (s : Unit) => cond (spec_l1In_m x0.Id 0 999) (((x0.Values.length : Nat) : Int) == 3) false) (rng (R := Bool) (fun k (_ : Unit) => spec_IsRow_b1 x0 k) (x0.Values.length - 0) 0 ())
set_option maxRecDepth 100000 in
theorem cb81 : Cb Try.prog 81 := ⟨Try.f81, _, Try.func81, rfl, by decide⟩
set_option maxRecDepth 10000 in
set_option maxHeartbeats 4000000 in
theorem spec_IsRow_c (w : World) (z0 : List Value) (x0 : DRow) (r_0 : tyRow.rd w w.heap.size z0 x0) :
    Calls Try.prog 81 #[.agg z0.toArray] w fun e w' => e = .returned (.bool (spec_IsRow_m x0)) ∧ Below w.heap.size w w' := by
  obtain ⟨v1, rfl, r2⟩ := tyRow_rd r_0
  have r7 := r2
  obtain ⟨m3, A4, c5, rfl, q6⟩ := r2
  refine call_enterM (L := [(0, .agg #[.int .i64 x0.Id, .slice A4 x0.Values.length c5])]) (N := 27) Try.func81 rfl rfl (Nat.le_of_ble_eq_true rfl) (argsL_cons rfl argsL_nil) ?_
  refine sr ?_
  refine WM_box rfl (Wd_none rfl) (by decide) (fun p8 => ?_)
  refine wa ?_
  refine nt' ?_
  refine CM_seq ?_
  refine sr ?_
  refine wa ?_
  refine nt' ?_
  refine CM_block ?_
  refine CM_loop (σ := Nat × (Unit) × (Unit)) (fun s => [(1, .pointer (some (⟨p8, 0, none⟩ : Addr))), (3, .int .i64 ((s.1 : Nat) : Int))]) (fun s => [iBox p8 69 [.int .i64 x0.Id, .slice A4 x0.Values.length c5]]) (fun s => s.1 ≤ x0.Values.length ∧ rng (R := Bool) (fun k (_ : Unit) => spec_IsRow_b1 x0 k) (x0.Values.length - s.1) s.1 s.2.1 = rng (R := Bool) (fun k (_ : Unit) => spec_IsRow_b1 x0 k) (x0.Values.length - 0) 0 ()) (fun s => x0.Values.length - s.1) (0, (), ()) (subL_cons rfl (subL_cons rfl subL_nil)) (fun W hm => hm) ⟨(by omega), rfl⟩ ?_
  rintro ⟨k9, ⟨⟩, ⟨⟩⟩ H12
  obtain ⟨hk10, hF11⟩ : k9 ≤ x0.Values.length ∧ rng (R := Bool) (fun k (_ : Unit) => spec_IsRow_b1 x0 k) (x0.Values.length - k9) k9 () = rng (R := Bool) (fun k (_ : Unit) => spec_IsRow_b1 x0 k) (x0.Values.length - 0) 0 () := H12
  show CM Try.prog 27 _ _ _ _ [(1, .pointer (some (⟨p8, 0, none⟩ : Addr))), (3, .int .i64 ((k9 : Nat) : Int))] [iBox p8 69 [.int .i64 x0.Id, .slice A4 x0.Values.length c5]]
  refine CM_seq ?_
  refine sr ?_
  refine wm ?_
  refine wv (fun W hm => rv_field Try.underlying69 rfl Try.type33 (by decide) rfl rfl) ?_
  refine wv (fun W hm => rv_load Try.underlying33 rfl rfl (hm.boxCell (n := 0) (o := 1) rfl rfl)) ?_
  refine wv (fun W hm => rv_len Try.underlying33 rfl) ?_
  refine wv (fun W hm => rv_lss rfl rfl) ?_
  refine nt' ?_
  by_cases hl13 : k9 < x0.Values.length
  · have g14 : (decide (((k9 : Nat) : Int) < ((x0.Values.length : Nat) : Int))) = true := decide_eq_true (by omega)
    refine CM_condT rfl g14 ?_
    refine CM_skip ?_
    refine QM_then ?_
    refine CM_seq ?_
    refine CM_block ?_
    refine sr ?_
    refine wv (fun W hm => rv_field Try.underlying69 rfl Try.type33 (by decide) rfl rfl) ?_
    refine wv (fun W hm => rv_load Try.underlying33 rfl rfl (hm.boxCell (n := 0) (o := 1) rfl rfl)) ?_
    refine wm ?_
    obtain ⟨a15, rfl, hb16, he17⟩ := q6 (by omega)
    refine wv (fun W hm => rv_index (sz := 1) (k := k9) Try.underlying33 Try.type3 rfl rfl rfl (by omega)) ?_
    refine wv (fun W hm => rv_load Try.underlying3 rfl rfl ((hm.cell0 (show (a15.add (k9 * 1)).block < w.heap.size from by rw [add_block]; exact hb16.1)).trans (rdS_int he17 k9 (by omega)))) ?_
    refine WM_callV (cl_fn cb110 rfl) (fun W hm => spec_l1In_c W (gt x0.Values k9) 0 99) (Wd_none rfl) (by decide) ?_
    refine wv (fun W hm => rv_not rfl) ?_
    refine nt' ?_
    rcases Bool.eq_false_or_eq_true (spec_l1In_m (gt x0.Values k9) 0 99) with g19 | g19
    ·
      have hw := spec_l1In_fact g19
      refine CM_condF rfl (nt g19) ?_
      refine CM_skip ?_
      refine QM_block_normal ?_
      refine QM_then ?_
      refine CM_region ?_
      refine wm ?_
      refine wv (fun W hm => rv_addN (p := k9) (q := 1) rfl rfl (by omega)) ?_
      refine wa ?_
      refine WM_nil ?_
      have hn20 := rng_next (R := Bool) (body := (fun k (_ : Unit) => spec_IsRow_b1 x0 k)) (k := k9) (s := ()) (s' := ()) (show k9 < x0.Values.length from by omega) (show spec_IsRow_b1 x0 k9 = Sum.inr () from by unfold spec_IsRow_b1; exact cond_t g19 (rfl)) hF11
      exact QM_round (k9 + 1, (), ()) (subL_cons rfl (subL_cons rfl subL_nil)) (fun W hm => hm) ⟨(by omega), hn20⟩ (show x0.Values.length - (k9 + 1) < x0.Values.length - k9 from by omega)
    ·
      refine CM_condT rfl (nf g19) ?_
      refine sr ?_
      refine wa ?_
      refine nt' ?_
      refine CM_ret ?_
      refine QM_block_ret ?_
      refine QM_then_ret ?_
      refine QM_then_ret ?_
      refine QM_block_ret ?_
      refine QM_then_ret ?_
      exact QM_ret1 rfl rfl (fun W hm => ⟨ret_b (show spec_IsRow_m x0 = false from by unfold spec_IsRow_m; exact fin_inl (rng_ret (body := (fun k (_ : Unit) => spec_IsRow_b1 x0 k)) (k := k9) (s := ()) (show k9 < x0.Values.length from by omega) (show spec_IsRow_b1 x0 k9 = Sum.inl false from by unfold spec_IsRow_b1; exact cond_f g19 (rfl)) hF11) rfl), hm.below⟩)
  · have g14 : (decide (((k9 : Nat) : Int) < ((x0.Values.length : Nat) : Int))) = false := decide_eq_false (by omega)
    refine CM_condF rfl g14 ?_
    refine CM_exit ?_
    refine QM_then_exit ?_
    refine QM_then_exit ?_
    have hE21 : rng (R := Bool) (fun k (_ : Unit) => spec_IsRow_b1 x0 k) (x0.Values.length - 0) 0 () = Sum.inr () := rng_end hl13 hF11
    refine QM_block_hit ?_
    refine QM_then ?_
    refine sr ?_
    refine wv (fun W hm => rv_field Try.underlying69 rfl Try.type3 (by decide) rfl rfl) ?_
    refine wv (fun W hm => rv_load Try.underlying3 rfl rfl (hm.boxCell (n := 0) (o := 0) rfl rfl)) ?_
    refine WM_callV (cl_fn cb110 rfl) (fun W hm => spec_l1In_c W x0.Id 0 999) (Wd_none rfl) (by decide) ?_
    refine wm ?_
    rcases Bool.eq_false_or_eq_true (spec_l1In_m x0.Id 0 999) with g23 | g23
    ·
      have hw := spec_l1In_fact g23
      refine wg (fun W hm => rv_field Try.underlying69 rfl Try.type33 (by decide) rfl rfl) g23 ?_
      refine wg (fun W hm => rv_load Try.underlying33 rfl rfl (hm.boxCell (n := 0) (o := 1) rfl rfl)) g23 ?_
      refine wg (fun W hm => rv_len Try.underlying33 rfl) g23 ?_
      refine wg (fun W hm => rv_eql rfl rfl) g23 ?_
      refine wv (fun W hm => rv_pickT rfl g23 rfl) ?_
      refine wa ?_
      refine nt' ?_
      refine CM_ret ?_
      exact QM_ret1 rfl rfl (fun W hm => ⟨ret_b (show spec_IsRow_m x0 = (((x0.Values.length : Nat) : Int) == 3) from by unfold spec_IsRow_m; exact fin_inr hE21 (cond_t g23 (rfl))), hm.below⟩)
    ·
      refine ws g23 ?_
      refine ws g23 ?_
      refine ws g23 ?_
      refine ws g23 ?_
      refine wv (fun W hm => rv_pickF rfl g23 rfl) ?_
      refine wa ?_
      refine nt' ?_
      refine CM_ret ?_
      exact QM_ret1 rfl rfl (fun W hm => ⟨ret_b (show spec_IsRow_m x0 = false from by unfold spec_IsRow_m; exact fin_inr hE21 (cond_f g23 (rfl))), hm.below⟩)

def spec_l7Version_m (x0 : DVersion) (x1 : Int) : Bool :=
  cond (spec_IsRow_m (⟨x0.Id, x0.Values⟩ : DRow)) (cond (spec_l1In_m x0.Born 0 x1) (cond (x0.Died == (-1)) true (spec_l1In_m x0.Died (IntKind.i64.wrap (x0.Born + 1)) x1)) false) false
set_option maxRecDepth 100000 in
theorem cb111 : Cb Try.prog 111 := ⟨Try.f111, _, Try.func111, rfl, by decide⟩
set_option maxRecDepth 10000 in
set_option maxHeartbeats 4000000 in
theorem spec_l7Version_c (w : World) (z0 : List Value) (x0 : DVersion) (x1 : Int) (r_0 : tyVersion.rd w w.heap.size z0 x0) :
    Calls Try.prog 111 #[.agg z0.toArray, .int .i64 x1] w fun e w' => e = .returned (.bool (spec_l7Version_m x0 x1)) ∧ Below w.heap.size w w' := by
  obtain ⟨v1, rfl, r2⟩ := tyVersion_rd r_0
  have r7 := r2
  obtain ⟨m3, A4, c5, rfl, q6⟩ := r2
  refine call_enterM (L := [(0, .agg #[.int .i64 x0.Id, .slice A4 x0.Values.length c5, .int .i64 x0.Born, .int .i64 x0.Died]), (1, .int .i64 x1)]) (N := 31) Try.func111 rfl rfl (Nat.le_of_ble_eq_true rfl) (argsL_cons rfl (argsL_cons rfl argsL_nil)) ?_
  refine sr ?_
  refine WM_box rfl (Wd_none rfl) (by decide) (fun p8 => ?_)
  refine wa ?_
  refine nt' ?_
  refine sr ?_
  refine wv (fun W hm => rv_field Try.underlying102 rfl Try.type3 (by decide) rfl rfl) ?_
  refine wv (fun W hm => rv_load Try.underlying3 rfl rfl (hm.boxCell (n := 0) (o := 0) rfl rfl)) ?_
  refine wv (fun W hm => rv_field Try.underlying102 rfl Try.type33 (by decide) rfl rfl) ?_
  refine wv (fun W hm => rv_load Try.underlying33 rfl rfl (hm.boxCell (n := 0) (o := 1) rfl rfl)) ?_
  refine wv (fun W hm => rv_build (cs := [.int .i64 x0.Id, .slice A4 x0.Values.length c5]) rfl (by kernel_rfl)) ?_
  refine WM_callV (cl_fn cb81 rfl) (fun W hm => spec_IsRow_c W _ (⟨x0.Id, x0.Values⟩ : DRow) (tyRow_mk (x := (⟨x0.Id, x0.Values⟩ : DRow)) (hm.rdS0 r7))) (Wd_none rfl) (by decide) ?_
  refine wm ?_
  rcases Bool.eq_false_or_eq_true (spec_IsRow_m (⟨x0.Id, x0.Values⟩ : DRow)) with g10 | g10
  ·
    refine wg (fun W hm => rv_field Try.underlying102 rfl Try.type3 (by decide) rfl rfl) g10 ?_
    refine wg (fun W hm => rv_load Try.underlying3 rfl rfl (hm.boxCell (n := 0) (o := 2) rfl rfl)) g10 ?_
    refine wg (fun W hm => rv_move rfl) g10 ?_
    refine WM_callV (cl_fn cb110 rfl) (fun W hm => spec_l1In_c W x0.Born 0 x1) (Wd_some rfl rfl rfl (bw g10 rfl)) (by decide) ?_
    refine wv (fun W hm => rv_pickT rfl g10 rfl) ?_
    refine wm ?_
    rcases Bool.eq_false_or_eq_true (spec_l1In_m x0.Born 0 x1) with g12 | g12
    ·
      have hw := spec_l1In_fact g12
      refine wg (fun W hm => rv_field Try.underlying102 rfl Try.type3 (by decide) rfl rfl) g12 ?_
      refine wg (fun W hm => rv_load Try.underlying3 rfl rfl (hm.boxCell (n := 0) (o := 3) rfl rfl)) g12 ?_
      refine wg (fun W hm => rv_eql rfl rfl) g12 ?_
      refine wg (fun W hm => rv_move rfl) g12 ?_
      by_cases h13 : x0.Died = (-1)
      · have g14 : (x0.Died == (-1)) = true := beq_iff_eq.2 h13
        refine ws g14 ?_
        refine ws g14 ?_
        refine ws g14 ?_
        refine ws g14 ?_
        refine ws g14 ?_
        refine ws g14 ?_
        refine ws g14 ?_
        refine wg (fun W hm => rv_pickT rfl g14 rfl) g12 ?_
        refine wv (fun W hm => rv_pickT rfl g12 rfl) ?_
        refine wa ?_
        refine nt' ?_
        refine CM_ret ?_
        exact QM_ret1 rfl rfl (fun W hm => ⟨ret_b (show spec_l7Version_m x0 x1 = true from by unfold spec_l7Version_m; exact cond_t g10 (cond_t g12 (cond_t g14 (rfl)))), hm.below⟩)
      · have g14 : (x0.Died == (-1)) = false := beq_eq_false_iff_ne.2 h13
        refine wg (fun W hm => rv_field Try.underlying102 rfl Try.type3 (by decide) rfl rfl) g14 ?_
        refine wg (fun W hm => rv_load Try.underlying3 rfl rfl (hm.boxCell (n := 0) (o := 3) rfl rfl)) g14 ?_
        refine wg (fun W hm => rv_field Try.underlying102 rfl Try.type3 (by decide) rfl rfl) g14 ?_
        refine wg (fun W hm => rv_load Try.underlying3 rfl rfl (hm.boxCell (n := 0) (o := 2) rfl rfl)) g14 ?_
        refine wg (fun W hm => rv_add rfl rfl) g14 ?_
        refine wg (fun W hm => rv_move rfl) g14 ?_
        refine WM_callV (cl_fn cb110 rfl) (fun W hm => spec_l1In_c W x0.Died (IntKind.i64.wrap (x0.Born + 1)) x1) (Wd_some rfl rfl rfl (bw g14 rfl)) (by decide) ?_
        refine wg (fun W hm => rv_pickF rfl g14 rfl) g12 ?_
        refine wv (fun W hm => rv_pickT rfl g12 rfl) ?_
        refine wa ?_
        refine nt' ?_
        refine CM_ret ?_
        exact QM_ret1 rfl rfl (fun W hm => ⟨ret_b (show spec_l7Version_m x0 x1 = (spec_l1In_m x0.Died (IntKind.i64.wrap (x0.Born + 1)) x1) from by unfold spec_l7Version_m; exact cond_t g10 (cond_t g12 (cond_f g14 (rfl)))), hm.below⟩)
    ·
      refine ws g12 ?_
      refine ws g12 ?_
      refine ws g12 ?_
      refine ws g12 ?_
      refine wu ?_
      refine wu ?_
      refine wu ?_
      refine wu ?_
      refine wu ?_
      refine wu ?_
      refine wu ?_
      refine ws g12 ?_
      refine wv (fun W hm => rv_pickF rfl g12 rfl) ?_
      refine wa ?_
      refine nt' ?_
      refine CM_ret ?_
      exact QM_ret1 rfl rfl (fun W hm => ⟨ret_b (show spec_l7Version_m x0 x1 = false from by unfold spec_l7Version_m; exact cond_t g10 (cond_f g12 (rfl))), hm.below⟩)
  ·
    refine ws g10 ?_
    refine ws g10 ?_
    refine ws g10 ?_
    refine ws g10 ?_
    refine wv (fun W hm => rv_pickF rfl g10 rfl) ?_
    refine wm ?_
    refine WM_skip (Wd_some rfl rfl rfl rfl) rfl (by decide) ?_
    refine WM_skip (Wd_some rfl rfl rfl rfl) rfl (by decide) ?_
    refine WM_skip (Wd_some rfl rfl rfl rfl) rfl (by decide) ?_
    refine WM_skip (Wd_some rfl rfl rfl rfl) rfl (by decide) ?_
    refine wu ?_
    refine wu ?_
    refine wu ?_
    refine wu ?_
    refine wu ?_
    refine wu ?_
    refine wu ?_
    refine WM_skip (Wd_some rfl rfl rfl rfl) rfl (by decide) ?_
    refine wv (fun W hm => rv_pickF rfl rfl rfl) ?_
    refine wa ?_
    refine nt' ?_
    refine CM_ret ?_
    exact QM_ret1 rfl rfl (fun W hm => ⟨ret_b (show spec_l7Version_m x0 x1 = false from by unfold spec_l7Version_m; exact cond_f g10 (rfl)), hm.below⟩)

def spec_l7Apart_m (x0 : DVersion) (x1 : DVersion) : Bool :=
  cond (x0.Id != x1.Id) true (cond (x0.Died != (-1)) (cond (decide (x0.Died ≤ x1.Born)) true (cond (x1.Died != (-1)) (decide (x1.Died ≤ x0.Born)) false)) (cond (x1.Died != (-1)) (decide (x1.Died ≤ x0.Born)) false))
set_option maxRecDepth 100000 in
theorem cb112 : Cb Try.prog 112 := ⟨Try.f112, _, Try.func112, rfl, by decide⟩
set_option maxRecDepth 10000 in
set_option maxHeartbeats 4000000 in
theorem spec_l7Apart_c (w : World) (z0 : List Value) (x0 : DVersion) (z1 : List Value) (x1 : DVersion) (r_0 : tyVersion.rd w w.heap.size z0 x0) (r_1 : tyVersion.rd w w.heap.size z1 x1) :
    Calls Try.prog 112 #[.agg z0.toArray, .agg z1.toArray] w fun e w' => e = .returned (.bool (spec_l7Apart_m x0 x1)) ∧ Below w.heap.size w w' := by
  obtain ⟨v1, rfl, r2⟩ := tyVersion_rd r_0
  have r7 := r2
  obtain ⟨m3, A4, c5, rfl, q6⟩ := r2
  obtain ⟨v8, rfl, r9⟩ := tyVersion_rd r_1
  have r14 := r9
  obtain ⟨m10, A11, c12, rfl, q13⟩ := r9
  refine call_enterM (L := [(0, .agg #[.int .i64 x0.Id, .slice A4 x0.Values.length c5, .int .i64 x0.Born, .int .i64 x0.Died]), (1, .agg #[.int .i64 x1.Id, .slice A11 x1.Values.length c12, .int .i64 x1.Born, .int .i64 x1.Died])]) (N := 34) Try.func112 rfl rfl (Nat.le_of_ble_eq_true rfl) (argsL_cons rfl (argsL_cons rfl argsL_nil)) ?_
  refine sr ?_
  refine WM_box rfl (Wd_none rfl) (by decide) (fun p15 => ?_)
  refine WM_box rfl (Wd_none rfl) (by decide) (fun p16 => ?_)
  refine wa ?_
  refine nt' ?_
  refine sr ?_
  refine wv (fun W hm => rv_field Try.underlying102 rfl Try.type3 (by decide) rfl rfl) ?_
  refine wv (fun W hm => rv_load Try.underlying3 rfl rfl (hm.boxCell (n := 1) (o := 0) rfl rfl)) ?_
  refine wv (fun W hm => rv_field Try.underlying102 rfl Try.type3 (by decide) rfl rfl) ?_
  refine wv (fun W hm => rv_load Try.underlying3 rfl rfl (hm.boxCell (n := 0) (o := 0) rfl rfl)) ?_
  refine wv (fun W hm => rv_neq rfl rfl) ?_
  refine wm ?_
  by_cases h17 : x0.Id = x1.Id
  · have g18 : (x0.Id != x1.Id) = false := by rw [h17]; exact bne_self_eq_false _
    refine wg (fun W hm => rv_field Try.underlying102 rfl Try.type3 (by decide) rfl rfl) g18 ?_
    refine wg (fun W hm => rv_load Try.underlying3 rfl rfl (hm.boxCell (n := 1) (o := 3) rfl rfl)) g18 ?_
    refine wg (fun W hm => rv_neq rfl rfl) g18 ?_
    refine wg (fun W hm => rv_move rfl) g18 ?_
    by_cases h19 : x0.Died = (-1)
    · have g20 : (x0.Died != (-1)) = false := by rw [h19]; exact bne_self_eq_false _
      refine ws g20 ?_
      refine ws g20 ?_
      refine ws g20 ?_
      refine ws g20 ?_
      refine ws g20 ?_
      refine wg (fun W hm => rv_pickF rfl g20 rfl) g18 ?_
      refine wv (fun W hm => rv_pickF rfl g18 rfl) ?_
      refine wm ?_
      refine WM_val (fun W hm => rv_field Try.underlying102 rfl Try.type3 (by decide) rfl rfl) (Wd_some rfl rfl rfl rfl) rfl (by decide) ?_
      refine WM_val (fun W hm => rv_load Try.underlying3 rfl rfl (hm.boxCell (n := 0) (o := 3) rfl rfl)) (Wd_some rfl rfl rfl rfl) rfl (by decide) ?_
      refine WM_val (fun W hm => rv_neq rfl rfl) (Wd_some rfl rfl rfl rfl) rfl (by decide) ?_
      refine WM_val (fun W hm => rv_move rfl) (Wd_some rfl rfl rfl rfl) rfl (by decide) ?_
      by_cases h21 : x1.Died = (-1)
      · have g22 : (x1.Died != (-1)) = false := by rw [h21]; exact bne_self_eq_false _
        refine ws g22 ?_
        refine ws g22 ?_
        refine ws g22 ?_
        refine ws g22 ?_
        refine ws g22 ?_
        refine WM_val (fun W hm => rv_pickF rfl g22 rfl) (Wd_some rfl rfl rfl rfl) rfl (by decide) ?_
        refine wv (fun W hm => rv_pickF rfl rfl rfl) ?_
        refine wa ?_
        refine nt' ?_
        refine CM_ret ?_
        exact QM_ret1 rfl rfl (fun W hm => ⟨ret_b (show spec_l7Apart_m x0 x1 = false from by unfold spec_l7Apart_m; exact cond_f g18 (cond_f g20 (cond_f g22 (rfl)))), hm.below⟩)
      · have g22 : (x1.Died != (-1)) = true := bne_iff_ne.2 h21
        refine wg (fun W hm => rv_field Try.underlying102 rfl Try.type3 (by decide) rfl rfl) g22 ?_
        refine wg (fun W hm => rv_load Try.underlying3 rfl rfl (hm.boxCell (n := 0) (o := 3) rfl rfl)) g22 ?_
        refine wg (fun W hm => rv_field Try.underlying102 rfl Try.type3 (by decide) rfl rfl) g22 ?_
        refine wg (fun W hm => rv_load Try.underlying3 rfl rfl (hm.boxCell (n := 1) (o := 2) rfl rfl)) g22 ?_
        refine wg (fun W hm => rv_leq rfl rfl) g22 ?_
        refine WM_val (fun W hm => rv_pickT rfl g22 rfl) (Wd_some rfl rfl rfl rfl) rfl (by decide) ?_
        refine wv (fun W hm => rv_pickF rfl rfl rfl) ?_
        refine wa ?_
        refine nt' ?_
        refine CM_ret ?_
        exact QM_ret1 rfl rfl (fun W hm => ⟨ret_b (show spec_l7Apart_m x0 x1 = (decide (x1.Died ≤ x0.Born)) from by unfold spec_l7Apart_m; exact cond_f g18 (cond_f g20 (cond_t g22 (rfl)))), hm.below⟩)
    · have g20 : (x0.Died != (-1)) = true := bne_iff_ne.2 h19
      refine wg (fun W hm => rv_field Try.underlying102 rfl Try.type3 (by decide) rfl rfl) g20 ?_
      refine wg (fun W hm => rv_load Try.underlying3 rfl rfl (hm.boxCell (n := 1) (o := 3) rfl rfl)) g20 ?_
      refine wg (fun W hm => rv_field Try.underlying102 rfl Try.type3 (by decide) rfl rfl) g20 ?_
      refine wg (fun W hm => rv_load Try.underlying3 rfl rfl (hm.boxCell (n := 0) (o := 2) rfl rfl)) g20 ?_
      refine wg (fun W hm => rv_leq rfl rfl) g20 ?_
      refine wg (fun W hm => rv_pickT rfl g20 rfl) g18 ?_
      refine wv (fun W hm => rv_pickF rfl g18 rfl) ?_
      refine wm ?_
      by_cases h23 : x0.Died ≤ x1.Born
      · have g24 : (decide (x0.Died ≤ x1.Born)) = true := decide_eq_true h23
        refine ws g24 ?_
        refine ws g24 ?_
        refine ws g24 ?_
        refine ws g24 ?_
        refine wu ?_
        refine wu ?_
        refine wu ?_
        refine wu ?_
        refine wu ?_
        refine ws g24 ?_
        refine wv (fun W hm => rv_pickT rfl g24 rfl) ?_
        refine wa ?_
        refine nt' ?_
        refine CM_ret ?_
        exact QM_ret1 rfl rfl (fun W hm => ⟨ret_b (show spec_l7Apart_m x0 x1 = true from by unfold spec_l7Apart_m; exact cond_f g18 (cond_t g20 (cond_t g24 (rfl)))), hm.below⟩)
      · have g24 : (decide (x0.Died ≤ x1.Born)) = false := decide_eq_false h23
        refine wg (fun W hm => rv_field Try.underlying102 rfl Try.type3 (by decide) rfl rfl) g24 ?_
        refine wg (fun W hm => rv_load Try.underlying3 rfl rfl (hm.boxCell (n := 0) (o := 3) rfl rfl)) g24 ?_
        refine wg (fun W hm => rv_neq rfl rfl) g24 ?_
        refine wg (fun W hm => rv_move rfl) g24 ?_
        by_cases h25 : x1.Died = (-1)
        · have g26 : (x1.Died != (-1)) = false := by rw [h25]; exact bne_self_eq_false _
          refine ws g26 ?_
          refine ws g26 ?_
          refine ws g26 ?_
          refine ws g26 ?_
          refine ws g26 ?_
          refine wg (fun W hm => rv_pickF rfl g26 rfl) g24 ?_
          refine wv (fun W hm => rv_pickF rfl g24 rfl) ?_
          refine wa ?_
          refine nt' ?_
          refine CM_ret ?_
          exact QM_ret1 rfl rfl (fun W hm => ⟨ret_b (show spec_l7Apart_m x0 x1 = false from by unfold spec_l7Apart_m; exact cond_f g18 (cond_t g20 (cond_f g24 (cond_f g26 (rfl))))), hm.below⟩)
        · have g26 : (x1.Died != (-1)) = true := bne_iff_ne.2 h25
          refine wg (fun W hm => rv_field Try.underlying102 rfl Try.type3 (by decide) rfl rfl) g26 ?_
          refine wg (fun W hm => rv_load Try.underlying3 rfl rfl (hm.boxCell (n := 0) (o := 3) rfl rfl)) g26 ?_
          refine wg (fun W hm => rv_field Try.underlying102 rfl Try.type3 (by decide) rfl rfl) g26 ?_
          refine wg (fun W hm => rv_load Try.underlying3 rfl rfl (hm.boxCell (n := 1) (o := 2) rfl rfl)) g26 ?_
          refine wg (fun W hm => rv_leq rfl rfl) g26 ?_
          refine wg (fun W hm => rv_pickT rfl g26 rfl) g24 ?_
          refine wv (fun W hm => rv_pickF rfl g24 rfl) ?_
          refine wa ?_
          refine nt' ?_
          refine CM_ret ?_
          exact QM_ret1 rfl rfl (fun W hm => ⟨ret_b (show spec_l7Apart_m x0 x1 = (decide (x1.Died ≤ x0.Born)) from by unfold spec_l7Apart_m; exact cond_f g18 (cond_t g20 (cond_f g24 (cond_t g26 (rfl))))), hm.below⟩)
  · have g18 : (x0.Id != x1.Id) = true := bne_iff_ne.2 h17
    refine ws g18 ?_
    refine ws g18 ?_
    refine ws g18 ?_
    refine ws g18 ?_
    refine wu ?_
    refine wu ?_
    refine wu ?_
    refine wu ?_
    refine wu ?_
    refine ws g18 ?_
    refine wv (fun W hm => rv_pickT rfl g18 rfl) ?_
    refine wm ?_
    refine WM_skip (Wd_some rfl rfl rfl rfl) rfl (by decide) ?_
    refine WM_skip (Wd_some rfl rfl rfl rfl) rfl (by decide) ?_
    refine WM_skip (Wd_some rfl rfl rfl rfl) rfl (by decide) ?_
    refine WM_skip (Wd_some rfl rfl rfl rfl) rfl (by decide) ?_
    refine wu ?_
    refine wu ?_
    refine wu ?_
    refine wu ?_
    refine wu ?_
    refine WM_skip (Wd_some rfl rfl rfl rfl) rfl (by decide) ?_
    refine wv (fun W hm => rv_pickT rfl rfl rfl) ?_
    refine wa ?_
    refine nt' ?_
    refine CM_ret ?_
    exact QM_ret1 rfl rfl (fun W hm => ⟨ret_b (show spec_l7Apart_m x0 x1 = true from by unfold spec_l7Apart_m; exact cond_t g18 (rfl)), hm.below⟩)

def spec_IsStore_b3 (x0 : DStore) (k42 : Nat) (k62 : Nat) : Bool ⊕ (Unit) :=
  cond (spec_l7Apart_m (gt (spec_l7All_m x0) k42) (gt (spec_l7All_m x0) k62)) (Sum.inr ()) (Sum.inl false)
def spec_IsStore_b2 (x0 : DStore) (k42 : Nat) : Bool ⊕ (Unit) :=
  cond (spec_l7Version_m (gt (spec_l7All_m x0) k42) x0.Now) (Sum.elim Sum.inl (fun (s : Unit) => Sum.inr ()) (rng (R := Bool) (fun k (_ : Unit) => spec_IsStore_b3 x0 k42 k) (k42 - 0) 0 ())) (Sum.inl false)
def spec_IsStore_b1 (x0 : DStore) (k14 : Nat) : Bool ⊕ (Unit) :=
  cond (decide (4 < ((((gt x0.Segments k14)).length : Nat) : Int))) (Sum.inl false) (Sum.inr ())
def spec_IsStore_m (x0 : DStore) : Bool :=
  cond (spec_l1In_m ((x0.Segments.length : Nat) : Int) 1 8) (cond (spec_l1In_m x0.Now 0 100000) (Sum.elim id (fun (s : Unit) => Sum.elim id (fun (s : Unit) => true) (rng (R := Bool) (fun k (_ : Unit) => spec_IsStore_b2 x0 k) ((spec_l7All_m x0).length - 0) 0 ())) (rng (R := Bool) (fun k (_ : Unit) => spec_IsStore_b1 x0 k) (x0.Segments.length - 0) 0 ())) false) false
theorem spec_IsStore_hq {x0 : DStore} (h : ((x0.Segments.length : Nat) : Int) ≤ 8) (hE : rng (R := Bool) (fun k (_ : Unit) => spec_IsStore_b1 x0 k) (x0.Segments.length - 0) 0 () = .inr ()) : (x0.Segments.map List.length).sum ≤ 68719476736 := by
  have h1 := sum_le_mul (w := List.length) (c := 4) (xs := x0.Segments) fun j hj => by
    have h2 := rng_noneU _ _ hE j (Nat.zero_le _) (by omega)
    unfold spec_IsStore_b1 at h2
    by_cases h3 : 4 < ((gt x0.Segments j).length : Int)
    · rw [decide_eq_true h3] at h2; cases h2
    · omega
  omega
set_option maxRecDepth 100000 in
theorem cb69 : Cb Try.prog 69 := ⟨Try.f69, _, Try.func69, rfl, by decide⟩
set_option maxRecDepth 10000 in
set_option maxHeartbeats 4000000 in
theorem spec_IsStore_c (w : World) (z0 : List Value) (x0 : DStore) (r_0 : tyStore.rd w w.heap.size z0 x0) (s_0 : smStore 68719476736 x0) :
    Calls Try.prog 69 #[.agg z0.toArray] w fun e w' => e = .returned (.bool (spec_IsStore_m x0)) ∧ Below w.heap.size w w' := by
  obtain ⟨v1, rfl, r2⟩ := tyStore_rd r_0
  have r7 := r2
  obtain ⟨m3, A4, c5, rfl, q6⟩ := r2
  have l8 : x0.Segments.length ≤ 68719476736 := s_0.1
  refine call_enterM (L := [(0, .agg #[.slice A4 x0.Segments.length c5, .int .i64 x0.Now])]) (N := 63) Try.func69 rfl rfl (Nat.le_of_ble_eq_true rfl) (argsL_cons rfl argsL_nil) ?_
  refine sr ?_
  refine WM_box rfl (Wd_none rfl) (by decide) (fun p9 => ?_)
  refine wa ?_
  refine nt' ?_
  refine CM_seq ?_
  refine sr ?_
  refine wv (fun W hm => rv_field Try.underlying45 rfl Try.type43 (by decide) rfl rfl) ?_
  refine wv (fun W hm => rv_load Try.underlying43 rfl rfl (hm.boxCell (n := 0) (o := 0) rfl rfl)) ?_
  refine wv (fun W hm => rv_len Try.underlying43 rfl) ?_
  refine WM_callV (cl_fn cb110 rfl) (fun W hm => spec_l1In_c W ((x0.Segments.length : Nat) : Int) 1 8) (Wd_none rfl) (by decide) ?_
  refine wv (fun W hm => rv_not rfl) ?_
  refine wm ?_
  rcases Bool.eq_false_or_eq_true (spec_l1In_m ((x0.Segments.length : Nat) : Int) 1 8) with g11 | g11
  ·
    have hw := spec_l1In_fact g11
    refine wg (fun W hm => rv_field Try.underlying45 rfl Try.type3 (by decide) rfl rfl) (nt g11) ?_
    refine wg (fun W hm => rv_load Try.underlying3 rfl rfl (hm.boxCell (n := 0) (o := 1) rfl rfl)) (nt g11) ?_
    refine WM_callV (cl_fn cb110 rfl) (fun W hm => spec_l1In_c W x0.Now 0 100000) (Wd_some rfl rfl rfl (bw (nt g11) rfl)) (by decide) ?_
    refine wg (fun W hm => rv_not rfl) (nt g11) ?_
    refine wv (fun W hm => rv_pickF rfl (nt g11) rfl) ?_
    refine nt' ?_
    rcases Bool.eq_false_or_eq_true (spec_l1In_m x0.Now 0 100000) with g13 | g13
    ·
      have hw := spec_l1In_fact g13
      refine CM_condF rfl (nt g13) ?_
      refine CM_skip ?_
      refine QM_then ?_
      refine CM_seq ?_
      refine sr ?_
      refine wa ?_
      refine nt' ?_
      refine CM_block ?_
      refine CM_loop (σ := Nat × (Unit) × (Unit)) (fun s => [(1, .pointer (some (⟨p9, 0, none⟩ : Addr))), (3, .int .i64 ((s.1 : Nat) : Int))]) (fun s => [iBox p9 45 [.slice A4 x0.Segments.length c5, .int .i64 x0.Now]]) (fun s => s.1 ≤ x0.Segments.length ∧ rng (R := Bool) (fun k (_ : Unit) => spec_IsStore_b1 x0 k) (x0.Segments.length - s.1) s.1 s.2.1 = rng (R := Bool) (fun k (_ : Unit) => spec_IsStore_b1 x0 k) (x0.Segments.length - 0) 0 ()) (fun s => x0.Segments.length - s.1) (0, (), ()) (subL_cons rfl (subL_cons rfl subL_nil)) (fun W hm => hm) ⟨(by omega), rfl⟩ ?_
      rintro ⟨k14, ⟨⟩, ⟨⟩⟩ H17
      obtain ⟨hk15, hF16⟩ : k14 ≤ x0.Segments.length ∧ rng (R := Bool) (fun k (_ : Unit) => spec_IsStore_b1 x0 k) (x0.Segments.length - k14) k14 () = rng (R := Bool) (fun k (_ : Unit) => spec_IsStore_b1 x0 k) (x0.Segments.length - 0) 0 () := H17
      show CM Try.prog 63 _ _ _ _ [(1, .pointer (some (⟨p9, 0, none⟩ : Addr))), (3, .int .i64 ((k14 : Nat) : Int))] [iBox p9 45 [.slice A4 x0.Segments.length c5, .int .i64 x0.Now]]
      refine CM_seq ?_
      refine sr ?_
      refine wm ?_
      refine wv (fun W hm => rv_field Try.underlying45 rfl Try.type43 (by decide) rfl rfl) ?_
      refine wv (fun W hm => rv_load Try.underlying43 rfl rfl (hm.boxCell (n := 0) (o := 0) rfl rfl)) ?_
      refine wv (fun W hm => rv_len Try.underlying43 rfl) ?_
      refine wv (fun W hm => rv_lss rfl rfl) ?_
      refine nt' ?_
      by_cases hl18 : k14 < x0.Segments.length
      · have g19 : (decide (((k14 : Nat) : Int) < ((x0.Segments.length : Nat) : Int))) = true := decide_eq_true (by omega)
        refine CM_condT rfl g19 ?_
        refine CM_skip ?_
        refine QM_then ?_
        refine CM_seq ?_
        refine CM_block ?_
        refine sr ?_
        refine wv (fun W hm => rv_field Try.underlying45 rfl Try.type43 (by decide) rfl rfl) ?_
        refine wv (fun W hm => rv_load Try.underlying43 rfl rfl (hm.boxCell (n := 0) (o := 0) rfl rfl)) ?_
        refine wm ?_
        obtain ⟨a20, rfl, hb21, he22⟩ := q6 (by omega)
        refine wv (fun W hm => rv_index (sz := 1) (k := k14) Try.underlying43 Try.type100 rfl rfl rfl (by omega)) ?_
        obtain ⟨_, e24, hc23⟩ := he22 k14 _ (gt_some (show k14 < x0.Segments.length from by omega))
        have l25 : (gt x0.Segments k14).length ≤ 68719476736 := (s_0.2 _ (gt_mem (show k14 < x0.Segments.length from by omega))).1
        obtain ⟨v26, rfl, r27⟩ := e24
        have r32 := r27
        obtain ⟨m28, A29, c30, rfl, q31⟩ := r27
        refine wv (fun W hm => rv_load Try.underlying100 rfl rfl ((hm.cell0 (show (a20.add (k14 * 1)).block < w.heap.size from by rw [add_block]; exact hb21.1)).trans (hc23 0 _ rfl))) ?_
        refine wv (fun W hm => rv_len Try.underlying100 rfl) ?_
        refine wv (fun W hm => rv_gtr rfl rfl) ?_
        refine nt' ?_
        by_cases h33 : 4 < ((((gt x0.Segments k14)).length : Nat) : Int)
        · have g34 : (decide (4 < ((((gt x0.Segments k14)).length : Nat) : Int))) = true := decide_eq_true h33
          refine CM_condT rfl g34 ?_
          refine sr ?_
          refine wa ?_
          refine nt' ?_
          refine CM_ret ?_
          refine QM_block_ret ?_
          refine QM_then_ret ?_
          refine QM_then_ret ?_
          refine QM_block_ret ?_
          refine QM_then_ret ?_
          exact QM_ret1 rfl rfl (fun W hm => ⟨ret_b (show spec_IsStore_m x0 = false from by unfold spec_IsStore_m; exact cond_t g11 (cond_t g13 (fin_inl (rng_ret (body := (fun k (_ : Unit) => spec_IsStore_b1 x0 k)) (k := k14) (s := ()) (show k14 < x0.Segments.length from by omega) (show spec_IsStore_b1 x0 k14 = Sum.inl false from by unfold spec_IsStore_b1; exact cond_t g34 (rfl)) hF16) rfl))), hm.below⟩)
        · have g34 : (decide (4 < ((((gt x0.Segments k14)).length : Nat) : Int))) = false := decide_eq_false h33
          refine CM_condF rfl g34 ?_
          refine CM_skip ?_
          refine QM_block_normal ?_
          refine QM_then ?_
          refine CM_region ?_
          refine wm ?_
          refine wv (fun W hm => rv_addN (p := k14) (q := 1) rfl rfl (by omega)) ?_
          refine wa ?_
          refine WM_nil ?_
          have hn35 := rng_next (R := Bool) (body := (fun k (_ : Unit) => spec_IsStore_b1 x0 k)) (k := k14) (s := ()) (s' := ()) (show k14 < x0.Segments.length from by omega) (show spec_IsStore_b1 x0 k14 = Sum.inr () from by unfold spec_IsStore_b1; exact cond_f g34 (rfl)) hF16
          exact QM_round (k14 + 1, (), ()) (subL_cons rfl (subL_cons rfl subL_nil)) (fun W hm => hm) ⟨(by omega), hn35⟩ (show x0.Segments.length - (k14 + 1) < x0.Segments.length - k14 from by omega)
      · have g19 : (decide (((k14 : Nat) : Int) < ((x0.Segments.length : Nat) : Int))) = false := decide_eq_false (by omega)
        refine CM_condF rfl g19 ?_
        refine CM_exit ?_
        refine QM_then_exit ?_
        refine QM_then_exit ?_
        have hE36 : rng (R := Bool) (fun k (_ : Unit) => spec_IsStore_b1 x0 k) (x0.Segments.length - 0) 0 () = Sum.inr () := rng_end hl18 hF16
        have HQ := spec_IsStore_hq (by omega) hE36
        refine QM_block_hit ?_
        refine QM_then ?_
        refine sr ?_
        refine wv (fun W hm => rv_loadN (cs := [.slice A4 x0.Segments.length c5, .int .i64 x0.Now]) Try.underlying45 Try.type45 rfl rfl (hm.boxCells (n := 0) rfl)) ?_
        refine WM_callW (χ := Value) (val := fun x => x) (js := fun x => (iOwn (tSl (tBor tyVersion w w.heap.size) 102) [x] (spec_l7All_m x0) :: [iBox p9 45 [.slice A4 x0.Segments.length c5, .int .i64 x0.Now]])) (cl_fn cb99 rfl) (fun W hm => spec_l7All_c w.heap.size w [iBox p9 45 [.slice A4 x0.Segments.length c5, .int .i64 x0.Now]] W _ x0 (tyStore_mk r7) s_0 (HQ) hm) (Wd_none rfl) (by decide) (fun v37 => ?_)
        refine WM_form (n := 0) rfl ?_
        rintro A38 c39 rfl m40
        refine wa ?_
        refine nt' ?_
        refine CM_seq ?_
        refine sr ?_
        refine wa ?_
        refine nt' ?_
        refine CM_block ?_
        refine CM_loop (σ := Nat × (Unit) × (Unit)) (fun s => [(1, .pointer (some (⟨p9, 0, none⟩ : Addr))), (4, .slice A38 (spec_l7All_m x0).length c39), (5, .int .i64 ((s.1 : Nat) : Int))]) (fun s => [iOwn (tSl (tBor tyVersion w w.heap.size) 102) [.slice A38 (spec_l7All_m x0).length c39] (spec_l7All_m x0), iBox p9 45 [.slice A4 x0.Segments.length c5, .int .i64 x0.Now]]) (fun s => s.1 ≤ (spec_l7All_m x0).length ∧ rng (R := Bool) (fun k (_ : Unit) => spec_IsStore_b2 x0 k) ((spec_l7All_m x0).length - s.1) s.1 s.2.1 = rng (R := Bool) (fun k (_ : Unit) => spec_IsStore_b2 x0 k) ((spec_l7All_m x0).length - 0) 0 ()) (fun s => (spec_l7All_m x0).length - s.1) (0, (), ()) (subL_cons rfl (subL_cons rfl (subL_cons rfl subL_nil))) (fun W hm => hm) ⟨(by omega), rfl⟩ ?_
        rintro ⟨k42, ⟨⟩, ⟨⟩⟩ H45
        obtain ⟨hk43, hF44⟩ : k42 ≤ (spec_l7All_m x0).length ∧ rng (R := Bool) (fun k (_ : Unit) => spec_IsStore_b2 x0 k) ((spec_l7All_m x0).length - k42) k42 () = rng (R := Bool) (fun k (_ : Unit) => spec_IsStore_b2 x0 k) ((spec_l7All_m x0).length - 0) 0 () := H45
        show CM Try.prog 63 _ _ _ _ [(1, .pointer (some (⟨p9, 0, none⟩ : Addr))), (4, .slice A38 (spec_l7All_m x0).length c39), (5, .int .i64 ((k42 : Nat) : Int))] [iOwn (tSl (tBor tyVersion w w.heap.size) 102) [.slice A38 (spec_l7All_m x0).length c39] (spec_l7All_m x0), iBox p9 45 [.slice A4 x0.Segments.length c5, .int .i64 x0.Now]]
        refine CM_seq ?_
        refine sr ?_
        refine wm ?_
        refine wm ?_
        refine wv (fun W hm => rv_len Try.underlying100 rfl) ?_
        refine wv (fun W hm => rv_lss rfl rfl) ?_
        refine nt' ?_
        by_cases hl46 : k42 < (spec_l7All_m x0).length
        · have g47 : (decide (((k42 : Nat) : Int) < (((spec_l7All_m x0).length : Nat) : Int))) = true := decide_eq_true (by omega)
          refine CM_condT rfl g47 ?_
          refine CM_skip ?_
          refine QM_then ?_
          refine CM_seq ?_
          refine CM_block ?_
          refine CM_seq ?_
          refine CM_seq ?_
          refine CM_formO (n := 0) rfl (by omega) ?_
          rintro g48 rfl
          refine CM_expose (T := tyVersion) (wb := w) (Bb := w.heap.size) (e := 102) (g := g48) (n := (spec_l7All_m x0).length) (c := c39) (xs := (spec_l7All_m x0)) (js := [iBox p9 45 [.slice A4 x0.Segments.length c5, .int .i64 x0.Now]]) (fun W hm => hm) ?_
          rintro ck49 rk50
          refine CM_regionD (by kernel_rfl) (by kernel_rfl) ?_
          refine qm ?_
          refine qm ?_
          refine qv (fun W hm => rv_index (sz := 4) (k := k42) Try.underlying100 Try.type102 rfl rfl rfl (by omega)) ?_
          obtain ⟨_, e51, hc52⟩ := rk50.get (j := k42) (by omega)
          obtain ⟨v53, rfl, r54⟩ := tyVersion_rd e51
          have r59 := r54
          obtain ⟨m55, A56, c57, rfl, q58⟩ := r54
          refine qv (fun W hm => rv_loadN (cs := [.int .i64 ((gt (spec_l7All_m x0) k42).Id), .slice A56 ((gt (spec_l7All_m x0) k42).Values).length c57, .int .i64 ((gt (spec_l7All_m x0) k42).Born), .int .i64 ((gt (spec_l7All_m x0) k42).Died)]) Try.underlying102 Try.type102 rfl rfl (hm.rowCells (i := 0) rfl hc52)) ?_
          refine qv (fun W hm => rv_field Try.underlying45 rfl Try.type3 (by decide) rfl rfl) ?_
          refine qv (fun W hm => rv_load Try.underlying3 rfl rfl (hm.boxCell (n := 1) (o := 1) rfl rfl)) ?_
          refine QR_callV (cl_fn cb111 rfl) (fun W hm => spec_l7Version_c W _ (gt (spec_l7All_m x0) k42) x0.Now (tyVersion_mk (x := (gt (spec_l7All_m x0) k42)) (hm.rdS0 r59))) (Wd_none rfl) (by decide) ?_
          refine qv (fun W hm => rv_not rfl) ?_
          refine nq' ?_
          rcases Bool.eq_false_or_eq_true (spec_l7Version_m (gt (spec_l7All_m x0) k42) x0.Now) with g61 | g61
          ·
            refine CM_condF rfl (nt g61) ?_
            refine CM_skip ?_
            refine QM_then ?_
            refine sr ?_
            refine wa ?_
            refine nt' ?_
            refine CM_block ?_
            refine CM_items (fun W hm => Mem.hide rk50 hm) ?_
            refine CM_loop (σ := Nat × (Unit) × (Unit)) (fun s => [(1, .pointer (some (⟨p9, 0, none⟩ : Addr))), (4, .slice (some ⟨g48, 0, none⟩) (spec_l7All_m x0).length c39), (5, .int .i64 ((k42 : Nat) : Int)), (6, .int .i64 ((s.1 : Nat) : Int))]) (fun s => [iOwn (tSl (tBor tyVersion w w.heap.size) 102) [.slice (some ⟨g48, 0, none⟩) (spec_l7All_m x0).length c39] (spec_l7All_m x0), iBox p9 45 [.slice A4 x0.Segments.length c5, .int .i64 x0.Now]]) (fun s => s.1 ≤ k42 ∧ rng (R := Bool) (fun k (_ : Unit) => spec_IsStore_b3 x0 k42 k) (k42 - s.1) s.1 s.2.1 = rng (R := Bool) (fun k (_ : Unit) => spec_IsStore_b3 x0 k42 k) (k42 - 0) 0 ()) (fun s => k42 - s.1) (0, (), ()) (subL_cons rfl (subL_cons rfl (subL_cons rfl (subL_cons rfl subL_nil)))) (fun W hm => hm) ⟨(by omega), rfl⟩ ?_
            rintro ⟨k62, ⟨⟩, ⟨⟩⟩ H65
            obtain ⟨hk63, hF64⟩ : k62 ≤ k42 ∧ rng (R := Bool) (fun k (_ : Unit) => spec_IsStore_b3 x0 k42 k) (k42 - k62) k62 () = rng (R := Bool) (fun k (_ : Unit) => spec_IsStore_b3 x0 k42 k) (k42 - 0) 0 () := H65
            show CM Try.prog 63 _ _ _ _ [(1, .pointer (some (⟨p9, 0, none⟩ : Addr))), (4, .slice (some ⟨g48, 0, none⟩) (spec_l7All_m x0).length c39), (5, .int .i64 ((k42 : Nat) : Int)), (6, .int .i64 ((k62 : Nat) : Int))] [iOwn (tSl (tBor tyVersion w w.heap.size) 102) [.slice (some ⟨g48, 0, none⟩) (spec_l7All_m x0).length c39] (spec_l7All_m x0), iBox p9 45 [.slice A4 x0.Segments.length c5, .int .i64 x0.Now]]
            refine CM_seq ?_
            refine sr ?_
            refine wm ?_
            refine wm ?_
            refine wv (fun W hm => rv_lss rfl rfl) ?_
            refine nt' ?_
            by_cases hl66 : k62 < k42
            · have g67 : (decide (((k62 : Nat) : Int) < ((k42 : Nat) : Int))) = true := decide_eq_true (by omega)
              refine CM_condT rfl g67 ?_
              refine CM_skip ?_
              refine QM_then ?_
              refine CM_seq ?_
              refine CM_block ?_
              refine CM_seq ?_
              refine CM_expose (T := tyVersion) (wb := w) (Bb := w.heap.size) (e := 102) (g := g48) (n := (spec_l7All_m x0).length) (c := c39) (xs := (spec_l7All_m x0)) (js := [iBox p9 45 [.slice A4 x0.Segments.length c5, .int .i64 x0.Now]]) (fun W hm => hm) ?_
              rintro ck68 rk69
              refine CM_regionD (by kernel_rfl) (by kernel_rfl) ?_
              refine qm ?_
              refine qm ?_
              refine qv (fun W hm => rv_index (sz := 4) (k := k42) Try.underlying100 Try.type102 rfl rfl rfl (by omega)) ?_
              obtain ⟨_, e70, hc71⟩ := rk69.get (j := k42) (by omega)
              obtain ⟨v72, rfl, r73⟩ := tyVersion_rd e70
              have r78 := r73
              obtain ⟨m74, A75, c76, rfl, q77⟩ := r73
              refine qv (fun W hm => rv_loadN (cs := [.int .i64 ((gt (spec_l7All_m x0) k42).Id), .slice A75 ((gt (spec_l7All_m x0) k42).Values).length c76, .int .i64 ((gt (spec_l7All_m x0) k42).Born), .int .i64 ((gt (spec_l7All_m x0) k42).Died)]) Try.underlying102 Try.type102 rfl rfl (hm.rowCells (i := 0) rfl hc71)) ?_
              refine qm ?_
              refine qm ?_
              refine qv (fun W hm => rv_index (sz := 4) (k := k62) Try.underlying100 Try.type102 rfl rfl rfl (by omega)) ?_
              obtain ⟨_, e79, hc80⟩ := rk69.get (j := k62) (by omega)
              obtain ⟨v81, rfl, r82⟩ := tyVersion_rd e79
              have r87 := r82
              obtain ⟨m83, A84, c85, rfl, q86⟩ := r82
              refine qv (fun W hm => rv_loadN (cs := [.int .i64 ((gt (spec_l7All_m x0) k62).Id), .slice A84 ((gt (spec_l7All_m x0) k62).Values).length c85, .int .i64 ((gt (spec_l7All_m x0) k62).Born), .int .i64 ((gt (spec_l7All_m x0) k62).Died)]) Try.underlying102 Try.type102 rfl rfl (hm.rowCells (i := 0) rfl hc80)) ?_
              refine QR_callV (cl_fn cb112 rfl) (fun W hm => spec_l7Apart_c W _ (gt (spec_l7All_m x0) k42) _ (gt (spec_l7All_m x0) k62) (tyVersion_mk (x := (gt (spec_l7All_m x0) k42)) (hm.rdS0 r78)) (tyVersion_mk (x := (gt (spec_l7All_m x0) k62)) (hm.rdS0 r87))) (Wd_none rfl) (by decide) ?_
              refine qv (fun W hm => rv_not rfl) ?_
              refine nq' ?_
              rcases Bool.eq_false_or_eq_true (spec_l7Apart_m (gt (spec_l7All_m x0) k42) (gt (spec_l7All_m x0) k62)) with g89 | g89
              ·
                refine CM_condF rfl (nt g89) ?_
                refine CM_skip ?_
                refine QM_block_normal ?_
                refine QM_then ?_
                refine CM_region ?_
                refine wm ?_
                refine wv (fun W hm => rv_addN (p := k62) (q := 1) rfl rfl (by omega)) ?_
                refine wa ?_
                refine WM_nil ?_
                refine QM_items (fun W hm => Mem.hide rk69 hm) ?_
                have hn90 := rng_next (R := Bool) (body := (fun k (_ : Unit) => spec_IsStore_b3 x0 k42 k)) (k := k62) (s := ()) (s' := ()) (show k62 < k42 from by omega) (show spec_IsStore_b3 x0 k42 k62 = Sum.inr () from by unfold spec_IsStore_b3; exact cond_t g89 (rfl)) hF64
                exact QM_round (k62 + 1, (), ()) (subL_cons rfl (subL_cons rfl (subL_cons rfl (subL_cons rfl subL_nil)))) (fun W hm => hm) ⟨(by omega), hn90⟩ (show k42 - (k62 + 1) < k42 - k62 from by omega)
              ·
                refine CM_condT rfl (nf g89) ?_
                refine sr ?_
                refine wa ?_
                refine nt' ?_
                refine CM_ret ?_
                refine QM_block_ret ?_
                refine QM_then_ret ?_
                refine QM_then_ret ?_
                refine QM_block_ret ?_
                refine QM_block_ret ?_
                refine QM_then_ret ?_
                refine QM_then_ret ?_
                refine QM_block_ret ?_
                refine QM_then_ret ?_
                refine QM_items (fun W hm => Mem.hide rk69 hm) ?_
                exact QM_ret1 rfl rfl (fun W hm => ⟨ret_b (show spec_IsStore_m x0 = false from by unfold spec_IsStore_m; exact cond_t g11 (cond_t g13 (fin_inr hE36 (fin_inl (rng_ret (body := (fun k (_ : Unit) => spec_IsStore_b2 x0 k)) (k := k42) (s := ()) (show k42 < (spec_l7All_m x0).length from by omega) (show spec_IsStore_b2 x0 k42 = Sum.inl false from by unfold spec_IsStore_b2; exact cond_t g61 (fin_inl (rng_ret (body := (fun k (_ : Unit) => spec_IsStore_b3 x0 k42 k)) (k := k62) (s := ()) (show k62 < k42 from by omega) (show spec_IsStore_b3 x0 k42 k62 = Sum.inl false from by unfold spec_IsStore_b3; exact cond_f g89 (rfl)) hF64) rfl)) hF44) rfl)))), hm.below⟩)
            · have g67 : (decide (((k62 : Nat) : Int) < ((k42 : Nat) : Int))) = false := decide_eq_false (by omega)
              refine CM_condF rfl g67 ?_
              refine CM_exit ?_
              refine QM_then_exit ?_
              refine QM_then_exit ?_
              have hE91 : rng (R := Bool) (fun k (_ : Unit) => spec_IsStore_b3 x0 k42 k) (k42 - 0) 0 () = Sum.inr () := rng_end hl66 hF64
              refine QM_block_hit ?_
              refine QM_block_normal ?_
              refine QM_then ?_
              refine CM_region ?_
              refine wm ?_
              refine wv (fun W hm => rv_addN (p := k42) (q := 1) rfl rfl (by omega)) ?_
              refine wa ?_
              refine WM_nil ?_
              have hn92 := rng_next (R := Bool) (body := (fun k (_ : Unit) => spec_IsStore_b2 x0 k)) (k := k42) (s := ()) (s' := ()) (show k42 < (spec_l7All_m x0).length from by omega) (show spec_IsStore_b2 x0 k42 = Sum.inr () from by unfold spec_IsStore_b2; exact cond_t g61 (fin_inr hE91 (rfl))) hF44
              exact QM_round (k42 + 1, (), ()) (subL_cons rfl (subL_cons rfl (subL_cons rfl subL_nil))) (fun W hm => hm) ⟨(by omega), hn92⟩ (show (spec_l7All_m x0).length - (k42 + 1) < (spec_l7All_m x0).length - k42 from by omega)
          ·
            refine CM_condT rfl (nf g61) ?_
            refine sr ?_
            refine wa ?_
            refine nt' ?_
            refine CM_ret ?_
            refine QM_then_ret ?_
            refine QM_block_ret ?_
            refine QM_then_ret ?_
            refine QM_then_ret ?_
            refine QM_block_ret ?_
            refine QM_then_ret ?_
            refine QM_items (fun W hm => Mem.hide rk50 hm) ?_
            exact QM_ret1 rfl rfl (fun W hm => ⟨ret_b (show spec_IsStore_m x0 = false from by unfold spec_IsStore_m; exact cond_t g11 (cond_t g13 (fin_inr hE36 (fin_inl (rng_ret (body := (fun k (_ : Unit) => spec_IsStore_b2 x0 k)) (k := k42) (s := ()) (show k42 < (spec_l7All_m x0).length from by omega) (show spec_IsStore_b2 x0 k42 = Sum.inl false from by unfold spec_IsStore_b2; exact cond_f g61 (rfl)) hF44) rfl)))), hm.below⟩)
        · have g47 : (decide (((k42 : Nat) : Int) < (((spec_l7All_m x0).length : Nat) : Int))) = false := decide_eq_false (by omega)
          refine CM_condF rfl g47 ?_
          refine CM_exit ?_
          refine QM_then_exit ?_
          refine QM_then_exit ?_
          have hE93 : rng (R := Bool) (fun k (_ : Unit) => spec_IsStore_b2 x0 k) ((spec_l7All_m x0).length - 0) 0 () = Sum.inr () := rng_end hl46 hF44
          refine QM_block_hit ?_
          refine QM_then ?_
          refine sr ?_
          refine wa ?_
          refine nt' ?_
          refine CM_ret ?_
          exact QM_ret1 rfl rfl (fun W hm => ⟨ret_b (show spec_IsStore_m x0 = true from by unfold spec_IsStore_m; exact cond_t g11 (cond_t g13 (fin_inr hE36 (fin_inr hE93 (rfl))))), hm.below⟩)
    ·
      refine CM_condT rfl (nf g13) ?_
      refine sr ?_
      refine wa ?_
      refine nt' ?_
      refine CM_ret ?_
      refine QM_then_ret ?_
      exact QM_ret1 rfl rfl (fun W hm => ⟨ret_b (show spec_IsStore_m x0 = false from by unfold spec_IsStore_m; exact cond_t g11 (cond_f g13 (rfl))), hm.below⟩)
  ·
    refine ws (nf g11) ?_
    refine ws (nf g11) ?_
    refine ws (nf g11) ?_
    refine ws (nf g11) ?_
    refine wv (fun W hm => rv_pickT rfl (nf g11) rfl) ?_
    refine nt' ?_
    refine CM_condT rfl rfl ?_
    refine sr ?_
    refine wa ?_
    refine nt' ?_
    refine CM_ret ?_
    refine QM_then_ret ?_
    exact QM_ret1 rfl rfl (fun W hm => ⟨ret_b (show spec_IsStore_m x0 = false from by unfold spec_IsStore_m; exact cond_f g11 (rfl)), hm.below⟩)

def spec_IsUpdate_m (x0 : DUpdate) : Bool :=
  cond (x0.Kind == 1) (cond (spec_IsRow_m x0.Row) (cond (x0.Field == 0) (x0.Value == 0) false) false) (cond (x0.Kind == 2) (cond (spec_l1In_m x0.Row.Id 0 999) (cond (((x0.Row.Values.length : Nat) : Int) == 0) (cond (x0.Field == 0) (x0.Value == 0) false) false) false) (cond (x0.Kind == 3) (cond (spec_l1In_m x0.Row.Id 0 999) (cond (((x0.Row.Values.length : Nat) : Int) == 0) (cond (spec_l1In_m x0.Field 0 2) (spec_l1In_m x0.Value 0 99) false) false) false) false))
set_option maxRecDepth 100000 in
theorem cb90 : Cb Try.prog 90 := ⟨Try.f90, _, Try.func90, rfl, by decide⟩
set_option maxRecDepth 10000 in
set_option maxHeartbeats 4000000 in
theorem spec_IsUpdate_c (w : World) (z0 : List Value) (x0 : DUpdate) (r_0 : tyUpdate.rd w w.heap.size z0 x0) :
    Calls Try.prog 90 #[.agg z0.toArray] w fun e w' => e = .returned (.bool (spec_IsUpdate_m x0)) ∧ Below w.heap.size w w' := by
  obtain ⟨v1, rfl, r2⟩ := tyUpdate_rd r_0
  have r7 := r2
  obtain ⟨m3, A4, c5, rfl, q6⟩ := r2
  refine call_enterM (L := [(0, .agg #[.int .i64 x0.Kind, .int .i64 x0.Row.Id, .slice A4 x0.Row.Values.length c5, .int .i64 x0.Field, .int .i64 x0.Value])]) (N := 66) Try.func90 rfl rfl (Nat.le_of_ble_eq_true rfl) (argsL_cons rfl argsL_nil) ?_
  refine sr ?_
  refine WM_box rfl (Wd_none rfl) (by decide) (fun p8 => ?_)
  refine wa ?_
  refine nt' ?_
  refine CM_seq ?_
  refine sr ?_
  refine wv (fun W hm => rv_field Try.underlying71 rfl Try.type3 (by decide) rfl rfl) ?_
  refine wv (fun W hm => rv_load Try.underlying3 rfl rfl (hm.boxCell (n := 0) (o := 0) rfl rfl)) ?_
  refine nt' ?_
  refine CM_block ?_
  refine sr ?_
  refine wv (fun W hm => rv_eql rfl rfl) ?_
  refine wa ?_
  refine nt' ?_
  by_cases h9 : x0.Kind = 1
  · have g10 : (x0.Kind == 1) = true := beq_iff_eq.2 h9
    refine CM_condT rfl g10 ?_
    refine sr ?_
    refine wv (fun W hm => rv_field Try.underlying71 rfl Try.type69 (by decide) rfl rfl) ?_
    refine wv (fun W hm => rv_loadN (cs := [.int .i64 x0.Row.Id, .slice A4 x0.Row.Values.length c5]) Try.underlying69 Try.type69 rfl rfl (hm.boxPart (n := 0) rfl rfl)) ?_
    refine WM_callV (cl_fn cb81 rfl) (fun W hm => spec_IsRow_c W _ x0.Row (tyRow_mk (x := x0.Row) (hm.rdS0 r7))) (Wd_none rfl) (by decide) ?_
    refine wm ?_
    rcases Bool.eq_false_or_eq_true (spec_IsRow_m x0.Row) with g12 | g12
    ·
      refine wg (fun W hm => rv_field Try.underlying71 rfl Try.type3 (by decide) rfl rfl) g12 ?_
      refine wg (fun W hm => rv_load Try.underlying3 rfl rfl (hm.boxCell (n := 0) (o := 3) rfl rfl)) g12 ?_
      refine wg (fun W hm => rv_eql rfl rfl) g12 ?_
      refine wv (fun W hm => rv_pickT rfl g12 rfl) ?_
      refine wm ?_
      by_cases h13 : x0.Field = 0
      · have g14 : (x0.Field == 0) = true := beq_iff_eq.2 h13
        refine wg (fun W hm => rv_field Try.underlying71 rfl Try.type3 (by decide) rfl rfl) g14 ?_
        refine wg (fun W hm => rv_load Try.underlying3 rfl rfl (hm.boxCell (n := 0) (o := 4) rfl rfl)) g14 ?_
        refine wg (fun W hm => rv_eql rfl rfl) g14 ?_
        refine wv (fun W hm => rv_pickT rfl g14 rfl) ?_
        refine wa ?_
        refine nt' ?_
        refine CM_ret ?_
        refine QM_block_ret ?_
        refine QM_then_ret ?_
        exact QM_ret1 rfl rfl (fun W hm => ⟨ret_b (show spec_IsUpdate_m x0 = (x0.Value == 0) from by unfold spec_IsUpdate_m; exact cond_t g10 (cond_t g12 (cond_t g14 (rfl)))), hm.below⟩)
      · have g14 : (x0.Field == 0) = false := beq_eq_false_iff_ne.2 h13
        refine ws g14 ?_
        refine ws g14 ?_
        refine ws g14 ?_
        refine wv (fun W hm => rv_pickF rfl g14 rfl) ?_
        refine wa ?_
        refine nt' ?_
        refine CM_ret ?_
        refine QM_block_ret ?_
        refine QM_then_ret ?_
        exact QM_ret1 rfl rfl (fun W hm => ⟨ret_b (show spec_IsUpdate_m x0 = false from by unfold spec_IsUpdate_m; exact cond_t g10 (cond_t g12 (cond_f g14 (rfl)))), hm.below⟩)
    ·
      refine ws g12 ?_
      refine ws g12 ?_
      refine ws g12 ?_
      refine wv (fun W hm => rv_pickF rfl g12 rfl) ?_
      refine wm ?_
      refine WM_skip (Wd_some rfl rfl rfl rfl) rfl (by decide) ?_
      refine WM_skip (Wd_some rfl rfl rfl rfl) rfl (by decide) ?_
      refine WM_skip (Wd_some rfl rfl rfl rfl) rfl (by decide) ?_
      refine wv (fun W hm => rv_pickF rfl rfl rfl) ?_
      refine wa ?_
      refine nt' ?_
      refine CM_ret ?_
      refine QM_block_ret ?_
      refine QM_then_ret ?_
      exact QM_ret1 rfl rfl (fun W hm => ⟨ret_b (show spec_IsUpdate_m x0 = false from by unfold spec_IsUpdate_m; exact cond_t g10 (cond_f g12 (rfl))), hm.below⟩)
  · have g10 : (x0.Kind == 1) = false := beq_eq_false_iff_ne.2 h9
    refine CM_condF rfl g10 ?_
    refine sr ?_
    refine wv (fun W hm => rv_eql rfl rfl) ?_
    refine wa ?_
    refine nt' ?_
    by_cases h15 : x0.Kind = 2
    · have g16 : (x0.Kind == 2) = true := beq_iff_eq.2 h15
      refine CM_condT rfl g16 ?_
      refine sr ?_
      refine wv (fun W hm => rv_field Try.underlying71 rfl Try.type69 (by decide) rfl rfl) ?_
      refine wv (fun W hm => rv_fieldA (o := 1) Try.underlying69 rfl Try.type3 (by decide) rfl rfl) ?_
      refine wv (fun W hm => rv_load Try.underlying3 rfl rfl (hm.boxCell (n := 0) (o := 1) rfl rfl)) ?_
      refine WM_callV (cl_fn cb110 rfl) (fun W hm => spec_l1In_c W x0.Row.Id 0 999) (Wd_none rfl) (by decide) ?_
      refine wm ?_
      rcases Bool.eq_false_or_eq_true (spec_l1In_m x0.Row.Id 0 999) with g18 | g18
      ·
        have hw := spec_l1In_fact g18
        refine wg (fun W hm => rv_field Try.underlying71 rfl Try.type69 (by decide) rfl rfl) g18 ?_
        refine wg (fun W hm => rv_fieldA (o := 2) Try.underlying69 rfl Try.type33 (by decide) rfl rfl) g18 ?_
        refine wg (fun W hm => rv_load Try.underlying33 rfl rfl (hm.boxCell (n := 0) (o := 2) rfl rfl)) g18 ?_
        refine wg (fun W hm => rv_len Try.underlying33 rfl) g18 ?_
        refine wg (fun W hm => rv_eql rfl rfl) g18 ?_
        refine wv (fun W hm => rv_pickT rfl g18 rfl) ?_
        refine wm ?_
        by_cases h19 : ((x0.Row.Values.length : Nat) : Int) = 0
        · have g20 : (((x0.Row.Values.length : Nat) : Int) == 0) = true := beq_iff_eq.2 h19
          refine wg (fun W hm => rv_field Try.underlying71 rfl Try.type3 (by decide) rfl rfl) g20 ?_
          refine wg (fun W hm => rv_load Try.underlying3 rfl rfl (hm.boxCell (n := 0) (o := 3) rfl rfl)) g20 ?_
          refine wg (fun W hm => rv_eql rfl rfl) g20 ?_
          refine wv (fun W hm => rv_pickT rfl g20 rfl) ?_
          refine wm ?_
          by_cases h21 : x0.Field = 0
          · have g22 : (x0.Field == 0) = true := beq_iff_eq.2 h21
            refine wg (fun W hm => rv_field Try.underlying71 rfl Try.type3 (by decide) rfl rfl) g22 ?_
            refine wg (fun W hm => rv_load Try.underlying3 rfl rfl (hm.boxCell (n := 0) (o := 4) rfl rfl)) g22 ?_
            refine wg (fun W hm => rv_eql rfl rfl) g22 ?_
            refine wv (fun W hm => rv_pickT rfl g22 rfl) ?_
            refine wa ?_
            refine nt' ?_
            refine CM_ret ?_
            refine QM_block_ret ?_
            refine QM_then_ret ?_
            exact QM_ret1 rfl rfl (fun W hm => ⟨ret_b (show spec_IsUpdate_m x0 = (x0.Value == 0) from by unfold spec_IsUpdate_m; exact cond_f g10 (cond_t g16 (cond_t g18 (cond_t g20 (cond_t g22 (rfl)))))), hm.below⟩)
          · have g22 : (x0.Field == 0) = false := beq_eq_false_iff_ne.2 h21
            refine ws g22 ?_
            refine ws g22 ?_
            refine ws g22 ?_
            refine wv (fun W hm => rv_pickF rfl g22 rfl) ?_
            refine wa ?_
            refine nt' ?_
            refine CM_ret ?_
            refine QM_block_ret ?_
            refine QM_then_ret ?_
            exact QM_ret1 rfl rfl (fun W hm => ⟨ret_b (show spec_IsUpdate_m x0 = false from by unfold spec_IsUpdate_m; exact cond_f g10 (cond_t g16 (cond_t g18 (cond_t g20 (cond_f g22 (rfl)))))), hm.below⟩)
        · have g20 : (((x0.Row.Values.length : Nat) : Int) == 0) = false := beq_eq_false_iff_ne.2 h19
          refine ws g20 ?_
          refine ws g20 ?_
          refine ws g20 ?_
          refine wv (fun W hm => rv_pickF rfl g20 rfl) ?_
          refine wm ?_
          refine WM_skip (Wd_some rfl rfl rfl rfl) rfl (by decide) ?_
          refine WM_skip (Wd_some rfl rfl rfl rfl) rfl (by decide) ?_
          refine WM_skip (Wd_some rfl rfl rfl rfl) rfl (by decide) ?_
          refine wv (fun W hm => rv_pickF rfl rfl rfl) ?_
          refine wa ?_
          refine nt' ?_
          refine CM_ret ?_
          refine QM_block_ret ?_
          refine QM_then_ret ?_
          exact QM_ret1 rfl rfl (fun W hm => ⟨ret_b (show spec_IsUpdate_m x0 = false from by unfold spec_IsUpdate_m; exact cond_f g10 (cond_t g16 (cond_t g18 (cond_f g20 (rfl))))), hm.below⟩)
      ·
        refine ws g18 ?_
        refine ws g18 ?_
        refine ws g18 ?_
        refine ws g18 ?_
        refine ws g18 ?_
        refine wv (fun W hm => rv_pickF rfl g18 rfl) ?_
        refine wm ?_
        refine WM_skip (Wd_some rfl rfl rfl rfl) rfl (by decide) ?_
        refine WM_skip (Wd_some rfl rfl rfl rfl) rfl (by decide) ?_
        refine WM_skip (Wd_some rfl rfl rfl rfl) rfl (by decide) ?_
        refine wv (fun W hm => rv_pickF rfl rfl rfl) ?_
        refine wm ?_
        refine WM_skip (Wd_some rfl rfl rfl rfl) rfl (by decide) ?_
        refine WM_skip (Wd_some rfl rfl rfl rfl) rfl (by decide) ?_
        refine WM_skip (Wd_some rfl rfl rfl rfl) rfl (by decide) ?_
        refine wv (fun W hm => rv_pickF rfl rfl rfl) ?_
        refine wa ?_
        refine nt' ?_
        refine CM_ret ?_
        refine QM_block_ret ?_
        refine QM_then_ret ?_
        exact QM_ret1 rfl rfl (fun W hm => ⟨ret_b (show spec_IsUpdate_m x0 = false from by unfold spec_IsUpdate_m; exact cond_f g10 (cond_t g16 (cond_f g18 (rfl)))), hm.below⟩)
    · have g16 : (x0.Kind == 2) = false := beq_eq_false_iff_ne.2 h15
      refine CM_condF rfl g16 ?_
      refine sr ?_
      refine wv (fun W hm => rv_eql rfl rfl) ?_
      refine wa ?_
      refine nt' ?_
      by_cases h23 : x0.Kind = 3
      · have g24 : (x0.Kind == 3) = true := beq_iff_eq.2 h23
        refine CM_condT rfl g24 ?_
        refine sr ?_
        refine wv (fun W hm => rv_field Try.underlying71 rfl Try.type69 (by decide) rfl rfl) ?_
        refine wv (fun W hm => rv_fieldA (o := 1) Try.underlying69 rfl Try.type3 (by decide) rfl rfl) ?_
        refine wv (fun W hm => rv_load Try.underlying3 rfl rfl (hm.boxCell (n := 0) (o := 1) rfl rfl)) ?_
        refine WM_callV (cl_fn cb110 rfl) (fun W hm => spec_l1In_c W x0.Row.Id 0 999) (Wd_none rfl) (by decide) ?_
        refine wm ?_
        rcases Bool.eq_false_or_eq_true (spec_l1In_m x0.Row.Id 0 999) with g26 | g26
        ·
          have hw := spec_l1In_fact g26
          refine wg (fun W hm => rv_field Try.underlying71 rfl Try.type69 (by decide) rfl rfl) g26 ?_
          refine wg (fun W hm => rv_fieldA (o := 2) Try.underlying69 rfl Try.type33 (by decide) rfl rfl) g26 ?_
          refine wg (fun W hm => rv_load Try.underlying33 rfl rfl (hm.boxCell (n := 0) (o := 2) rfl rfl)) g26 ?_
          refine wg (fun W hm => rv_len Try.underlying33 rfl) g26 ?_
          refine wg (fun W hm => rv_eql rfl rfl) g26 ?_
          refine wv (fun W hm => rv_pickT rfl g26 rfl) ?_
          refine wm ?_
          by_cases h27 : ((x0.Row.Values.length : Nat) : Int) = 0
          · have g28 : (((x0.Row.Values.length : Nat) : Int) == 0) = true := beq_iff_eq.2 h27
            refine wg (fun W hm => rv_field Try.underlying71 rfl Try.type3 (by decide) rfl rfl) g28 ?_
            refine wg (fun W hm => rv_load Try.underlying3 rfl rfl (hm.boxCell (n := 0) (o := 3) rfl rfl)) g28 ?_
            refine WM_callV (cl_fn cb110 rfl) (fun W hm => spec_l1In_c W x0.Field 0 2) (Wd_some rfl rfl rfl (bw g28 rfl)) (by decide) ?_
            refine wv (fun W hm => rv_pickT rfl g28 rfl) ?_
            refine wm ?_
            rcases Bool.eq_false_or_eq_true (spec_l1In_m x0.Field 0 2) with g30 | g30
            ·
              have hw := spec_l1In_fact g30
              refine wg (fun W hm => rv_field Try.underlying71 rfl Try.type3 (by decide) rfl rfl) g30 ?_
              refine wg (fun W hm => rv_load Try.underlying3 rfl rfl (hm.boxCell (n := 0) (o := 4) rfl rfl)) g30 ?_
              refine WM_callV (cl_fn cb110 rfl) (fun W hm => spec_l1In_c W x0.Value 0 99) (Wd_some rfl rfl rfl (bw g30 rfl)) (by decide) ?_
              refine wv (fun W hm => rv_pickT rfl g30 rfl) ?_
              refine wa ?_
              refine nt' ?_
              refine CM_ret ?_
              refine QM_block_ret ?_
              refine QM_then_ret ?_
              exact QM_ret1 rfl rfl (fun W hm => ⟨ret_b (show spec_IsUpdate_m x0 = (spec_l1In_m x0.Value 0 99) from by unfold spec_IsUpdate_m; exact cond_f g10 (cond_f g16 (cond_t g24 (cond_t g26 (cond_t g28 (cond_t g30 (rfl))))))), hm.below⟩)
            ·
              refine ws g30 ?_
              refine ws g30 ?_
              refine ws g30 ?_
              refine wv (fun W hm => rv_pickF rfl g30 rfl) ?_
              refine wa ?_
              refine nt' ?_
              refine CM_ret ?_
              refine QM_block_ret ?_
              refine QM_then_ret ?_
              exact QM_ret1 rfl rfl (fun W hm => ⟨ret_b (show spec_IsUpdate_m x0 = false from by unfold spec_IsUpdate_m; exact cond_f g10 (cond_f g16 (cond_t g24 (cond_t g26 (cond_t g28 (cond_f g30 (rfl))))))), hm.below⟩)
          · have g28 : (((x0.Row.Values.length : Nat) : Int) == 0) = false := beq_eq_false_iff_ne.2 h27
            refine ws g28 ?_
            refine ws g28 ?_
            refine ws g28 ?_
            refine wv (fun W hm => rv_pickF rfl g28 rfl) ?_
            refine wm ?_
            refine WM_skip (Wd_some rfl rfl rfl rfl) rfl (by decide) ?_
            refine WM_skip (Wd_some rfl rfl rfl rfl) rfl (by decide) ?_
            refine WM_skip (Wd_some rfl rfl rfl rfl) rfl (by decide) ?_
            refine wv (fun W hm => rv_pickF rfl rfl rfl) ?_
            refine wa ?_
            refine nt' ?_
            refine CM_ret ?_
            refine QM_block_ret ?_
            refine QM_then_ret ?_
            exact QM_ret1 rfl rfl (fun W hm => ⟨ret_b (show spec_IsUpdate_m x0 = false from by unfold spec_IsUpdate_m; exact cond_f g10 (cond_f g16 (cond_t g24 (cond_t g26 (cond_f g28 (rfl)))))), hm.below⟩)
        ·
          refine ws g26 ?_
          refine ws g26 ?_
          refine ws g26 ?_
          refine ws g26 ?_
          refine ws g26 ?_
          refine wv (fun W hm => rv_pickF rfl g26 rfl) ?_
          refine wm ?_
          refine WM_skip (Wd_some rfl rfl rfl rfl) rfl (by decide) ?_
          refine WM_skip (Wd_some rfl rfl rfl rfl) rfl (by decide) ?_
          refine WM_skip (Wd_some rfl rfl rfl rfl) rfl (by decide) ?_
          refine wv (fun W hm => rv_pickF rfl rfl rfl) ?_
          refine wm ?_
          refine WM_skip (Wd_some rfl rfl rfl rfl) rfl (by decide) ?_
          refine WM_skip (Wd_some rfl rfl rfl rfl) rfl (by decide) ?_
          refine WM_skip (Wd_some rfl rfl rfl rfl) rfl (by decide) ?_
          refine wv (fun W hm => rv_pickF rfl rfl rfl) ?_
          refine wa ?_
          refine nt' ?_
          refine CM_ret ?_
          refine QM_block_ret ?_
          refine QM_then_ret ?_
          exact QM_ret1 rfl rfl (fun W hm => ⟨ret_b (show spec_IsUpdate_m x0 = false from by unfold spec_IsUpdate_m; exact cond_f g10 (cond_f g16 (cond_t g24 (cond_f g26 (rfl))))), hm.below⟩)
      · have g24 : (x0.Kind == 3) = false := beq_eq_false_iff_ne.2 h23
        refine CM_condF rfl g24 ?_
        refine CM_skip ?_
        refine QM_block_normal ?_
        refine QM_then ?_
        refine sr ?_
        refine wa ?_
        refine nt' ?_
        refine CM_ret ?_
        exact QM_ret1 rfl rfl (fun W hm => ⟨ret_b (show spec_IsUpdate_m x0 = false from by unfold spec_IsUpdate_m; exact cond_f g10 (cond_f g16 (cond_f g24 (rfl)))), hm.below⟩)

def spec_l8Find_b2 (x0 : DStore) (x1 : Int) (k9 : Nat) (k27 : Nat) : (Int × Int) ⊕ (Unit) :=
  cond (((gt (gt x0.Segments k9) k27).Id) == x1) (cond (((gt (gt x0.Segments k9) k27).Died) == (-1)) (Sum.inl (((k9 : Nat) : Int), ((k27 : Nat) : Int))) (Sum.inr ())) (Sum.inr ())
def spec_l8Find_b1 (x0 : DStore) (x1 : Int) (k9 : Nat) : (Int × Int) ⊕ (Unit) :=
  Sum.elim Sum.inl (fun (s : Unit) => Sum.inr ()) (rng (R := (Int × Int)) (fun k (_ : Unit) => spec_l8Find_b2 x0 x1 k9 k) (((gt x0.Segments k9)).length - 0) 0 ())
def spec_l8Find_m (x0 : DStore) (x1 : Int) : (Int × Int) :=
  Sum.elim id (fun (s : Unit) => ((-1), (-1))) (rng (R := (Int × Int)) (fun k (_ : Unit) => spec_l8Find_b1 x0 x1 k) (x0.Segments.length - 0) 0 ())
set_option maxRecDepth 100000 in
theorem cb91 : Cb Try.prog 91 := ⟨Try.f91, _, Try.func91, rfl, by decide⟩
set_option maxRecDepth 10000 in
set_option maxHeartbeats 4000000 in
theorem spec_l8Find_c (w : World) (z0 : List Value) (x0 : DStore) (x1 : Int) (r_0 : tyStore.rd w w.heap.size z0 x0) :
    Calls Try.prog 91 #[.agg z0.toArray, .int .i64 x1] w fun e w' => e = .returned (.tuple #[.int .i64 ((spec_l8Find_m x0 x1).1), .int .i64 ((spec_l8Find_m x0 x1).2)]) ∧ Below w.heap.size w w' := by
  obtain ⟨v1, rfl, r2⟩ := tyStore_rd r_0
  have r7 := r2
  obtain ⟨m3, A4, c5, rfl, q6⟩ := r2
  refine call_enterM (L := [(0, .agg #[.slice A4 x0.Segments.length c5, .int .i64 x0.Now]), (1, .int .i64 x1)]) (N := 50) Try.func91 rfl rfl (Nat.le_of_ble_eq_true rfl) (argsL_cons rfl (argsL_cons rfl argsL_nil)) ?_
  refine sr ?_
  refine WM_box rfl (Wd_none rfl) (by decide) (fun p8 => ?_)
  refine wa ?_
  refine wa ?_
  refine nt' ?_
  refine CM_seq ?_
  refine sr ?_
  refine wa ?_
  refine nt' ?_
  refine CM_block ?_
  refine CM_loop (σ := Nat × (Unit) × (Unit)) (fun s => [(1, .int .i64 x1), (2, .pointer (some (⟨p8, 0, none⟩ : Addr))), (6, .int .i64 ((s.1 : Nat) : Int))]) (fun s => [iBox p8 45 [.slice A4 x0.Segments.length c5, .int .i64 x0.Now]]) (fun s => s.1 ≤ x0.Segments.length ∧ rng (R := (Int × Int)) (fun k (_ : Unit) => spec_l8Find_b1 x0 x1 k) (x0.Segments.length - s.1) s.1 s.2.1 = rng (R := (Int × Int)) (fun k (_ : Unit) => spec_l8Find_b1 x0 x1 k) (x0.Segments.length - 0) 0 ()) (fun s => x0.Segments.length - s.1) (0, (), ()) (subL_cons rfl (subL_cons rfl (subL_cons rfl subL_nil))) (fun W hm => hm) ⟨(by omega), rfl⟩ ?_
  rintro ⟨k9, ⟨⟩, ⟨⟩⟩ H12
  obtain ⟨hk10, hF11⟩ : k9 ≤ x0.Segments.length ∧ rng (R := (Int × Int)) (fun k (_ : Unit) => spec_l8Find_b1 x0 x1 k) (x0.Segments.length - k9) k9 () = rng (R := (Int × Int)) (fun k (_ : Unit) => spec_l8Find_b1 x0 x1 k) (x0.Segments.length - 0) 0 () := H12
  show CM Try.prog 50 _ _ _ _ [(1, .int .i64 x1), (2, .pointer (some (⟨p8, 0, none⟩ : Addr))), (6, .int .i64 ((k9 : Nat) : Int))] [iBox p8 45 [.slice A4 x0.Segments.length c5, .int .i64 x0.Now]]
  refine CM_seq ?_
  refine sr ?_
  refine wm ?_
  refine wv (fun W hm => rv_field Try.underlying45 rfl Try.type43 (by decide) rfl rfl) ?_
  refine wv (fun W hm => rv_load Try.underlying43 rfl rfl (hm.boxCell (n := 0) (o := 0) rfl rfl)) ?_
  refine wv (fun W hm => rv_len Try.underlying43 rfl) ?_
  refine wv (fun W hm => rv_lss rfl rfl) ?_
  refine nt' ?_
  by_cases hl13 : k9 < x0.Segments.length
  · have g14 : (decide (((k9 : Nat) : Int) < ((x0.Segments.length : Nat) : Int))) = true := decide_eq_true (by omega)
    refine CM_condT rfl g14 ?_
    refine CM_skip ?_
    refine QM_then ?_
    refine CM_seq ?_
    refine CM_block ?_
    refine sr ?_
    refine wa ?_
    refine nt' ?_
    refine CM_block ?_
    obtain ⟨a15, rfl, hb16, he17⟩ := q6 (by omega)
    obtain ⟨_, e19, hc18⟩ := he17 k9 _ (gt_some (show k9 < x0.Segments.length from by omega))
    obtain ⟨v20, rfl, r21⟩ := e19
    have r26 := r21
    obtain ⟨m22, A23, c24, rfl, q25⟩ := r21
    refine CM_loop (σ := Nat × (Unit) × (Unit)) (fun s => [(1, .int .i64 x1), (2, .pointer (some (⟨p8, 0, none⟩ : Addr))), (6, .int .i64 ((k9 : Nat) : Int)), (7, .int .i64 ((s.1 : Nat) : Int))]) (fun s => [iBox p8 45 [.slice (some a15) x0.Segments.length c5, .int .i64 x0.Now]]) (fun s => s.1 ≤ ((gt x0.Segments k9)).length ∧ rng (R := (Int × Int)) (fun k (_ : Unit) => spec_l8Find_b2 x0 x1 k9 k) (((gt x0.Segments k9)).length - s.1) s.1 s.2.1 = rng (R := (Int × Int)) (fun k (_ : Unit) => spec_l8Find_b2 x0 x1 k9 k) (((gt x0.Segments k9)).length - 0) 0 ()) (fun s => ((gt x0.Segments k9)).length - s.1) (0, (), ()) (subL_cons rfl (subL_cons rfl (subL_cons rfl (subL_cons rfl subL_nil)))) (fun W hm => hm) ⟨(by omega), rfl⟩ ?_
    rintro ⟨k27, ⟨⟩, ⟨⟩⟩ H30
    obtain ⟨hk28, hF29⟩ : k27 ≤ ((gt x0.Segments k9)).length ∧ rng (R := (Int × Int)) (fun k (_ : Unit) => spec_l8Find_b2 x0 x1 k9 k) (((gt x0.Segments k9)).length - k27) k27 () = rng (R := (Int × Int)) (fun k (_ : Unit) => spec_l8Find_b2 x0 x1 k9 k) (((gt x0.Segments k9)).length - 0) 0 () := H30
    show CM Try.prog 50 _ _ _ _ [(1, .int .i64 x1), (2, .pointer (some (⟨p8, 0, none⟩ : Addr))), (6, .int .i64 ((k9 : Nat) : Int)), (7, .int .i64 ((k27 : Nat) : Int))] [iBox p8 45 [.slice (some a15) x0.Segments.length c5, .int .i64 x0.Now]]
    refine CM_seq ?_
    refine sr ?_
    refine wm ?_
    refine wv (fun W hm => rv_field Try.underlying45 rfl Try.type43 (by decide) rfl rfl) ?_
    refine wv (fun W hm => rv_load Try.underlying43 rfl rfl (hm.boxCell (n := 0) (o := 0) rfl rfl)) ?_
    refine wm ?_
    refine wv (fun W hm => rv_index (sz := 1) (k := k9) Try.underlying43 Try.type100 rfl rfl rfl (by omega)) ?_
    refine wv (fun W hm => rv_load Try.underlying100 rfl rfl ((hm.cell0 (show (a15.add (k9 * 1)).block < w.heap.size from by rw [add_block]; exact hb16.1)).trans (hc18 0 _ rfl))) ?_
    refine wv (fun W hm => rv_len Try.underlying100 rfl) ?_
    refine wv (fun W hm => rv_lss rfl rfl) ?_
    refine nt' ?_
    by_cases hl31 : k27 < ((gt x0.Segments k9)).length
    · have g32 : (decide (((k27 : Nat) : Int) < ((((gt x0.Segments k9)).length : Nat) : Int))) = true := decide_eq_true (by omega)
      refine CM_condT rfl g32 ?_
      refine CM_skip ?_
      refine QM_then ?_
      refine CM_seq ?_
      refine CM_block ?_
      refine sr ?_
      refine wv (fun W hm => rv_field Try.underlying45 rfl Try.type43 (by decide) rfl rfl) ?_
      refine wv (fun W hm => rv_load Try.underlying43 rfl rfl (hm.boxCell (n := 0) (o := 0) rfl rfl)) ?_
      refine wm ?_
      refine wv (fun W hm => rv_index (sz := 1) (k := k9) Try.underlying43 Try.type100 rfl rfl rfl (by omega)) ?_
      refine wv (fun W hm => rv_load Try.underlying100 rfl rfl ((hm.cell0 (show (a15.add (k9 * 1)).block < w.heap.size from by rw [add_block]; exact hb16.1)).trans (hc18 0 _ rfl))) ?_
      refine wm ?_
      obtain ⟨a33, rfl, hb34, he35⟩ := q25 (by omega)
      refine wv (fun W hm => rv_index (sz := 4) (k := k27) Try.underlying100 Try.type102 rfl rfl rfl (by omega)) ?_
      refine wv (fun W hm => rv_field Try.underlying102 rfl Try.type3 (by decide) rfl rfl) ?_
      obtain ⟨_, e39, hc36⟩ := he35 k27 _ (gt_some (show k27 < ((gt x0.Segments k9)).length from by omega))
      obtain ⟨v37, rfl, r38⟩ := tyVersion_rd e39
      have r44 := r38
      obtain ⟨m40, A41, c42, rfl, q43⟩ := r38
      refine wv (fun W hm => rv_load Try.underlying3 rfl rfl ((hm.cell0 (show ((a33.add (k27 * 4)).add 0).block < w.heap.size from by rw [add_block, add_block]; exact hb34.1)).trans (hc36 0 _ rfl))) ?_
      refine wm ?_
      refine wv (fun W hm => rv_eql rfl rfl) ?_
      refine wm ?_
      by_cases h45 : ((gt (gt x0.Segments k9) k27).Id) = x1
      · have g46 : (((gt (gt x0.Segments k9) k27).Id) == x1) = true := beq_iff_eq.2 h45
        refine wg (fun W hm => rv_field Try.underlying45 rfl Try.type43 (by decide) rfl rfl) g46 ?_
        refine wg (fun W hm => rv_load Try.underlying43 rfl rfl (hm.boxCell (n := 0) (o := 0) rfl rfl)) g46 ?_
        refine wg (fun W hm => rv_move rfl) g46 ?_
        refine wg (fun W hm => rv_index (sz := 1) (k := k9) Try.underlying43 Try.type100 rfl rfl rfl (by omega)) g46 ?_
        refine wg (fun W hm => rv_load Try.underlying100 rfl rfl ((hm.cell0 (show (a15.add (k9 * 1)).block < w.heap.size from by rw [add_block]; exact hb16.1)).trans (hc18 0 _ rfl))) g46 ?_
        refine wg (fun W hm => rv_move rfl) g46 ?_
        refine wg (fun W hm => rv_index (sz := 4) (k := k27) Try.underlying100 Try.type102 rfl rfl rfl (by omega)) g46 ?_
        refine wg (fun W hm => rv_field Try.underlying102 rfl Try.type3 (by decide) rfl rfl) g46 ?_
        refine wg (fun W hm => rv_load Try.underlying3 rfl rfl ((hm.cell0 (show ((a33.add (k27 * 4)).add 3).block < w.heap.size from by rw [add_block, add_block]; exact hb34.1)).trans (hc36 3 _ rfl))) g46 ?_
        refine wg (fun W hm => rv_eql rfl rfl) g46 ?_
        refine wv (fun W hm => rv_pickT rfl g46 rfl) ?_
        refine nt' ?_
        by_cases h47 : ((gt (gt x0.Segments k9) k27).Died) = (-1)
        · have g48 : (((gt (gt x0.Segments k9) k27).Died) == (-1)) = true := beq_iff_eq.2 h47
          refine CM_condT rfl g48 ?_
          refine sr ?_
          refine wm ?_
          refine wm ?_
          refine wa ?_
          refine wa ?_
          refine nt' ?_
          refine CM_ret ?_
          refine QM_block_ret ?_
          refine QM_then_ret ?_
          refine QM_then_ret ?_
          refine QM_block_ret ?_
          refine QM_block_ret ?_
          refine QM_then_ret ?_
          refine QM_then_ret ?_
          refine QM_block_ret ?_
          refine QM_then_ret ?_
          exact QM_r2 rfl (RR_tmp rfl) (RR_tmp rfl) (fun W hm => ⟨by rw [(show spec_l8Find_m x0 x1 = (((k9 : Nat) : Int), ((k27 : Nat) : Int)) from by unfold spec_l8Find_m; exact fin_inl (rng_ret (body := (fun k (_ : Unit) => spec_l8Find_b1 x0 x1 k)) (k := k9) (s := ()) (show k9 < x0.Segments.length from by omega) (show spec_l8Find_b1 x0 x1 k9 = Sum.inl (((k9 : Nat) : Int), ((k27 : Nat) : Int)) from by unfold spec_l8Find_b1; exact fin_inl (rng_ret (body := (fun k (_ : Unit) => spec_l8Find_b2 x0 x1 k9 k)) (k := k27) (s := ()) (show k27 < ((gt x0.Segments k9)).length from by omega) (show spec_l8Find_b2 x0 x1 k9 k27 = Sum.inl (((k9 : Nat) : Int), ((k27 : Nat) : Int)) from by unfold spec_l8Find_b2; exact cond_t g46 (cond_t g48 (rfl))) hF29) rfl) hF11) rfl)], hm.below⟩)
        · have g48 : (((gt (gt x0.Segments k9) k27).Died) == (-1)) = false := beq_eq_false_iff_ne.2 h47
          refine CM_condF rfl g48 ?_
          refine CM_skip ?_
          refine QM_block_normal ?_
          refine QM_then ?_
          refine CM_region ?_
          refine wm ?_
          refine wv (fun W hm => rv_addN (p := k27) (q := 1) rfl rfl (by omega)) ?_
          refine wa ?_
          refine WM_nil ?_
          have hn49 := rng_next (R := (Int × Int)) (body := (fun k (_ : Unit) => spec_l8Find_b2 x0 x1 k9 k)) (k := k27) (s := ()) (s' := ()) (show k27 < ((gt x0.Segments k9)).length from by omega) (show spec_l8Find_b2 x0 x1 k9 k27 = Sum.inr () from by unfold spec_l8Find_b2; exact cond_t g46 (cond_f g48 (rfl))) hF29
          exact QM_round (k27 + 1, (), ()) (subL_cons rfl (subL_cons rfl (subL_cons rfl (subL_cons rfl subL_nil)))) (fun W hm => hm) ⟨(by omega), hn49⟩ (show ((gt x0.Segments k9)).length - (k27 + 1) < ((gt x0.Segments k9)).length - k27 from by omega)
      · have g46 : (((gt (gt x0.Segments k9) k27).Id) == x1) = false := beq_eq_false_iff_ne.2 h45
        refine ws g46 ?_
        refine ws g46 ?_
        refine ws g46 ?_
        refine ws g46 ?_
        refine ws g46 ?_
        refine ws g46 ?_
        refine ws g46 ?_
        refine ws g46 ?_
        refine ws g46 ?_
        refine ws g46 ?_
        refine wv (fun W hm => rv_pickF rfl g46 rfl) ?_
        refine nt' ?_
        refine CM_condF rfl rfl ?_
        refine CM_skip ?_
        refine QM_block_normal ?_
        refine QM_then ?_
        refine CM_region ?_
        refine wm ?_
        refine wv (fun W hm => rv_addN (p := k27) (q := 1) rfl rfl (by omega)) ?_
        refine wa ?_
        refine WM_nil ?_
        have hn50 := rng_next (R := (Int × Int)) (body := (fun k (_ : Unit) => spec_l8Find_b2 x0 x1 k9 k)) (k := k27) (s := ()) (s' := ()) (show k27 < ((gt x0.Segments k9)).length from by omega) (show spec_l8Find_b2 x0 x1 k9 k27 = Sum.inr () from by unfold spec_l8Find_b2; exact cond_f g46 (rfl)) hF29
        exact QM_round (k27 + 1, (), ()) (subL_cons rfl (subL_cons rfl (subL_cons rfl (subL_cons rfl subL_nil)))) (fun W hm => hm) ⟨(by omega), hn50⟩ (show ((gt x0.Segments k9)).length - (k27 + 1) < ((gt x0.Segments k9)).length - k27 from by omega)
    · have g32 : (decide (((k27 : Nat) : Int) < ((((gt x0.Segments k9)).length : Nat) : Int))) = false := decide_eq_false (by omega)
      refine CM_condF rfl g32 ?_
      refine CM_exit ?_
      refine QM_then_exit ?_
      refine QM_then_exit ?_
      have hE51 : rng (R := (Int × Int)) (fun k (_ : Unit) => spec_l8Find_b2 x0 x1 k9 k) (((gt x0.Segments k9)).length - 0) 0 () = Sum.inr () := rng_end hl31 hF29
      refine QM_block_hit ?_
      refine QM_block_normal ?_
      refine QM_then ?_
      refine CM_region ?_
      refine wm ?_
      refine wv (fun W hm => rv_addN (p := k9) (q := 1) rfl rfl (by omega)) ?_
      refine wa ?_
      refine WM_nil ?_
      have hn52 := rng_next (R := (Int × Int)) (body := (fun k (_ : Unit) => spec_l8Find_b1 x0 x1 k)) (k := k9) (s := ()) (s' := ()) (show k9 < x0.Segments.length from by omega) (show spec_l8Find_b1 x0 x1 k9 = Sum.inr () from by unfold spec_l8Find_b1; exact fin_inr hE51 (rfl)) hF11
      exact QM_round (k9 + 1, (), ()) (subL_cons rfl (subL_cons rfl (subL_cons rfl subL_nil))) (fun W hm => hm) ⟨(by omega), hn52⟩ (show x0.Segments.length - (k9 + 1) < x0.Segments.length - k9 from by omega)
  · have g14 : (decide (((k9 : Nat) : Int) < ((x0.Segments.length : Nat) : Int))) = false := decide_eq_false (by omega)
    refine CM_condF rfl g14 ?_
    refine CM_exit ?_
    refine QM_then_exit ?_
    refine QM_then_exit ?_
    have hE53 : rng (R := (Int × Int)) (fun k (_ : Unit) => spec_l8Find_b1 x0 x1 k) (x0.Segments.length - 0) 0 () = Sum.inr () := rng_end hl13 hF11
    refine QM_block_hit ?_
    refine QM_then ?_
    refine sr ?_
    refine wa ?_
    refine wa ?_
    refine nt' ?_
    refine CM_ret ?_
    exact QM_r2 rfl (RR_tmp rfl) (RR_tmp rfl) (fun W hm => ⟨by rw [(show spec_l8Find_m x0 x1 = ((-1), (-1)) from by unfold spec_l8Find_m; exact fin_inr hE53 (rfl))], hm.below⟩)

def spec_l8Room_b1 (x0 : DStore) (k9 : Nat) : Int ⊕ (Unit) :=
  cond (decide (((((gt x0.Segments k9)).length : Nat) : Int) < 4)) (Sum.inl ((k9 : Nat) : Int)) (Sum.inr ())
def spec_l8Room_m (x0 : DStore) : Int :=
  Sum.elim id (fun (s : Unit) => (-1)) (rng (R := Int) (fun k (_ : Unit) => spec_l8Room_b1 x0 k) (x0.Segments.length - 0) 0 ())
set_option maxRecDepth 100000 in
theorem cb92 : Cb Try.prog 92 := ⟨Try.f92, _, Try.func92, rfl, by decide⟩
set_option maxRecDepth 10000 in
set_option maxHeartbeats 4000000 in
theorem spec_l8Room_c (w : World) (z0 : List Value) (x0 : DStore) (r_0 : tyStore.rd w w.heap.size z0 x0) :
    Calls Try.prog 92 #[.agg z0.toArray] w fun e w' => e = .returned (.int .i64 (spec_l8Room_m x0)) ∧ Below w.heap.size w w' := by
  obtain ⟨v1, rfl, r2⟩ := tyStore_rd r_0
  have r7 := r2
  obtain ⟨m3, A4, c5, rfl, q6⟩ := r2
  refine call_enterM (L := [(0, .agg #[.slice A4 x0.Segments.length c5, .int .i64 x0.Now])]) (N := 19) Try.func92 rfl rfl (Nat.le_of_ble_eq_true rfl) (argsL_cons rfl argsL_nil) ?_
  refine sr ?_
  refine WM_box rfl (Wd_none rfl) (by decide) (fun p8 => ?_)
  refine wa ?_
  refine nt' ?_
  refine CM_seq ?_
  refine sr ?_
  refine wa ?_
  refine nt' ?_
  refine CM_block ?_
  refine CM_loop (σ := Nat × (Unit) × (Unit)) (fun s => [(1, .pointer (some (⟨p8, 0, none⟩ : Addr))), (3, .int .i64 ((s.1 : Nat) : Int))]) (fun s => [iBox p8 45 [.slice A4 x0.Segments.length c5, .int .i64 x0.Now]]) (fun s => s.1 ≤ x0.Segments.length ∧ rng (R := Int) (fun k (_ : Unit) => spec_l8Room_b1 x0 k) (x0.Segments.length - s.1) s.1 s.2.1 = rng (R := Int) (fun k (_ : Unit) => spec_l8Room_b1 x0 k) (x0.Segments.length - 0) 0 ()) (fun s => x0.Segments.length - s.1) (0, (), ()) (subL_cons rfl (subL_cons rfl subL_nil)) (fun W hm => hm) ⟨(by omega), rfl⟩ ?_
  rintro ⟨k9, ⟨⟩, ⟨⟩⟩ H12
  obtain ⟨hk10, hF11⟩ : k9 ≤ x0.Segments.length ∧ rng (R := Int) (fun k (_ : Unit) => spec_l8Room_b1 x0 k) (x0.Segments.length - k9) k9 () = rng (R := Int) (fun k (_ : Unit) => spec_l8Room_b1 x0 k) (x0.Segments.length - 0) 0 () := H12
  show CM Try.prog 19 _ _ _ _ [(1, .pointer (some (⟨p8, 0, none⟩ : Addr))), (3, .int .i64 ((k9 : Nat) : Int))] [iBox p8 45 [.slice A4 x0.Segments.length c5, .int .i64 x0.Now]]
  refine CM_seq ?_
  refine sr ?_
  refine wm ?_
  refine wv (fun W hm => rv_field Try.underlying45 rfl Try.type43 (by decide) rfl rfl) ?_
  refine wv (fun W hm => rv_load Try.underlying43 rfl rfl (hm.boxCell (n := 0) (o := 0) rfl rfl)) ?_
  refine wv (fun W hm => rv_len Try.underlying43 rfl) ?_
  refine wv (fun W hm => rv_lss rfl rfl) ?_
  refine nt' ?_
  by_cases hl13 : k9 < x0.Segments.length
  · have g14 : (decide (((k9 : Nat) : Int) < ((x0.Segments.length : Nat) : Int))) = true := decide_eq_true (by omega)
    refine CM_condT rfl g14 ?_
    refine CM_skip ?_
    refine QM_then ?_
    refine CM_seq ?_
    refine CM_block ?_
    refine sr ?_
    refine wv (fun W hm => rv_field Try.underlying45 rfl Try.type43 (by decide) rfl rfl) ?_
    refine wv (fun W hm => rv_load Try.underlying43 rfl rfl (hm.boxCell (n := 0) (o := 0) rfl rfl)) ?_
    refine wm ?_
    obtain ⟨a15, rfl, hb16, he17⟩ := q6 (by omega)
    refine wv (fun W hm => rv_index (sz := 1) (k := k9) Try.underlying43 Try.type100 rfl rfl rfl (by omega)) ?_
    obtain ⟨_, e19, hc18⟩ := he17 k9 _ (gt_some (show k9 < x0.Segments.length from by omega))
    obtain ⟨v20, rfl, r21⟩ := e19
    have r26 := r21
    obtain ⟨m22, A23, c24, rfl, q25⟩ := r21
    refine wv (fun W hm => rv_load Try.underlying100 rfl rfl ((hm.cell0 (show (a15.add (k9 * 1)).block < w.heap.size from by rw [add_block]; exact hb16.1)).trans (hc18 0 _ rfl))) ?_
    refine wv (fun W hm => rv_len Try.underlying100 rfl) ?_
    refine wv (fun W hm => rv_lss rfl rfl) ?_
    refine nt' ?_
    by_cases h27 : ((((gt x0.Segments k9)).length : Nat) : Int) < 4
    · have g28 : (decide (((((gt x0.Segments k9)).length : Nat) : Int) < 4)) = true := decide_eq_true h27
      refine CM_condT rfl g28 ?_
      refine sr ?_
      refine wm ?_
      refine wa ?_
      refine nt' ?_
      refine CM_ret ?_
      refine QM_block_ret ?_
      refine QM_then_ret ?_
      refine QM_then_ret ?_
      refine QM_block_ret ?_
      refine QM_then_ret ?_
      exact QM_ret1 rfl rfl (fun W hm => ⟨ret_i (show spec_l8Room_m x0 = ((k9 : Nat) : Int) from by unfold spec_l8Room_m; exact fin_inl (rng_ret (body := (fun k (_ : Unit) => spec_l8Room_b1 x0 k)) (k := k9) (s := ()) (show k9 < x0.Segments.length from by omega) (show spec_l8Room_b1 x0 k9 = Sum.inl ((k9 : Nat) : Int) from by unfold spec_l8Room_b1; exact cond_t g28 (rfl)) hF11) rfl), hm.below⟩)
    · have g28 : (decide (((((gt x0.Segments k9)).length : Nat) : Int) < 4)) = false := decide_eq_false h27
      refine CM_condF rfl g28 ?_
      refine CM_skip ?_
      refine QM_block_normal ?_
      refine QM_then ?_
      refine CM_region ?_
      refine wm ?_
      refine wv (fun W hm => rv_addN (p := k9) (q := 1) rfl rfl (by omega)) ?_
      refine wa ?_
      refine WM_nil ?_
      have hn29 := rng_next (R := Int) (body := (fun k (_ : Unit) => spec_l8Room_b1 x0 k)) (k := k9) (s := ()) (s' := ()) (show k9 < x0.Segments.length from by omega) (show spec_l8Room_b1 x0 k9 = Sum.inr () from by unfold spec_l8Room_b1; exact cond_f g28 (rfl)) hF11
      exact QM_round (k9 + 1, (), ()) (subL_cons rfl (subL_cons rfl subL_nil)) (fun W hm => hm) ⟨(by omega), hn29⟩ (show x0.Segments.length - (k9 + 1) < x0.Segments.length - k9 from by omega)
  · have g14 : (decide (((k9 : Nat) : Int) < ((x0.Segments.length : Nat) : Int))) = false := decide_eq_false (by omega)
    refine CM_condF rfl g14 ?_
    refine CM_exit ?_
    refine QM_then_exit ?_
    refine QM_then_exit ?_
    have hE30 : rng (R := Int) (fun k (_ : Unit) => spec_l8Room_b1 x0 k) (x0.Segments.length - 0) 0 () = Sum.inr () := rng_end hl13 hF11
    refine QM_block_hit ?_
    refine QM_then ?_
    refine sr ?_
    refine wa ?_
    refine nt' ?_
    refine CM_ret ?_
    exact QM_ret1 rfl rfl (fun W hm => ⟨ret_i (show spec_l8Room_m x0 = (-1) from by unfold spec_l8Room_m; exact fin_inr hE30 (rfl)), hm.below⟩)

end Go.Proofs.Ytjcdginailhfmaa
