/-
  Contracts of functions, printed by a program of ours.
-/
import Derived.Test.YtfjhiegahdknmaaDat
namespace Go.Proofs.Ytfjhiegahdknmaa
open Go.RowKit
def laws_szIntS_m (x0 : (List Int)) (x1 : Int) : Int :=
  cond (decide ((IntKind.i64.wrap (x1 - ((x0.length : Nat) : Int))) < 0)) (-1) (IntKind.i64.wrap (x1 - ((x0.length : Nat) : Int)))
set_option maxRecDepth 100000 in
theorem cb105 : Cb Try.prog 105 := ⟨Try.f105, _, Try.func105, rfl, by decide⟩
set_option maxRecDepth 10000 in
set_option maxHeartbeats 4000000 in
theorem laws_szIntS_c (w : World) (z0 : Value) (x0 : (List Int)) (x1 : Int) (r_0 : rdS tInt w w.heap.size z0 x0) :
    Calls Try.prog 105 #[z0, .int .i64 x1] w fun e w' => e = .returned (.int .i64 (laws_szIntS_m x0 x1)) ∧ Below w.heap.size w w' := by
  have r5 := r_0
  obtain ⟨m1, A2, c3, rfl, q4⟩ := r_0
  refine call_enterM (L := [(0, .slice A2 x0.length c3), (1, .int .i64 x1)]) (N := 12) Try.func105 rfl rfl (Nat.le_of_ble_eq_true rfl) (argsL_cons rfl (argsL_cons rfl argsL_nil)) ?_
  refine sr ?_
  refine wa ?_
  refine nt' ?_
  refine sr ?_
  refine wm ?_
  refine wm ?_
  refine wv (fun W hm => rv_len Try.underlying27 rfl) ?_
  refine wv (fun W hm => rv_sub rfl rfl) ?_
  refine wa ?_
  refine nt' ?_
  refine CM_seq ?_
  refine sr ?_
  refine wm ?_
  refine wv (fun W hm => rv_lss rfl rfl) ?_
  refine nt' ?_
  by_cases h6 : (IntKind.i64.wrap (x1 - ((x0.length : Nat) : Int))) < 0
  · have g7 : (decide ((IntKind.i64.wrap (x1 - ((x0.length : Nat) : Int))) < 0)) = true := decide_eq_true h6
    refine CM_condT rfl g7 ?_
    refine sr ?_
    refine wa ?_
    refine nt' ?_
    refine CM_ret ?_
    refine QM_then_ret ?_
    exact QM_ret1 rfl rfl (fun W hm => ⟨ret_i (show laws_szIntS_m x0 x1 = (-1) from by unfold laws_szIntS_m; exact cond_t g7 (rfl)), hm.below⟩)
  · have g7 : (decide ((IntKind.i64.wrap (x1 - ((x0.length : Nat) : Int))) < 0)) = false := decide_eq_false h6
    refine CM_condF rfl g7 ?_
    refine CM_skip ?_
    refine QM_then ?_
    refine sr ?_
    refine wm ?_
    refine wa ?_
    refine nt' ?_
    refine CM_ret ?_
    exact QM_ret1 rfl rfl (fun W hm => ⟨ret_i (show laws_szIntS_m x0 x1 = (IntKind.i64.wrap (x1 - ((x0.length : Nat) : Int))) from by unfold laws_szIntS_m; exact cond_f g7 (rfl)), hm.below⟩)

def laws_szVersion_m (x0 : DVersion) (x1 : Int) : Int :=
  cond (decide ((laws_szIntS_m x0.Values x1) < 0)) (-1) (laws_szIntS_m x0.Values x1)
set_option maxRecDepth 100000 in
theorem cb205 : Cb Try.prog 205 := ⟨Try.f205, _, Try.func205, rfl, by decide⟩
set_option maxRecDepth 10000 in
set_option maxHeartbeats 4000000 in
theorem laws_szVersion_c (w : World) (z0 : List Value) (x0 : DVersion) (x1 : Int) (r_0 : tyLVersion.rd w w.heap.size z0 x0) :
    Calls Try.prog 205 #[.agg z0.toArray, .int .i64 x1] w fun e w' => e = .returned (.int .i64 (laws_szVersion_m x0 x1)) ∧ Below w.heap.size w w' := by
  obtain ⟨v1, rfl, r2⟩ := tyLVersion_rd r_0
  have r7 := r2
  obtain ⟨m3, A4, c5, rfl, q6⟩ := r2
  refine call_enterM (L := [(0, .agg #[.int .i64 x0.Id, .slice A4 x0.Values.length c5, .int .i64 x0.Born, .int .i64 x0.Died]), (1, .int .i64 x1)]) (N := 12) Try.func205 rfl rfl (Nat.le_of_ble_eq_true rfl) (argsL_cons rfl (argsL_cons rfl argsL_nil)) ?_
  refine sr ?_
  refine WM_box rfl (Wd_none rfl) (by decide) (fun p8 => ?_)
  refine wa ?_
  refine nt' ?_
  refine sr ?_
  refine wv (fun W hm => rv_field Try.underlying203 rfl Try.type27 (by decide) rfl rfl) ?_
  refine wv (fun W hm => rv_load Try.underlying27 rfl rfl (hm.boxCell (n := 0) (o := 1) rfl rfl)) ?_
  refine wm ?_
  refine WM_callV (cl_fn cb105 rfl) (fun W hm => laws_szIntS_c W _ x0.Values x1 (hm.rdS0 r7)) (Wd_none rfl) (by decide) ?_
  refine wa ?_
  refine nt' ?_
  refine CM_seq ?_
  refine sr ?_
  refine wm ?_
  refine wv (fun W hm => rv_lss rfl rfl) ?_
  refine nt' ?_
  by_cases h9 : (laws_szIntS_m x0.Values x1) < 0
  · have g10 : (decide ((laws_szIntS_m x0.Values x1) < 0)) = true := decide_eq_true h9
    refine CM_condT rfl g10 ?_
    refine sr ?_
    refine wa ?_
    refine nt' ?_
    refine CM_ret ?_
    refine QM_then_ret ?_
    exact QM_ret1 rfl rfl (fun W hm => ⟨ret_i (show laws_szVersion_m x0 x1 = (-1) from by unfold laws_szVersion_m; exact cond_t g10 (rfl)), hm.below⟩)
  · have g10 : (decide ((laws_szIntS_m x0.Values x1) < 0)) = false := decide_eq_false h9
    refine CM_condF rfl g10 ?_
    refine CM_skip ?_
    refine QM_then ?_
    refine sr ?_
    refine wm ?_
    refine wa ?_
    refine nt' ?_
    refine CM_ret ?_
    exact QM_ret1 rfl rfl (fun W hm => ⟨ret_i (show laws_szVersion_m x0 x1 = (laws_szIntS_m x0.Values x1) from by unfold laws_szVersion_m; exact cond_f g10 (rfl)), hm.below⟩)

def laws_szVersionS_b1 (x0 : (List DVersion)) (k8 : Nat) (s9 : Int) : Int ⊕ (Int) :=
  cond (decide ((laws_szVersion_m (gt x0 k8) s9) < 0)) (Sum.inl (-1)) (Sum.inr (laws_szVersion_m (gt x0 k8) s9))
def laws_szVersionS_m (x0 : (List DVersion)) (x1 : Int) : Int :=
  cond (decide ((IntKind.i64.wrap (x1 - ((x0.length : Nat) : Int))) < 0)) (-1) (Sum.elim id (fun (s : Int) => s) (rng (R := Int) (fun k (s : Int) => laws_szVersionS_b1 x0 k s) (x0.length - 0) 0 (IntKind.i64.wrap (x1 - ((x0.length : Nat) : Int)))))
set_option maxRecDepth 100000 in
theorem cb178 : Cb Try.prog 178 := ⟨Try.f178, _, Try.func178, rfl, by decide⟩
set_option maxRecDepth 10000 in
set_option maxHeartbeats 4000000 in
theorem laws_szVersionS_c (w : World) (z0 : Value) (x0 : (List DVersion)) (x1 : Int) (r_0 : rdS tyLVersion w w.heap.size z0 x0) :
    Calls Try.prog 178 #[z0, .int .i64 x1] w fun e w' => e = .returned (.int .i64 (laws_szVersionS_m x0 x1)) ∧ Below w.heap.size w w' := by
  have r5 := r_0
  obtain ⟨m1, A2, c3, rfl, q4⟩ := r_0
  refine call_enterM (L := [(0, .slice A2 x0.length c3), (1, .int .i64 x1)]) (N := 27) Try.func178 rfl rfl (Nat.le_of_ble_eq_true rfl) (argsL_cons rfl (argsL_cons rfl argsL_nil)) ?_
  refine sr ?_
  refine wa ?_
  refine nt' ?_
  refine sr ?_
  refine wm ?_
  refine wm ?_
  refine wv (fun W hm => rv_len Try.underlying187 rfl) ?_
  refine wv (fun W hm => rv_sub rfl rfl) ?_
  refine wa ?_
  refine nt' ?_
  refine CM_seq ?_
  refine sr ?_
  refine wm ?_
  refine wv (fun W hm => rv_lss rfl rfl) ?_
  refine nt' ?_
  by_cases h6 : (IntKind.i64.wrap (x1 - ((x0.length : Nat) : Int))) < 0
  · have g7 : (decide ((IntKind.i64.wrap (x1 - ((x0.length : Nat) : Int))) < 0)) = true := decide_eq_true h6
    refine CM_condT rfl g7 ?_
    refine sr ?_
    refine wa ?_
    refine nt' ?_
    refine CM_ret ?_
    refine QM_then_ret ?_
    exact QM_ret1 rfl rfl (fun W hm => ⟨ret_i (show laws_szVersionS_m x0 x1 = (-1) from by unfold laws_szVersionS_m; exact cond_t g7 (rfl)), hm.below⟩)
  · have g7 : (decide ((IntKind.i64.wrap (x1 - ((x0.length : Nat) : Int))) < 0)) = false := decide_eq_false h6
    refine CM_condF rfl g7 ?_
    refine CM_skip ?_
    refine QM_then ?_
    refine CM_seq ?_
    refine sr ?_
    refine wa ?_
    refine nt' ?_
    refine CM_block ?_
    refine CM_loop (σ := Nat × (Int) × (Unit)) (fun s => [(0, .slice A2 x0.length c3), (1, .int .i64 s.2.1), (5, .int .i64 ((s.1 : Nat) : Int))]) (fun s => []) (fun s => s.1 ≤ x0.length ∧ rng (R := Int) (fun k (s : Int) => laws_szVersionS_b1 x0 k s) (x0.length - s.1) s.1 s.2.1 = rng (R := Int) (fun k (s : Int) => laws_szVersionS_b1 x0 k s) (x0.length - 0) 0 (IntKind.i64.wrap (x1 - ((x0.length : Nat) : Int)))) (fun s => x0.length - s.1) (0, (IntKind.i64.wrap (x1 - ((x0.length : Nat) : Int))), ()) (subL_cons rfl (subL_cons rfl (subL_cons rfl subL_nil))) (fun W hm => hm) ⟨(by omega), rfl⟩ ?_
    rintro ⟨k8, s9, ⟨⟩⟩ H12
    obtain ⟨hk10, hF11⟩ : k8 ≤ x0.length ∧ rng (R := Int) (fun k (s : Int) => laws_szVersionS_b1 x0 k s) (x0.length - k8) k8 s9 = rng (R := Int) (fun k (s : Int) => laws_szVersionS_b1 x0 k s) (x0.length - 0) 0 (IntKind.i64.wrap (x1 - ((x0.length : Nat) : Int))) := H12
    show CM Try.prog 27 _ _ _ _ [(0, .slice A2 x0.length c3), (1, .int .i64 s9), (5, .int .i64 ((k8 : Nat) : Int))] []
    refine CM_seq ?_
    refine sr ?_
    refine wm ?_
    refine wm ?_
    refine wv (fun W hm => rv_len Try.underlying187 rfl) ?_
    refine wv (fun W hm => rv_lss rfl rfl) ?_
    refine nt' ?_
    by_cases hl13 : k8 < x0.length
    · have g14 : (decide (((k8 : Nat) : Int) < ((x0.length : Nat) : Int))) = true := decide_eq_true (by omega)
      refine CM_condT rfl g14 ?_
      refine CM_skip ?_
      refine QM_then ?_
      refine CM_seq ?_
      refine CM_block ?_
      refine sr ?_
      refine wm ?_
      refine wm ?_
      obtain ⟨a15, rfl, hb16, he17⟩ := q4 (by omega)
      refine wv (fun W hm => rv_index (sz := 4) (k := k8) Try.underlying187 Try.type203 rfl rfl rfl (by omega)) ?_
      obtain ⟨_, e21, hc18⟩ := he17 k8 _ (gt_some (show k8 < x0.length from by omega))
      obtain ⟨v19, rfl, r20⟩ := tyLVersion_rd e21
      have r26 := r20
      obtain ⟨m22, A23, c24, rfl, q25⟩ := r20
      refine wv (fun W hm => rv_loadN (cs := [.int .i64 ((gt x0 k8).Id), .slice A23 ((gt x0 k8).Values).length c24, .int .i64 ((gt x0 k8).Born), .int .i64 ((gt x0 k8).Died)]) Try.underlying203 Try.type203 rfl rfl (hm.elCells (show (a15.add (k8 * 4)).block < w.heap.size from by rw [add_block]; exact hb16.1) hc18)) ?_
      refine wm ?_
      refine WM_callV (cl_fn cb205 rfl) (fun W hm => laws_szVersion_c W _ (gt x0 k8) s9 (tyLVersion_mk (x := (gt x0 k8)) (hm.rdS0 r26))) (Wd_none rfl) (by decide) ?_
      refine wa ?_
      refine nt' ?_
      refine sr ?_
      refine wm ?_
      refine wv (fun W hm => rv_lss rfl rfl) ?_
      refine nt' ?_
      by_cases h27 : (laws_szVersion_m (gt x0 k8) s9) < 0
      · have g28 : (decide ((laws_szVersion_m (gt x0 k8) s9) < 0)) = true := decide_eq_true h27
        refine CM_condT rfl g28 ?_
        refine sr ?_
        refine wa ?_
        refine nt' ?_
        refine CM_ret ?_
        refine QM_block_ret ?_
        refine QM_then_ret ?_
        refine QM_then_ret ?_
        refine QM_block_ret ?_
        refine QM_then_ret ?_
        exact QM_ret1 rfl rfl (fun W hm => ⟨ret_i (show laws_szVersionS_m x0 x1 = (-1) from by unfold laws_szVersionS_m; exact cond_f g7 (fin_inl (rng_ret (body := (fun k (s : Int) => laws_szVersionS_b1 x0 k s)) (k := k8) (s := s9) (show k8 < x0.length from by omega) (show laws_szVersionS_b1 x0 k8 s9 = Sum.inl (-1) from by unfold laws_szVersionS_b1; exact cond_t g28 (rfl)) hF11) rfl)), hm.below⟩)
      · have g28 : (decide ((laws_szVersion_m (gt x0 k8) s9) < 0)) = false := decide_eq_false h27
        refine CM_condF rfl g28 ?_
        refine CM_skip ?_
        refine QM_block_normal ?_
        refine QM_then ?_
        refine CM_region ?_
        refine wm ?_
        refine wv (fun W hm => rv_addN (p := k8) (q := 1) rfl rfl (by omega)) ?_
        refine wa ?_
        refine WM_nil ?_
        have hn29 := rng_next (R := Int) (body := (fun k (s : Int) => laws_szVersionS_b1 x0 k s)) (k := k8) (s := s9) (s' := (laws_szVersion_m (gt x0 k8) s9)) (show k8 < x0.length from by omega) (show laws_szVersionS_b1 x0 k8 s9 = Sum.inr (laws_szVersion_m (gt x0 k8) s9) from by unfold laws_szVersionS_b1; exact cond_f g28 (rfl)) hF11
        exact QM_round (k8 + 1, (laws_szVersion_m (gt x0 k8) s9), ()) (subL_cons rfl (subL_cons rfl (subL_cons rfl subL_nil))) (fun W hm => hm) ⟨(by omega), hn29⟩ (show x0.length - (k8 + 1) < x0.length - k8 from by omega)
    · have g14 : (decide (((k8 : Nat) : Int) < ((x0.length : Nat) : Int))) = false := decide_eq_false (by omega)
      refine CM_condF rfl g14 ?_
      refine CM_exit ?_
      refine QM_then_exit ?_
      refine QM_then_exit ?_
      have hE30 : rng (R := Int) (fun k (s : Int) => laws_szVersionS_b1 x0 k s) (x0.length - 0) 0 (IntKind.i64.wrap (x1 - ((x0.length : Nat) : Int))) = Sum.inr s9 := rng_end hl13 hF11
      refine QM_block_hit ?_
      refine QM_then ?_
      refine sr ?_
      refine wm ?_
      refine wa ?_
      refine nt' ?_
      refine CM_ret ?_
      exact QM_ret1 rfl rfl (fun W hm => ⟨ret_i (show laws_szVersionS_m x0 x1 = s9 from by unfold laws_szVersionS_m; exact cond_f g7 (fin_inr hE30 (rfl))), hm.below⟩)

def laws_szVersionSS_b1 (x0 : (List (List DVersion))) (k8 : Nat) (s9 : Int) : Int ⊕ (Int) :=
  cond (decide ((laws_szVersionS_m (gt x0 k8) s9) < 0)) (Sum.inl (-1)) (Sum.inr (laws_szVersionS_m (gt x0 k8) s9))
def laws_szVersionSS_m (x0 : (List (List DVersion))) (x1 : Int) : Int :=
  cond (decide ((IntKind.i64.wrap (x1 - ((x0.length : Nat) : Int))) < 0)) (-1) (Sum.elim id (fun (s : Int) => s) (rng (R := Int) (fun k (s : Int) => laws_szVersionSS_b1 x0 k s) (x0.length - 0) 0 (IntKind.i64.wrap (x1 - ((x0.length : Nat) : Int)))))
set_option maxRecDepth 100000 in
theorem cb126 : Cb Try.prog 126 := ⟨Try.f126, _, Try.func126, rfl, by decide⟩
set_option maxRecDepth 10000 in
set_option maxHeartbeats 4000000 in
theorem laws_szVersionSS_c (w : World) (z0 : Value) (x0 : (List (List DVersion))) (x1 : Int) (r_0 : rdS (tSl tyLVersion 203) w w.heap.size z0 x0) :
    Calls Try.prog 126 #[z0, .int .i64 x1] w fun e w' => e = .returned (.int .i64 (laws_szVersionSS_m x0 x1)) ∧ Below w.heap.size w w' := by
  have r5 := r_0
  obtain ⟨m1, A2, c3, rfl, q4⟩ := r_0
  refine call_enterM (L := [(0, .slice A2 x0.length c3), (1, .int .i64 x1)]) (N := 27) Try.func126 rfl rfl (Nat.le_of_ble_eq_true rfl) (argsL_cons rfl (argsL_cons rfl argsL_nil)) ?_
  refine sr ?_
  refine wa ?_
  refine nt' ?_
  refine sr ?_
  refine wm ?_
  refine wm ?_
  refine wv (fun W hm => rv_len Try.underlying63 rfl) ?_
  refine wv (fun W hm => rv_sub rfl rfl) ?_
  refine wa ?_
  refine nt' ?_
  refine CM_seq ?_
  refine sr ?_
  refine wm ?_
  refine wv (fun W hm => rv_lss rfl rfl) ?_
  refine nt' ?_
  by_cases h6 : (IntKind.i64.wrap (x1 - ((x0.length : Nat) : Int))) < 0
  · have g7 : (decide ((IntKind.i64.wrap (x1 - ((x0.length : Nat) : Int))) < 0)) = true := decide_eq_true h6
    refine CM_condT rfl g7 ?_
    refine sr ?_
    refine wa ?_
    refine nt' ?_
    refine CM_ret ?_
    refine QM_then_ret ?_
    exact QM_ret1 rfl rfl (fun W hm => ⟨ret_i (show laws_szVersionSS_m x0 x1 = (-1) from by unfold laws_szVersionSS_m; exact cond_t g7 (rfl)), hm.below⟩)
  · have g7 : (decide ((IntKind.i64.wrap (x1 - ((x0.length : Nat) : Int))) < 0)) = false := decide_eq_false h6
    refine CM_condF rfl g7 ?_
    refine CM_skip ?_
    refine QM_then ?_
    refine CM_seq ?_
    refine sr ?_
    refine wa ?_
    refine nt' ?_
    refine CM_block ?_
    refine CM_loop (σ := Nat × (Int) × (Unit)) (fun s => [(0, .slice A2 x0.length c3), (1, .int .i64 s.2.1), (5, .int .i64 ((s.1 : Nat) : Int))]) (fun s => []) (fun s => s.1 ≤ x0.length ∧ rng (R := Int) (fun k (s : Int) => laws_szVersionSS_b1 x0 k s) (x0.length - s.1) s.1 s.2.1 = rng (R := Int) (fun k (s : Int) => laws_szVersionSS_b1 x0 k s) (x0.length - 0) 0 (IntKind.i64.wrap (x1 - ((x0.length : Nat) : Int)))) (fun s => x0.length - s.1) (0, (IntKind.i64.wrap (x1 - ((x0.length : Nat) : Int))), ()) (subL_cons rfl (subL_cons rfl (subL_cons rfl subL_nil))) (fun W hm => hm) ⟨(by omega), rfl⟩ ?_
    rintro ⟨k8, s9, ⟨⟩⟩ H12
    obtain ⟨hk10, hF11⟩ : k8 ≤ x0.length ∧ rng (R := Int) (fun k (s : Int) => laws_szVersionSS_b1 x0 k s) (x0.length - k8) k8 s9 = rng (R := Int) (fun k (s : Int) => laws_szVersionSS_b1 x0 k s) (x0.length - 0) 0 (IntKind.i64.wrap (x1 - ((x0.length : Nat) : Int))) := H12
    show CM Try.prog 27 _ _ _ _ [(0, .slice A2 x0.length c3), (1, .int .i64 s9), (5, .int .i64 ((k8 : Nat) : Int))] []
    refine CM_seq ?_
    refine sr ?_
    refine wm ?_
    refine wm ?_
    refine wv (fun W hm => rv_len Try.underlying63 rfl) ?_
    refine wv (fun W hm => rv_lss rfl rfl) ?_
    refine nt' ?_
    by_cases hl13 : k8 < x0.length
    · have g14 : (decide (((k8 : Nat) : Int) < ((x0.length : Nat) : Int))) = true := decide_eq_true (by omega)
      refine CM_condT rfl g14 ?_
      refine CM_skip ?_
      refine QM_then ?_
      refine CM_seq ?_
      refine CM_block ?_
      refine sr ?_
      refine wm ?_
      refine wm ?_
      obtain ⟨a15, rfl, hb16, he17⟩ := q4 (by omega)
      refine wv (fun W hm => rv_index (sz := 1) (k := k8) Try.underlying63 Try.type187 rfl rfl rfl (by omega)) ?_
      obtain ⟨_, e19, hc18⟩ := he17 k8 _ (gt_some (show k8 < x0.length from by omega))
      obtain ⟨v20, rfl, r21⟩ := e19
      have r26 := r21
      obtain ⟨m22, A23, c24, rfl, q25⟩ := r21
      refine wv (fun W hm => rv_load Try.underlying187 rfl rfl ((hm.cell0 (show (a15.add (k8 * 1)).block < w.heap.size from by rw [add_block]; exact hb16.1)).trans (hc18 0 _ rfl))) ?_
      refine wm ?_
      refine WM_callV (cl_fn cb178 rfl) (fun W hm => laws_szVersionS_c W _ (gt x0 k8) s9 (hm.rdS0 r26)) (Wd_none rfl) (by decide) ?_
      refine wa ?_
      refine nt' ?_
      refine sr ?_
      refine wm ?_
      refine wv (fun W hm => rv_lss rfl rfl) ?_
      refine nt' ?_
      by_cases h27 : (laws_szVersionS_m (gt x0 k8) s9) < 0
      · have g28 : (decide ((laws_szVersionS_m (gt x0 k8) s9) < 0)) = true := decide_eq_true h27
        refine CM_condT rfl g28 ?_
        refine sr ?_
        refine wa ?_
        refine nt' ?_
        refine CM_ret ?_
        refine QM_block_ret ?_
        refine QM_then_ret ?_
        refine QM_then_ret ?_
        refine QM_block_ret ?_
        refine QM_then_ret ?_
        exact QM_ret1 rfl rfl (fun W hm => ⟨ret_i (show laws_szVersionSS_m x0 x1 = (-1) from by unfold laws_szVersionSS_m; exact cond_f g7 (fin_inl (rng_ret (body := (fun k (s : Int) => laws_szVersionSS_b1 x0 k s)) (k := k8) (s := s9) (show k8 < x0.length from by omega) (show laws_szVersionSS_b1 x0 k8 s9 = Sum.inl (-1) from by unfold laws_szVersionSS_b1; exact cond_t g28 (rfl)) hF11) rfl)), hm.below⟩)
      · have g28 : (decide ((laws_szVersionS_m (gt x0 k8) s9) < 0)) = false := decide_eq_false h27
        refine CM_condF rfl g28 ?_
        refine CM_skip ?_
        refine QM_block_normal ?_
        refine QM_then ?_
        refine CM_region ?_
        refine wm ?_
        refine wv (fun W hm => rv_addN (p := k8) (q := 1) rfl rfl (by omega)) ?_
        refine wa ?_
        refine WM_nil ?_
        have hn29 := rng_next (R := Int) (body := (fun k (s : Int) => laws_szVersionSS_b1 x0 k s)) (k := k8) (s := s9) (s' := (laws_szVersionS_m (gt x0 k8) s9)) (show k8 < x0.length from by omega) (show laws_szVersionSS_b1 x0 k8 s9 = Sum.inr (laws_szVersionS_m (gt x0 k8) s9) from by unfold laws_szVersionSS_b1; exact cond_f g28 (rfl)) hF11
        exact QM_round (k8 + 1, (laws_szVersionS_m (gt x0 k8) s9), ()) (subL_cons rfl (subL_cons rfl (subL_cons rfl subL_nil))) (fun W hm => hm) ⟨(by omega), hn29⟩ (show x0.length - (k8 + 1) < x0.length - k8 from by omega)
    · have g14 : (decide (((k8 : Nat) : Int) < ((x0.length : Nat) : Int))) = false := decide_eq_false (by omega)
      refine CM_condF rfl g14 ?_
      refine CM_exit ?_
      refine QM_then_exit ?_
      refine QM_then_exit ?_
      have hE30 : rng (R := Int) (fun k (s : Int) => laws_szVersionSS_b1 x0 k s) (x0.length - 0) 0 (IntKind.i64.wrap (x1 - ((x0.length : Nat) : Int))) = Sum.inr s9 := rng_end hl13 hF11
      refine QM_block_hit ?_
      refine QM_then ?_
      refine sr ?_
      refine wm ?_
      refine wa ?_
      refine nt' ?_
      refine CM_ret ?_
      exact QM_ret1 rfl rfl (fun W hm => ⟨ret_i (show laws_szVersionSS_m x0 x1 = s9 from by unfold laws_szVersionSS_m; exact cond_f g7 (fin_inr hE30 (rfl))), hm.below⟩)

def laws_szStore_m (x0 : DStore) (x1 : Int) : Int :=
  cond (decide ((laws_szVersionSS_m x0.Segments x1) < 0)) (-1) (laws_szVersionSS_m x0.Segments x1)
set_option maxRecDepth 100000 in
theorem cb49 : Cb Try.prog 49 := ⟨Try.f49, _, Try.func49, rfl, by decide⟩
set_option maxRecDepth 10000 in
set_option maxHeartbeats 4000000 in
theorem laws_szStore_c (w : World) (z0 : List Value) (x0 : DStore) (x1 : Int) (r_0 : tyLStore.rd w w.heap.size z0 x0) :
    Calls Try.prog 49 #[.agg z0.toArray, .int .i64 x1] w fun e w' => e = .returned (.int .i64 (laws_szStore_m x0 x1)) ∧ Below w.heap.size w w' := by
  obtain ⟨v1, rfl, r2⟩ := tyLStore_rd r_0
  have r7 := r2
  obtain ⟨m3, A4, c5, rfl, q6⟩ := r2
  refine call_enterM (L := [(0, .agg #[.slice A4 x0.Segments.length c5, .int .i64 x0.Now]), (1, .int .i64 x1)]) (N := 12) Try.func49 rfl rfl (Nat.le_of_ble_eq_true rfl) (argsL_cons rfl (argsL_cons rfl argsL_nil)) ?_
  refine sr ?_
  refine WM_box rfl (Wd_none rfl) (by decide) (fun p8 => ?_)
  refine wa ?_
  refine nt' ?_
  refine sr ?_
  refine wv (fun W hm => rv_field Try.underlying65 rfl Try.type63 (by decide) rfl rfl) ?_
  refine wv (fun W hm => rv_load Try.underlying63 rfl rfl (hm.boxCell (n := 0) (o := 0) rfl rfl)) ?_
  refine wm ?_
  refine WM_callV (cl_fn cb126 rfl) (fun W hm => laws_szVersionSS_c W _ x0.Segments x1 (hm.rdS0 r7)) (Wd_none rfl) (by decide) ?_
  refine wa ?_
  refine nt' ?_
  refine CM_seq ?_
  refine sr ?_
  refine wm ?_
  refine wv (fun W hm => rv_lss rfl rfl) ?_
  refine nt' ?_
  by_cases h9 : (laws_szVersionSS_m x0.Segments x1) < 0
  · have g10 : (decide ((laws_szVersionSS_m x0.Segments x1) < 0)) = true := decide_eq_true h9
    refine CM_condT rfl g10 ?_
    refine sr ?_
    refine wa ?_
    refine nt' ?_
    refine CM_ret ?_
    refine QM_then_ret ?_
    exact QM_ret1 rfl rfl (fun W hm => ⟨ret_i (show laws_szStore_m x0 x1 = (-1) from by unfold laws_szStore_m; exact cond_t g10 (rfl)), hm.below⟩)
  · have g10 : (decide ((laws_szVersionSS_m x0.Segments x1) < 0)) = false := decide_eq_false h9
    refine CM_condF rfl g10 ?_
    refine CM_skip ?_
    refine QM_then ?_
    refine sr ?_
    refine wm ?_
    refine wa ?_
    refine nt' ?_
    refine CM_ret ?_
    exact QM_ret1 rfl rfl (fun W hm => ⟨ret_i (show laws_szStore_m x0 x1 = (laws_szVersionSS_m x0.Segments x1) from by unfold laws_szStore_m; exact cond_f g10 (rfl)), hm.below⟩)

def laws_szCondS_m (x0 : (List DCond)) (x1 : Int) : Int :=
  cond (decide ((IntKind.i64.wrap (x1 - ((x0.length : Nat) : Int))) < 0)) (-1) (IntKind.i64.wrap (x1 - ((x0.length : Nat) : Int)))
set_option maxRecDepth 100000 in
theorem cb210 : Cb Try.prog 210 := ⟨Try.f210, _, Try.func210, rfl, by decide⟩
set_option maxRecDepth 10000 in
set_option maxHeartbeats 4000000 in
theorem laws_szCondS_c (w : World) (z0 : Value) (x0 : (List DCond)) (x1 : Int) (r_0 : rdS tyLCond w w.heap.size z0 x0) :
    Calls Try.prog 210 #[z0, .int .i64 x1] w fun e w' => e = .returned (.int .i64 (laws_szCondS_m x0 x1)) ∧ Below w.heap.size w w' := by
  have r5 := r_0
  obtain ⟨m1, A2, c3, rfl, q4⟩ := r_0
  refine call_enterM (L := [(0, .slice A2 x0.length c3), (1, .int .i64 x1)]) (N := 12) Try.func210 rfl rfl (Nat.le_of_ble_eq_true rfl) (argsL_cons rfl (argsL_cons rfl argsL_nil)) ?_
  refine sr ?_
  refine wa ?_
  refine nt' ?_
  refine sr ?_
  refine wm ?_
  refine wm ?_
  refine wv (fun W hm => rv_len Try.underlying167 rfl) ?_
  refine wv (fun W hm => rv_sub rfl rfl) ?_
  refine wa ?_
  refine nt' ?_
  refine CM_seq ?_
  refine sr ?_
  refine wm ?_
  refine wv (fun W hm => rv_lss rfl rfl) ?_
  refine nt' ?_
  by_cases h6 : (IntKind.i64.wrap (x1 - ((x0.length : Nat) : Int))) < 0
  · have g7 : (decide ((IntKind.i64.wrap (x1 - ((x0.length : Nat) : Int))) < 0)) = true := decide_eq_true h6
    refine CM_condT rfl g7 ?_
    refine sr ?_
    refine wa ?_
    refine nt' ?_
    refine CM_ret ?_
    refine QM_then_ret ?_
    exact QM_ret1 rfl rfl (fun W hm => ⟨ret_i (show laws_szCondS_m x0 x1 = (-1) from by unfold laws_szCondS_m; exact cond_t g7 (rfl)), hm.below⟩)
  · have g7 : (decide ((IntKind.i64.wrap (x1 - ((x0.length : Nat) : Int))) < 0)) = false := decide_eq_false h6
    refine CM_condF rfl g7 ?_
    refine CM_skip ?_
    refine QM_then ?_
    refine sr ?_
    refine wm ?_
    refine wa ?_
    refine nt' ?_
    refine CM_ret ?_
    exact QM_ret1 rfl rfl (fun W hm => ⟨ret_i (show laws_szCondS_m x0 x1 = (IntKind.i64.wrap (x1 - ((x0.length : Nat) : Int))) from by unfold laws_szCondS_m; exact cond_f g7 (rfl)), hm.below⟩)

def laws_szQuery_m (x0 : DQuery) (x1 : Int) : Int :=
  cond (decide ((laws_szCondS_m x0.Conds x1) < 0)) (-1) (cond (decide ((laws_szIntS_m x0.Out (laws_szCondS_m x0.Conds x1)) < 0)) (-1) (laws_szIntS_m x0.Out (laws_szCondS_m x0.Conds x1)))
set_option maxRecDepth 100000 in
theorem cb199 : Cb Try.prog 199 := ⟨Try.f199, _, Try.func199, rfl, by decide⟩
set_option maxRecDepth 10000 in
set_option maxHeartbeats 4000000 in
theorem laws_szQuery_c (w : World) (z0 : List Value) (x0 : DQuery) (x1 : Int) (r_0 : tyLQuery.rd w w.heap.size z0 x0) :
    Calls Try.prog 199 #[.agg z0.toArray, .int .i64 x1] w fun e w' => e = .returned (.int .i64 (laws_szQuery_m x0 x1)) ∧ Below w.heap.size w w' := by
  obtain ⟨v1, v3, rfl, r2, r4⟩ := tyLQuery_rd r_0
  have r9 := r2
  obtain ⟨m5, A6, c7, rfl, q8⟩ := r2
  have r14 := r4
  obtain ⟨m10, A11, c12, rfl, q13⟩ := r4
  refine call_enterM (L := [(0, .agg #[.int .i64 x0.Id, .int .i64 x0.Tenant, .slice A6 x0.Conds.length c7, .slice A11 x0.Out.length c12]), (1, .int .i64 x1)]) (N := 18) Try.func199 rfl rfl (Nat.le_of_ble_eq_true rfl) (argsL_cons rfl (argsL_cons rfl argsL_nil)) ?_
  refine sr ?_
  refine WM_box rfl (Wd_none rfl) (by decide) (fun p15 => ?_)
  refine wa ?_
  refine nt' ?_
  refine sr ?_
  refine wv (fun W hm => rv_field Try.underlying169 rfl Try.type167 (by decide) rfl rfl) ?_
  refine wv (fun W hm => rv_load Try.underlying167 rfl rfl (hm.boxCell (n := 0) (o := 2) rfl rfl)) ?_
  refine wm ?_
  refine WM_callV (cl_fn cb210 rfl) (fun W hm => laws_szCondS_c W _ x0.Conds x1 (hm.rdS0 r9)) (Wd_none rfl) (by decide) ?_
  refine wa ?_
  refine nt' ?_
  refine CM_seq ?_
  refine sr ?_
  refine wm ?_
  refine wv (fun W hm => rv_lss rfl rfl) ?_
  refine nt' ?_
  by_cases h16 : (laws_szCondS_m x0.Conds x1) < 0
  · have g17 : (decide ((laws_szCondS_m x0.Conds x1) < 0)) = true := decide_eq_true h16
    refine CM_condT rfl g17 ?_
    refine sr ?_
    refine wa ?_
    refine nt' ?_
    refine CM_ret ?_
    refine QM_then_ret ?_
    exact QM_ret1 rfl rfl (fun W hm => ⟨ret_i (show laws_szQuery_m x0 x1 = (-1) from by unfold laws_szQuery_m; exact cond_t g17 (rfl)), hm.below⟩)
  · have g17 : (decide ((laws_szCondS_m x0.Conds x1) < 0)) = false := decide_eq_false h16
    refine CM_condF rfl g17 ?_
    refine CM_skip ?_
    refine QM_then ?_
    refine sr ?_
    refine wv (fun W hm => rv_field Try.underlying169 rfl Try.type27 (by decide) rfl rfl) ?_
    refine wv (fun W hm => rv_load Try.underlying27 rfl rfl (hm.boxCell (n := 0) (o := 3) rfl rfl)) ?_
    refine wm ?_
    refine WM_callV (cl_fn cb105 rfl) (fun W hm => laws_szIntS_c W _ x0.Out (laws_szCondS_m x0.Conds x1) (hm.rdS0 r14)) (Wd_none rfl) (by decide) ?_
    refine wa ?_
    refine nt' ?_
    refine CM_seq ?_
    refine sr ?_
    refine wm ?_
    refine wv (fun W hm => rv_lss rfl rfl) ?_
    refine nt' ?_
    by_cases h18 : (laws_szIntS_m x0.Out (laws_szCondS_m x0.Conds x1)) < 0
    · have g19 : (decide ((laws_szIntS_m x0.Out (laws_szCondS_m x0.Conds x1)) < 0)) = true := decide_eq_true h18
      refine CM_condT rfl g19 ?_
      refine sr ?_
      refine wa ?_
      refine nt' ?_
      refine CM_ret ?_
      refine QM_then_ret ?_
      exact QM_ret1 rfl rfl (fun W hm => ⟨ret_i (show laws_szQuery_m x0 x1 = (-1) from by unfold laws_szQuery_m; exact cond_f g17 (cond_t g19 (rfl))), hm.below⟩)
    · have g19 : (decide ((laws_szIntS_m x0.Out (laws_szCondS_m x0.Conds x1)) < 0)) = false := decide_eq_false h18
      refine CM_condF rfl g19 ?_
      refine CM_skip ?_
      refine QM_then ?_
      refine sr ?_
      refine wm ?_
      refine wa ?_
      refine nt' ?_
      refine CM_ret ?_
      exact QM_ret1 rfl rfl (fun W hm => ⟨ret_i (show laws_szQuery_m x0 x1 = (laws_szIntS_m x0.Out (laws_szCondS_m x0.Conds x1)) from by unfold laws_szQuery_m; exact cond_f g17 (cond_f g19 (rfl))), hm.below⟩)

def laws_szRow_m (x0 : DRow) (x1 : Int) : Int :=
  cond (decide ((laws_szIntS_m x0.Values x1) < 0)) (-1) (laws_szIntS_m x0.Values x1)
set_option maxRecDepth 100000 in
theorem cb211 : Cb Try.prog 211 := ⟨Try.f211, _, Try.func211, rfl, by decide⟩
set_option maxRecDepth 10000 in
set_option maxHeartbeats 4000000 in
theorem laws_szRow_c (w : World) (z0 : List Value) (x0 : DRow) (x1 : Int) (r_0 : tyLRow.rd w w.heap.size z0 x0) :
    Calls Try.prog 211 #[.agg z0.toArray, .int .i64 x1] w fun e w' => e = .returned (.int .i64 (laws_szRow_m x0 x1)) ∧ Below w.heap.size w w' := by
  obtain ⟨v1, rfl, r2⟩ := tyLRow_rd r_0
  have r7 := r2
  obtain ⟨m3, A4, c5, rfl, q6⟩ := r2
  refine call_enterM (L := [(0, .agg #[.int .i64 x0.Id, .slice A4 x0.Values.length c5]), (1, .int .i64 x1)]) (N := 12) Try.func211 rfl rfl (Nat.le_of_ble_eq_true rfl) (argsL_cons rfl (argsL_cons rfl argsL_nil)) ?_
  refine sr ?_
  refine WM_box rfl (Wd_none rfl) (by decide) (fun p8 => ?_)
  refine wa ?_
  refine nt' ?_
  refine sr ?_
  refine wv (fun W hm => rv_field Try.underlying207 rfl Try.type27 (by decide) rfl rfl) ?_
  refine wv (fun W hm => rv_load Try.underlying27 rfl rfl (hm.boxCell (n := 0) (o := 1) rfl rfl)) ?_
  refine wm ?_
  refine WM_callV (cl_fn cb105 rfl) (fun W hm => laws_szIntS_c W _ x0.Values x1 (hm.rdS0 r7)) (Wd_none rfl) (by decide) ?_
  refine wa ?_
  refine nt' ?_
  refine CM_seq ?_
  refine sr ?_
  refine wm ?_
  refine wv (fun W hm => rv_lss rfl rfl) ?_
  refine nt' ?_
  by_cases h9 : (laws_szIntS_m x0.Values x1) < 0
  · have g10 : (decide ((laws_szIntS_m x0.Values x1) < 0)) = true := decide_eq_true h9
    refine CM_condT rfl g10 ?_
    refine sr ?_
    refine wa ?_
    refine nt' ?_
    refine CM_ret ?_
    refine QM_then_ret ?_
    exact QM_ret1 rfl rfl (fun W hm => ⟨ret_i (show laws_szRow_m x0 x1 = (-1) from by unfold laws_szRow_m; exact cond_t g10 (rfl)), hm.below⟩)
  · have g10 : (decide ((laws_szIntS_m x0.Values x1) < 0)) = false := decide_eq_false h9
    refine CM_condF rfl g10 ?_
    refine CM_skip ?_
    refine QM_then ?_
    refine sr ?_
    refine wm ?_
    refine wa ?_
    refine nt' ?_
    refine CM_ret ?_
    exact QM_ret1 rfl rfl (fun W hm => ⟨ret_i (show laws_szRow_m x0 x1 = (laws_szIntS_m x0.Values x1) from by unfold laws_szRow_m; exact cond_f g10 (rfl)), hm.below⟩)

def laws_szRowS_b1 (x0 : (List DRow)) (k8 : Nat) (s9 : Int) : Int ⊕ (Int) :=
  cond (decide ((laws_szRow_m (gt x0 k8) s9) < 0)) (Sum.inl (-1)) (Sum.inr (laws_szRow_m (gt x0 k8) s9))
def laws_szRowS_m (x0 : (List DRow)) (x1 : Int) : Int :=
  cond (decide ((IntKind.i64.wrap (x1 - ((x0.length : Nat) : Int))) < 0)) (-1) (Sum.elim id (fun (s : Int) => s) (rng (R := Int) (fun k (s : Int) => laws_szRowS_b1 x0 k s) (x0.length - 0) 0 (IntKind.i64.wrap (x1 - ((x0.length : Nat) : Int)))))
set_option maxRecDepth 100000 in
theorem cb200 : Cb Try.prog 200 := ⟨Try.f200, _, Try.func200, rfl, by decide⟩
set_option maxRecDepth 10000 in
set_option maxHeartbeats 4000000 in
theorem laws_szRowS_c (w : World) (z0 : Value) (x0 : (List DRow)) (x1 : Int) (r_0 : rdS tyLRow w w.heap.size z0 x0) :
    Calls Try.prog 200 #[z0, .int .i64 x1] w fun e w' => e = .returned (.int .i64 (laws_szRowS_m x0 x1)) ∧ Below w.heap.size w w' := by
  have r5 := r_0
  obtain ⟨m1, A2, c3, rfl, q4⟩ := r_0
  refine call_enterM (L := [(0, .slice A2 x0.length c3), (1, .int .i64 x1)]) (N := 27) Try.func200 rfl rfl (Nat.le_of_ble_eq_true rfl) (argsL_cons rfl (argsL_cons rfl argsL_nil)) ?_
  refine sr ?_
  refine wa ?_
  refine nt' ?_
  refine sr ?_
  refine wm ?_
  refine wm ?_
  refine wv (fun W hm => rv_len Try.underlying170 rfl) ?_
  refine wv (fun W hm => rv_sub rfl rfl) ?_
  refine wa ?_
  refine nt' ?_
  refine CM_seq ?_
  refine sr ?_
  refine wm ?_
  refine wv (fun W hm => rv_lss rfl rfl) ?_
  refine nt' ?_
  by_cases h6 : (IntKind.i64.wrap (x1 - ((x0.length : Nat) : Int))) < 0
  · have g7 : (decide ((IntKind.i64.wrap (x1 - ((x0.length : Nat) : Int))) < 0)) = true := decide_eq_true h6
    refine CM_condT rfl g7 ?_
    refine sr ?_
    refine wa ?_
    refine nt' ?_
    refine CM_ret ?_
    refine QM_then_ret ?_
    exact QM_ret1 rfl rfl (fun W hm => ⟨ret_i (show laws_szRowS_m x0 x1 = (-1) from by unfold laws_szRowS_m; exact cond_t g7 (rfl)), hm.below⟩)
  · have g7 : (decide ((IntKind.i64.wrap (x1 - ((x0.length : Nat) : Int))) < 0)) = false := decide_eq_false h6
    refine CM_condF rfl g7 ?_
    refine CM_skip ?_
    refine QM_then ?_
    refine CM_seq ?_
    refine sr ?_
    refine wa ?_
    refine nt' ?_
    refine CM_block ?_
    refine CM_loop (σ := Nat × (Int) × (Unit)) (fun s => [(0, .slice A2 x0.length c3), (1, .int .i64 s.2.1), (5, .int .i64 ((s.1 : Nat) : Int))]) (fun s => []) (fun s => s.1 ≤ x0.length ∧ rng (R := Int) (fun k (s : Int) => laws_szRowS_b1 x0 k s) (x0.length - s.1) s.1 s.2.1 = rng (R := Int) (fun k (s : Int) => laws_szRowS_b1 x0 k s) (x0.length - 0) 0 (IntKind.i64.wrap (x1 - ((x0.length : Nat) : Int)))) (fun s => x0.length - s.1) (0, (IntKind.i64.wrap (x1 - ((x0.length : Nat) : Int))), ()) (subL_cons rfl (subL_cons rfl (subL_cons rfl subL_nil))) (fun W hm => hm) ⟨(by omega), rfl⟩ ?_
    rintro ⟨k8, s9, ⟨⟩⟩ H12
    obtain ⟨hk10, hF11⟩ : k8 ≤ x0.length ∧ rng (R := Int) (fun k (s : Int) => laws_szRowS_b1 x0 k s) (x0.length - k8) k8 s9 = rng (R := Int) (fun k (s : Int) => laws_szRowS_b1 x0 k s) (x0.length - 0) 0 (IntKind.i64.wrap (x1 - ((x0.length : Nat) : Int))) := H12
    show CM Try.prog 27 _ _ _ _ [(0, .slice A2 x0.length c3), (1, .int .i64 s9), (5, .int .i64 ((k8 : Nat) : Int))] []
    refine CM_seq ?_
    refine sr ?_
    refine wm ?_
    refine wm ?_
    refine wv (fun W hm => rv_len Try.underlying170 rfl) ?_
    refine wv (fun W hm => rv_lss rfl rfl) ?_
    refine nt' ?_
    by_cases hl13 : k8 < x0.length
    · have g14 : (decide (((k8 : Nat) : Int) < ((x0.length : Nat) : Int))) = true := decide_eq_true (by omega)
      refine CM_condT rfl g14 ?_
      refine CM_skip ?_
      refine QM_then ?_
      refine CM_seq ?_
      refine CM_block ?_
      refine sr ?_
      refine wm ?_
      refine wm ?_
      obtain ⟨a15, rfl, hb16, he17⟩ := q4 (by omega)
      refine wv (fun W hm => rv_index (sz := 2) (k := k8) Try.underlying170 Try.type207 rfl rfl rfl (by omega)) ?_
      obtain ⟨_, e21, hc18⟩ := he17 k8 _ (gt_some (show k8 < x0.length from by omega))
      obtain ⟨v19, rfl, r20⟩ := tyLRow_rd e21
      have r26 := r20
      obtain ⟨m22, A23, c24, rfl, q25⟩ := r20
      refine wv (fun W hm => rv_loadN (cs := [.int .i64 ((gt x0 k8).Id), .slice A23 ((gt x0 k8).Values).length c24]) Try.underlying207 Try.type207 rfl rfl (hm.elCells (show (a15.add (k8 * 2)).block < w.heap.size from by rw [add_block]; exact hb16.1) hc18)) ?_
      refine wm ?_
      refine WM_callV (cl_fn cb211 rfl) (fun W hm => laws_szRow_c W _ (gt x0 k8) s9 (tyLRow_mk (x := (gt x0 k8)) (hm.rdS0 r26))) (Wd_none rfl) (by decide) ?_
      refine wa ?_
      refine nt' ?_
      refine sr ?_
      refine wm ?_
      refine wv (fun W hm => rv_lss rfl rfl) ?_
      refine nt' ?_
      by_cases h27 : (laws_szRow_m (gt x0 k8) s9) < 0
      · have g28 : (decide ((laws_szRow_m (gt x0 k8) s9) < 0)) = true := decide_eq_true h27
        refine CM_condT rfl g28 ?_
        refine sr ?_
        refine wa ?_
        refine nt' ?_
        refine CM_ret ?_
        refine QM_block_ret ?_
        refine QM_then_ret ?_
        refine QM_then_ret ?_
        refine QM_block_ret ?_
        refine QM_then_ret ?_
        exact QM_ret1 rfl rfl (fun W hm => ⟨ret_i (show laws_szRowS_m x0 x1 = (-1) from by unfold laws_szRowS_m; exact cond_f g7 (fin_inl (rng_ret (body := (fun k (s : Int) => laws_szRowS_b1 x0 k s)) (k := k8) (s := s9) (show k8 < x0.length from by omega) (show laws_szRowS_b1 x0 k8 s9 = Sum.inl (-1) from by unfold laws_szRowS_b1; exact cond_t g28 (rfl)) hF11) rfl)), hm.below⟩)
      · have g28 : (decide ((laws_szRow_m (gt x0 k8) s9) < 0)) = false := decide_eq_false h27
        refine CM_condF rfl g28 ?_
        refine CM_skip ?_
        refine QM_block_normal ?_
        refine QM_then ?_
        refine CM_region ?_
        refine wm ?_
        refine wv (fun W hm => rv_addN (p := k8) (q := 1) rfl rfl (by omega)) ?_
        refine wa ?_
        refine WM_nil ?_
        have hn29 := rng_next (R := Int) (body := (fun k (s : Int) => laws_szRowS_b1 x0 k s)) (k := k8) (s := s9) (s' := (laws_szRow_m (gt x0 k8) s9)) (show k8 < x0.length from by omega) (show laws_szRowS_b1 x0 k8 s9 = Sum.inr (laws_szRow_m (gt x0 k8) s9) from by unfold laws_szRowS_b1; exact cond_f g28 (rfl)) hF11
        exact QM_round (k8 + 1, (laws_szRow_m (gt x0 k8) s9), ()) (subL_cons rfl (subL_cons rfl (subL_cons rfl subL_nil))) (fun W hm => hm) ⟨(by omega), hn29⟩ (show x0.length - (k8 + 1) < x0.length - k8 from by omega)
    · have g14 : (decide (((k8 : Nat) : Int) < ((x0.length : Nat) : Int))) = false := decide_eq_false (by omega)
      refine CM_condF rfl g14 ?_
      refine CM_exit ?_
      refine QM_then_exit ?_
      refine QM_then_exit ?_
      have hE30 : rng (R := Int) (fun k (s : Int) => laws_szRowS_b1 x0 k s) (x0.length - 0) 0 (IntKind.i64.wrap (x1 - ((x0.length : Nat) : Int))) = Sum.inr s9 := rng_end hl13 hF11
      refine QM_block_hit ?_
      refine QM_then ?_
      refine sr ?_
      refine wm ?_
      refine wa ?_
      refine nt' ?_
      refine CM_ret ?_
      exact QM_ret1 rfl rfl (fun W hm => ⟨ret_i (show laws_szRowS_m x0 x1 = s9 from by unfold laws_szRowS_m; exact cond_f g7 (fin_inr hE30 (rfl))), hm.below⟩)

def laws_szActive_m (x0 : DActive) (x1 : Int) : Int :=
  cond (decide ((laws_szQuery_m x0.Query x1) < 0)) (-1) (cond (decide ((laws_szIntS_m x0.Todo (laws_szQuery_m x0.Query x1)) < 0)) (-1) (cond (decide ((laws_szRowS_m x0.Rows (laws_szIntS_m x0.Todo (laws_szQuery_m x0.Query x1))) < 0)) (-1) (laws_szRowS_m x0.Rows (laws_szIntS_m x0.Todo (laws_szQuery_m x0.Query x1)))))
set_option maxRecDepth 100000 in
theorem cb165 : Cb Try.prog 165 := ⟨Try.f165, _, Try.func165, rfl, by decide⟩
set_option maxRecDepth 10000 in
set_option maxHeartbeats 4000000 in
theorem laws_szActive_c (w : World) (z0 : List Value) (x0 : DActive) (x1 : Int) (r_0 : tyLActive.rd w w.heap.size z0 x0) :
    Calls Try.prog 165 #[.agg z0.toArray, .int .i64 x1] w fun e w' => e = .returned (.int .i64 (laws_szActive_m x0 x1)) ∧ Below w.heap.size w w' := by
  obtain ⟨v1, v3, v5, v7, rfl, r2, r4, r6, r8⟩ := tyLActive_rd r_0
  have r13 := r2
  obtain ⟨m9, A10, c11, rfl, q12⟩ := r2
  have r18 := r4
  obtain ⟨m14, A15, c16, rfl, q17⟩ := r4
  have r23 := r6
  obtain ⟨m19, A20, c21, rfl, q22⟩ := r6
  have r28 := r8
  obtain ⟨m24, A25, c26, rfl, q27⟩ := r8
  refine call_enterM (L := [(0, .agg #[.int .i64 x0.Query.Id, .int .i64 x0.Query.Tenant, .slice A10 x0.Query.Conds.length c11, .slice A15 x0.Query.Out.length c16, .int .i64 x0.Time, .slice A20 x0.Todo.length c21, .int .i64 x0.Age, .int .i64 x0.Sent, .int .i64 x0.Cap, .slice A25 x0.Rows.length c26]), (1, .int .i64 x1)]) (N := 24) Try.func165 rfl rfl (Nat.le_of_ble_eq_true rfl) (argsL_cons rfl (argsL_cons rfl argsL_nil)) ?_
  refine sr ?_
  refine WM_box rfl (Wd_none rfl) (by decide) (fun p29 => ?_)
  refine wa ?_
  refine nt' ?_
  refine sr ?_
  refine wv (fun W hm => rv_field Try.underlying172 rfl Try.type169 (by decide) rfl rfl) ?_
  refine wv (fun W hm => rv_loadN (cs := [.int .i64 x0.Query.Id, .int .i64 x0.Query.Tenant, .slice A10 x0.Query.Conds.length c11, .slice A15 x0.Query.Out.length c16]) Try.underlying169 Try.type169 rfl rfl (hm.boxPart (n := 0) rfl rfl)) ?_
  refine wm ?_
  refine WM_callV (cl_fn cb199 rfl) (fun W hm => laws_szQuery_c W _ x0.Query x1 (tyLQuery_mk (x := x0.Query) (hm.rdS0 r13) (hm.rdS0 r18))) (Wd_none rfl) (by decide) ?_
  refine wa ?_
  refine nt' ?_
  refine CM_seq ?_
  refine sr ?_
  refine wm ?_
  refine wv (fun W hm => rv_lss rfl rfl) ?_
  refine nt' ?_
  by_cases h30 : (laws_szQuery_m x0.Query x1) < 0
  · have g31 : (decide ((laws_szQuery_m x0.Query x1) < 0)) = true := decide_eq_true h30
    refine CM_condT rfl g31 ?_
    refine sr ?_
    refine wa ?_
    refine nt' ?_
    refine CM_ret ?_
    refine QM_then_ret ?_
    exact QM_ret1 rfl rfl (fun W hm => ⟨ret_i (show laws_szActive_m x0 x1 = (-1) from by unfold laws_szActive_m; exact cond_t g31 (rfl)), hm.below⟩)
  · have g31 : (decide ((laws_szQuery_m x0.Query x1) < 0)) = false := decide_eq_false h30
    refine CM_condF rfl g31 ?_
    refine CM_skip ?_
    refine QM_then ?_
    refine sr ?_
    refine wv (fun W hm => rv_field Try.underlying172 rfl Try.type27 (by decide) rfl rfl) ?_
    refine wv (fun W hm => rv_load Try.underlying27 rfl rfl (hm.boxCell (n := 0) (o := 5) rfl rfl)) ?_
    refine wm ?_
    refine WM_callV (cl_fn cb105 rfl) (fun W hm => laws_szIntS_c W _ x0.Todo (laws_szQuery_m x0.Query x1) (hm.rdS0 r23)) (Wd_none rfl) (by decide) ?_
    refine wa ?_
    refine nt' ?_
    refine CM_seq ?_
    refine sr ?_
    refine wm ?_
    refine wv (fun W hm => rv_lss rfl rfl) ?_
    refine nt' ?_
    by_cases h32 : (laws_szIntS_m x0.Todo (laws_szQuery_m x0.Query x1)) < 0
    · have g33 : (decide ((laws_szIntS_m x0.Todo (laws_szQuery_m x0.Query x1)) < 0)) = true := decide_eq_true h32
      refine CM_condT rfl g33 ?_
      refine sr ?_
      refine wa ?_
      refine nt' ?_
      refine CM_ret ?_
      refine QM_then_ret ?_
      exact QM_ret1 rfl rfl (fun W hm => ⟨ret_i (show laws_szActive_m x0 x1 = (-1) from by unfold laws_szActive_m; exact cond_f g31 (cond_t g33 (rfl))), hm.below⟩)
    · have g33 : (decide ((laws_szIntS_m x0.Todo (laws_szQuery_m x0.Query x1)) < 0)) = false := decide_eq_false h32
      refine CM_condF rfl g33 ?_
      refine CM_skip ?_
      refine QM_then ?_
      refine sr ?_
      refine wv (fun W hm => rv_field Try.underlying172 rfl Try.type170 (by decide) rfl rfl) ?_
      refine wv (fun W hm => rv_load Try.underlying170 rfl rfl (hm.boxCell (n := 0) (o := 9) rfl rfl)) ?_
      refine wm ?_
      refine WM_callV (cl_fn cb200 rfl) (fun W hm => laws_szRowS_c W _ x0.Rows (laws_szIntS_m x0.Todo (laws_szQuery_m x0.Query x1)) (hm.rdS0 r28)) (Wd_none rfl) (by decide) ?_
      refine wa ?_
      refine nt' ?_
      refine CM_seq ?_
      refine sr ?_
      refine wm ?_
      refine wv (fun W hm => rv_lss rfl rfl) ?_
      refine nt' ?_
      by_cases h34 : (laws_szRowS_m x0.Rows (laws_szIntS_m x0.Todo (laws_szQuery_m x0.Query x1))) < 0
      · have g35 : (decide ((laws_szRowS_m x0.Rows (laws_szIntS_m x0.Todo (laws_szQuery_m x0.Query x1))) < 0)) = true := decide_eq_true h34
        refine CM_condT rfl g35 ?_
        refine sr ?_
        refine wa ?_
        refine nt' ?_
        refine CM_ret ?_
        refine QM_then_ret ?_
        exact QM_ret1 rfl rfl (fun W hm => ⟨ret_i (show laws_szActive_m x0 x1 = (-1) from by unfold laws_szActive_m; exact cond_f g31 (cond_f g33 (cond_t g35 (rfl)))), hm.below⟩)
      · have g35 : (decide ((laws_szRowS_m x0.Rows (laws_szIntS_m x0.Todo (laws_szQuery_m x0.Query x1))) < 0)) = false := decide_eq_false h34
        refine CM_condF rfl g35 ?_
        refine CM_skip ?_
        refine QM_then ?_
        refine sr ?_
        refine wm ?_
        refine wa ?_
        refine nt' ?_
        refine CM_ret ?_
        exact QM_ret1 rfl rfl (fun W hm => ⟨ret_i (show laws_szActive_m x0 x1 = (laws_szRowS_m x0.Rows (laws_szIntS_m x0.Todo (laws_szQuery_m x0.Query x1))) from by unfold laws_szActive_m; exact cond_f g31 (cond_f g33 (cond_f g35 (rfl)))), hm.below⟩)

def laws_szActiveS_b1 (x0 : (List DActive)) (k8 : Nat) (s9 : Int) : Int ⊕ (Int) :=
  cond (decide ((laws_szActive_m (gt x0 k8) s9) < 0)) (Sum.inl (-1)) (Sum.inr (laws_szActive_m (gt x0 k8) s9))
def laws_szActiveS_m (x0 : (List DActive)) (x1 : Int) : Int :=
  cond (decide ((IntKind.i64.wrap (x1 - ((x0.length : Nat) : Int))) < 0)) (-1) (Sum.elim id (fun (s : Int) => s) (rng (R := Int) (fun k (s : Int) => laws_szActiveS_b1 x0 k s) (x0.length - 0) 0 (IntKind.i64.wrap (x1 - ((x0.length : Nat) : Int)))))
set_option maxRecDepth 100000 in
theorem cb106 : Cb Try.prog 106 := ⟨Try.f106, _, Try.func106, rfl, by decide⟩
set_option maxRecDepth 10000 in
set_option maxHeartbeats 4000000 in
theorem laws_szActiveS_c (w : World) (z0 : Value) (x0 : (List DActive)) (x1 : Int) (r_0 : rdS tyLActive w w.heap.size z0 x0) :
    Calls Try.prog 106 #[z0, .int .i64 x1] w fun e w' => e = .returned (.int .i64 (laws_szActiveS_m x0 x1)) ∧ Below w.heap.size w w' := by
  have r5 := r_0
  obtain ⟨m1, A2, c3, rfl, q4⟩ := r_0
  refine call_enterM (L := [(0, .slice A2 x0.length c3), (1, .int .i64 x1)]) (N := 27) Try.func106 rfl rfl (Nat.le_of_ble_eq_true rfl) (argsL_cons rfl (argsL_cons rfl argsL_nil)) ?_
  refine sr ?_
  refine wa ?_
  refine nt' ?_
  refine sr ?_
  refine wm ?_
  refine wm ?_
  refine wv (fun W hm => rv_len Try.underlying66 rfl) ?_
  refine wv (fun W hm => rv_sub rfl rfl) ?_
  refine wa ?_
  refine nt' ?_
  refine CM_seq ?_
  refine sr ?_
  refine wm ?_
  refine wv (fun W hm => rv_lss rfl rfl) ?_
  refine nt' ?_
  by_cases h6 : (IntKind.i64.wrap (x1 - ((x0.length : Nat) : Int))) < 0
  · have g7 : (decide ((IntKind.i64.wrap (x1 - ((x0.length : Nat) : Int))) < 0)) = true := decide_eq_true h6
    refine CM_condT rfl g7 ?_
    refine sr ?_
    refine wa ?_
    refine nt' ?_
    refine CM_ret ?_
    refine QM_then_ret ?_
    exact QM_ret1 rfl rfl (fun W hm => ⟨ret_i (show laws_szActiveS_m x0 x1 = (-1) from by unfold laws_szActiveS_m; exact cond_t g7 (rfl)), hm.below⟩)
  · have g7 : (decide ((IntKind.i64.wrap (x1 - ((x0.length : Nat) : Int))) < 0)) = false := decide_eq_false h6
    refine CM_condF rfl g7 ?_
    refine CM_skip ?_
    refine QM_then ?_
    refine CM_seq ?_
    refine sr ?_
    refine wa ?_
    refine nt' ?_
    refine CM_block ?_
    refine CM_loop (σ := Nat × (Int) × (Unit)) (fun s => [(0, .slice A2 x0.length c3), (1, .int .i64 s.2.1), (5, .int .i64 ((s.1 : Nat) : Int))]) (fun s => []) (fun s => s.1 ≤ x0.length ∧ rng (R := Int) (fun k (s : Int) => laws_szActiveS_b1 x0 k s) (x0.length - s.1) s.1 s.2.1 = rng (R := Int) (fun k (s : Int) => laws_szActiveS_b1 x0 k s) (x0.length - 0) 0 (IntKind.i64.wrap (x1 - ((x0.length : Nat) : Int)))) (fun s => x0.length - s.1) (0, (IntKind.i64.wrap (x1 - ((x0.length : Nat) : Int))), ()) (subL_cons rfl (subL_cons rfl (subL_cons rfl subL_nil))) (fun W hm => hm) ⟨(by omega), rfl⟩ ?_
    rintro ⟨k8, s9, ⟨⟩⟩ H12
    obtain ⟨hk10, hF11⟩ : k8 ≤ x0.length ∧ rng (R := Int) (fun k (s : Int) => laws_szActiveS_b1 x0 k s) (x0.length - k8) k8 s9 = rng (R := Int) (fun k (s : Int) => laws_szActiveS_b1 x0 k s) (x0.length - 0) 0 (IntKind.i64.wrap (x1 - ((x0.length : Nat) : Int))) := H12
    show CM Try.prog 27 _ _ _ _ [(0, .slice A2 x0.length c3), (1, .int .i64 s9), (5, .int .i64 ((k8 : Nat) : Int))] []
    refine CM_seq ?_
    refine sr ?_
    refine wm ?_
    refine wm ?_
    refine wv (fun W hm => rv_len Try.underlying66 rfl) ?_
    refine wv (fun W hm => rv_lss rfl rfl) ?_
    refine nt' ?_
    by_cases hl13 : k8 < x0.length
    · have g14 : (decide (((k8 : Nat) : Int) < ((x0.length : Nat) : Int))) = true := decide_eq_true (by omega)
      refine CM_condT rfl g14 ?_
      refine CM_skip ?_
      refine QM_then ?_
      refine CM_seq ?_
      refine CM_block ?_
      refine sr ?_
      refine wm ?_
      refine wm ?_
      obtain ⟨a15, rfl, hb16, he17⟩ := q4 (by omega)
      refine wv (fun W hm => rv_index (sz := 10) (k := k8) Try.underlying66 Try.type172 rfl rfl rfl (by omega)) ?_
      obtain ⟨_, e27, hc18⟩ := he17 k8 _ (gt_some (show k8 < x0.length from by omega))
      obtain ⟨v19, v21, v23, v25, rfl, r20, r22, r24, r26⟩ := tyLActive_rd e27
      have r32 := r20
      obtain ⟨m28, A29, c30, rfl, q31⟩ := r20
      have r37 := r22
      obtain ⟨m33, A34, c35, rfl, q36⟩ := r22
      have r42 := r24
      obtain ⟨m38, A39, c40, rfl, q41⟩ := r24
      have r47 := r26
      obtain ⟨m43, A44, c45, rfl, q46⟩ := r26
      refine wv (fun W hm => rv_loadN (cs := [.int .i64 ((gt x0 k8).Query.Id), .int .i64 ((gt x0 k8).Query.Tenant), .slice A29 ((gt x0 k8).Query.Conds).length c30, .slice A34 ((gt x0 k8).Query.Out).length c35, .int .i64 ((gt x0 k8).Time), .slice A39 ((gt x0 k8).Todo).length c40, .int .i64 ((gt x0 k8).Age), .int .i64 ((gt x0 k8).Sent), .int .i64 ((gt x0 k8).Cap), .slice A44 ((gt x0 k8).Rows).length c45]) Try.underlying172 Try.type172 rfl rfl (hm.elCells (show (a15.add (k8 * 10)).block < w.heap.size from by rw [add_block]; exact hb16.1) hc18)) ?_
      refine wm ?_
      refine WM_callV (cl_fn cb165 rfl) (fun W hm => laws_szActive_c W _ (gt x0 k8) s9 (tyLActive_mk (x := (gt x0 k8)) (hm.rdS0 r32) (hm.rdS0 r37) (hm.rdS0 r42) (hm.rdS0 r47))) (Wd_none rfl) (by decide) ?_
      refine wa ?_
      refine nt' ?_
      refine sr ?_
      refine wm ?_
      refine wv (fun W hm => rv_lss rfl rfl) ?_
      refine nt' ?_
      by_cases h48 : (laws_szActive_m (gt x0 k8) s9) < 0
      · have g49 : (decide ((laws_szActive_m (gt x0 k8) s9) < 0)) = true := decide_eq_true h48
        refine CM_condT rfl g49 ?_
        refine sr ?_
        refine wa ?_
        refine nt' ?_
        refine CM_ret ?_
        refine QM_block_ret ?_
        refine QM_then_ret ?_
        refine QM_then_ret ?_
        refine QM_block_ret ?_
        refine QM_then_ret ?_
        exact QM_ret1 rfl rfl (fun W hm => ⟨ret_i (show laws_szActiveS_m x0 x1 = (-1) from by unfold laws_szActiveS_m; exact cond_f g7 (fin_inl (rng_ret (body := (fun k (s : Int) => laws_szActiveS_b1 x0 k s)) (k := k8) (s := s9) (show k8 < x0.length from by omega) (show laws_szActiveS_b1 x0 k8 s9 = Sum.inl (-1) from by unfold laws_szActiveS_b1; exact cond_t g49 (rfl)) hF11) rfl)), hm.below⟩)
      · have g49 : (decide ((laws_szActive_m (gt x0 k8) s9) < 0)) = false := decide_eq_false h48
        refine CM_condF rfl g49 ?_
        refine CM_skip ?_
        refine QM_block_normal ?_
        refine QM_then ?_
        refine CM_region ?_
        refine wm ?_
        refine wv (fun W hm => rv_addN (p := k8) (q := 1) rfl rfl (by omega)) ?_
        refine wa ?_
        refine WM_nil ?_
        have hn50 := rng_next (R := Int) (body := (fun k (s : Int) => laws_szActiveS_b1 x0 k s)) (k := k8) (s := s9) (s' := (laws_szActive_m (gt x0 k8) s9)) (show k8 < x0.length from by omega) (show laws_szActiveS_b1 x0 k8 s9 = Sum.inr (laws_szActive_m (gt x0 k8) s9) from by unfold laws_szActiveS_b1; exact cond_f g49 (rfl)) hF11
        exact QM_round (k8 + 1, (laws_szActive_m (gt x0 k8) s9), ()) (subL_cons rfl (subL_cons rfl (subL_cons rfl subL_nil))) (fun W hm => hm) ⟨(by omega), hn50⟩ (show x0.length - (k8 + 1) < x0.length - k8 from by omega)
    · have g14 : (decide (((k8 : Nat) : Int) < ((x0.length : Nat) : Int))) = false := decide_eq_false (by omega)
      refine CM_condF rfl g14 ?_
      refine CM_exit ?_
      refine QM_then_exit ?_
      refine QM_then_exit ?_
      have hE51 : rng (R := Int) (fun k (s : Int) => laws_szActiveS_b1 x0 k s) (x0.length - 0) 0 (IntKind.i64.wrap (x1 - ((x0.length : Nat) : Int))) = Sum.inr s9 := rng_end hl13 hF11
      refine QM_block_hit ?_
      refine QM_then ?_
      refine sr ?_
      refine wm ?_
      refine wa ?_
      refine nt' ?_
      refine CM_ret ?_
      exact QM_ret1 rfl rfl (fun W hm => ⟨ret_i (show laws_szActiveS_m x0 x1 = s9 from by unfold laws_szActiveS_m; exact cond_f g7 (fin_inr hE51 (rfl))), hm.below⟩)

def laws_szFinished_m (x0 : DFinished) (x1 : Int) : Int :=
  cond (decide ((laws_szQuery_m x0.Query x1) < 0)) (-1) (cond (decide ((laws_szRowS_m x0.Rows (laws_szQuery_m x0.Query x1)) < 0)) (-1) (laws_szRowS_m x0.Rows (laws_szQuery_m x0.Query x1)))
set_option maxRecDepth 100000 in
theorem cb166 : Cb Try.prog 166 := ⟨Try.f166, _, Try.func166, rfl, by decide⟩
set_option maxRecDepth 10000 in
set_option maxHeartbeats 4000000 in
theorem laws_szFinished_c (w : World) (z0 : List Value) (x0 : DFinished) (x1 : Int) (r_0 : tyLFinished.rd w w.heap.size z0 x0) :
    Calls Try.prog 166 #[.agg z0.toArray, .int .i64 x1] w fun e w' => e = .returned (.int .i64 (laws_szFinished_m x0 x1)) ∧ Below w.heap.size w w' := by
  obtain ⟨v1, v3, v5, rfl, r2, r4, r6⟩ := tyLFinished_rd r_0
  have r11 := r2
  obtain ⟨m7, A8, c9, rfl, q10⟩ := r2
  have r16 := r4
  obtain ⟨m12, A13, c14, rfl, q15⟩ := r4
  have r21 := r6
  obtain ⟨m17, A18, c19, rfl, q20⟩ := r6
  refine call_enterM (L := [(0, .agg #[.int .i64 x0.Query.Id, .int .i64 x0.Query.Tenant, .slice A8 x0.Query.Conds.length c9, .slice A13 x0.Query.Out.length c14, .int .i64 x0.Time, .int .i64 x0.Steps, .slice A18 x0.Rows.length c19]), (1, .int .i64 x1)]) (N := 18) Try.func166 rfl rfl (Nat.le_of_ble_eq_true rfl) (argsL_cons rfl (argsL_cons rfl argsL_nil)) ?_
  refine sr ?_
  refine WM_box rfl (Wd_none rfl) (by decide) (fun p22 => ?_)
  refine wa ?_
  refine nt' ?_
  refine sr ?_
  refine wv (fun W hm => rv_field Try.underlying175 rfl Try.type169 (by decide) rfl rfl) ?_
  refine wv (fun W hm => rv_loadN (cs := [.int .i64 x0.Query.Id, .int .i64 x0.Query.Tenant, .slice A8 x0.Query.Conds.length c9, .slice A13 x0.Query.Out.length c14]) Try.underlying169 Try.type169 rfl rfl (hm.boxPart (n := 0) rfl rfl)) ?_
  refine wm ?_
  refine WM_callV (cl_fn cb199 rfl) (fun W hm => laws_szQuery_c W _ x0.Query x1 (tyLQuery_mk (x := x0.Query) (hm.rdS0 r11) (hm.rdS0 r16))) (Wd_none rfl) (by decide) ?_
  refine wa ?_
  refine nt' ?_
  refine CM_seq ?_
  refine sr ?_
  refine wm ?_
  refine wv (fun W hm => rv_lss rfl rfl) ?_
  refine nt' ?_
  by_cases h23 : (laws_szQuery_m x0.Query x1) < 0
  · have g24 : (decide ((laws_szQuery_m x0.Query x1) < 0)) = true := decide_eq_true h23
    refine CM_condT rfl g24 ?_
    refine sr ?_
    refine wa ?_
    refine nt' ?_
    refine CM_ret ?_
    refine QM_then_ret ?_
    exact QM_ret1 rfl rfl (fun W hm => ⟨ret_i (show laws_szFinished_m x0 x1 = (-1) from by unfold laws_szFinished_m; exact cond_t g24 (rfl)), hm.below⟩)
  · have g24 : (decide ((laws_szQuery_m x0.Query x1) < 0)) = false := decide_eq_false h23
    refine CM_condF rfl g24 ?_
    refine CM_skip ?_
    refine QM_then ?_
    refine sr ?_
    refine wv (fun W hm => rv_field Try.underlying175 rfl Try.type170 (by decide) rfl rfl) ?_
    refine wv (fun W hm => rv_load Try.underlying170 rfl rfl (hm.boxCell (n := 0) (o := 6) rfl rfl)) ?_
    refine wm ?_
    refine WM_callV (cl_fn cb200 rfl) (fun W hm => laws_szRowS_c W _ x0.Rows (laws_szQuery_m x0.Query x1) (hm.rdS0 r21)) (Wd_none rfl) (by decide) ?_
    refine wa ?_
    refine nt' ?_
    refine CM_seq ?_
    refine sr ?_
    refine wm ?_
    refine wv (fun W hm => rv_lss rfl rfl) ?_
    refine nt' ?_
    by_cases h25 : (laws_szRowS_m x0.Rows (laws_szQuery_m x0.Query x1)) < 0
    · have g26 : (decide ((laws_szRowS_m x0.Rows (laws_szQuery_m x0.Query x1)) < 0)) = true := decide_eq_true h25
      refine CM_condT rfl g26 ?_
      refine sr ?_
      refine wa ?_
      refine nt' ?_
      refine CM_ret ?_
      refine QM_then_ret ?_
      exact QM_ret1 rfl rfl (fun W hm => ⟨ret_i (show laws_szFinished_m x0 x1 = (-1) from by unfold laws_szFinished_m; exact cond_f g24 (cond_t g26 (rfl))), hm.below⟩)
    · have g26 : (decide ((laws_szRowS_m x0.Rows (laws_szQuery_m x0.Query x1)) < 0)) = false := decide_eq_false h25
      refine CM_condF rfl g26 ?_
      refine CM_skip ?_
      refine QM_then ?_
      refine sr ?_
      refine wm ?_
      refine wa ?_
      refine nt' ?_
      refine CM_ret ?_
      exact QM_ret1 rfl rfl (fun W hm => ⟨ret_i (show laws_szFinished_m x0 x1 = (laws_szRowS_m x0.Rows (laws_szQuery_m x0.Query x1)) from by unfold laws_szFinished_m; exact cond_f g24 (cond_f g26 (rfl))), hm.below⟩)

def laws_szFinishedS_b1 (x0 : (List DFinished)) (k8 : Nat) (s9 : Int) : Int ⊕ (Int) :=
  cond (decide ((laws_szFinished_m (gt x0 k8) s9) < 0)) (Sum.inl (-1)) (Sum.inr (laws_szFinished_m (gt x0 k8) s9))
def laws_szFinishedS_m (x0 : (List DFinished)) (x1 : Int) : Int :=
  cond (decide ((IntKind.i64.wrap (x1 - ((x0.length : Nat) : Int))) < 0)) (-1) (Sum.elim id (fun (s : Int) => s) (rng (R := Int) (fun k (s : Int) => laws_szFinishedS_b1 x0 k s) (x0.length - 0) 0 (IntKind.i64.wrap (x1 - ((x0.length : Nat) : Int)))))
set_option maxRecDepth 100000 in
theorem cb107 : Cb Try.prog 107 := ⟨Try.f107, _, Try.func107, rfl, by decide⟩
set_option maxRecDepth 10000 in
set_option maxHeartbeats 4000000 in
theorem laws_szFinishedS_c (w : World) (z0 : Value) (x0 : (List DFinished)) (x1 : Int) (r_0 : rdS tyLFinished w w.heap.size z0 x0) :
    Calls Try.prog 107 #[z0, .int .i64 x1] w fun e w' => e = .returned (.int .i64 (laws_szFinishedS_m x0 x1)) ∧ Below w.heap.size w w' := by
  have r5 := r_0
  obtain ⟨m1, A2, c3, rfl, q4⟩ := r_0
  refine call_enterM (L := [(0, .slice A2 x0.length c3), (1, .int .i64 x1)]) (N := 27) Try.func107 rfl rfl (Nat.le_of_ble_eq_true rfl) (argsL_cons rfl (argsL_cons rfl argsL_nil)) ?_
  refine sr ?_
  refine wa ?_
  refine nt' ?_
  refine sr ?_
  refine wm ?_
  refine wm ?_
  refine wv (fun W hm => rv_len Try.underlying67 rfl) ?_
  refine wv (fun W hm => rv_sub rfl rfl) ?_
  refine wa ?_
  refine nt' ?_
  refine CM_seq ?_
  refine sr ?_
  refine wm ?_
  refine wv (fun W hm => rv_lss rfl rfl) ?_
  refine nt' ?_
  by_cases h6 : (IntKind.i64.wrap (x1 - ((x0.length : Nat) : Int))) < 0
  · have g7 : (decide ((IntKind.i64.wrap (x1 - ((x0.length : Nat) : Int))) < 0)) = true := decide_eq_true h6
    refine CM_condT rfl g7 ?_
    refine sr ?_
    refine wa ?_
    refine nt' ?_
    refine CM_ret ?_
    refine QM_then_ret ?_
    exact QM_ret1 rfl rfl (fun W hm => ⟨ret_i (show laws_szFinishedS_m x0 x1 = (-1) from by unfold laws_szFinishedS_m; exact cond_t g7 (rfl)), hm.below⟩)
  · have g7 : (decide ((IntKind.i64.wrap (x1 - ((x0.length : Nat) : Int))) < 0)) = false := decide_eq_false h6
    refine CM_condF rfl g7 ?_
    refine CM_skip ?_
    refine QM_then ?_
    refine CM_seq ?_
    refine sr ?_
    refine wa ?_
    refine nt' ?_
    refine CM_block ?_
    refine CM_loop (σ := Nat × (Int) × (Unit)) (fun s => [(0, .slice A2 x0.length c3), (1, .int .i64 s.2.1), (5, .int .i64 ((s.1 : Nat) : Int))]) (fun s => []) (fun s => s.1 ≤ x0.length ∧ rng (R := Int) (fun k (s : Int) => laws_szFinishedS_b1 x0 k s) (x0.length - s.1) s.1 s.2.1 = rng (R := Int) (fun k (s : Int) => laws_szFinishedS_b1 x0 k s) (x0.length - 0) 0 (IntKind.i64.wrap (x1 - ((x0.length : Nat) : Int)))) (fun s => x0.length - s.1) (0, (IntKind.i64.wrap (x1 - ((x0.length : Nat) : Int))), ()) (subL_cons rfl (subL_cons rfl (subL_cons rfl subL_nil))) (fun W hm => hm) ⟨(by omega), rfl⟩ ?_
    rintro ⟨k8, s9, ⟨⟩⟩ H12
    obtain ⟨hk10, hF11⟩ : k8 ≤ x0.length ∧ rng (R := Int) (fun k (s : Int) => laws_szFinishedS_b1 x0 k s) (x0.length - k8) k8 s9 = rng (R := Int) (fun k (s : Int) => laws_szFinishedS_b1 x0 k s) (x0.length - 0) 0 (IntKind.i64.wrap (x1 - ((x0.length : Nat) : Int))) := H12
    show CM Try.prog 27 _ _ _ _ [(0, .slice A2 x0.length c3), (1, .int .i64 s9), (5, .int .i64 ((k8 : Nat) : Int))] []
    refine CM_seq ?_
    refine sr ?_
    refine wm ?_
    refine wm ?_
    refine wv (fun W hm => rv_len Try.underlying67 rfl) ?_
    refine wv (fun W hm => rv_lss rfl rfl) ?_
    refine nt' ?_
    by_cases hl13 : k8 < x0.length
    · have g14 : (decide (((k8 : Nat) : Int) < ((x0.length : Nat) : Int))) = true := decide_eq_true (by omega)
      refine CM_condT rfl g14 ?_
      refine CM_skip ?_
      refine QM_then ?_
      refine CM_seq ?_
      refine CM_block ?_
      refine sr ?_
      refine wm ?_
      refine wm ?_
      obtain ⟨a15, rfl, hb16, he17⟩ := q4 (by omega)
      refine wv (fun W hm => rv_index (sz := 7) (k := k8) Try.underlying67 Try.type175 rfl rfl rfl (by omega)) ?_
      obtain ⟨_, e25, hc18⟩ := he17 k8 _ (gt_some (show k8 < x0.length from by omega))
      obtain ⟨v19, v21, v23, rfl, r20, r22, r24⟩ := tyLFinished_rd e25
      have r30 := r20
      obtain ⟨m26, A27, c28, rfl, q29⟩ := r20
      have r35 := r22
      obtain ⟨m31, A32, c33, rfl, q34⟩ := r22
      have r40 := r24
      obtain ⟨m36, A37, c38, rfl, q39⟩ := r24
      refine wv (fun W hm => rv_loadN (cs := [.int .i64 ((gt x0 k8).Query.Id), .int .i64 ((gt x0 k8).Query.Tenant), .slice A27 ((gt x0 k8).Query.Conds).length c28, .slice A32 ((gt x0 k8).Query.Out).length c33, .int .i64 ((gt x0 k8).Time), .int .i64 ((gt x0 k8).Steps), .slice A37 ((gt x0 k8).Rows).length c38]) Try.underlying175 Try.type175 rfl rfl (hm.elCells (show (a15.add (k8 * 7)).block < w.heap.size from by rw [add_block]; exact hb16.1) hc18)) ?_
      refine wm ?_
      refine WM_callV (cl_fn cb166 rfl) (fun W hm => laws_szFinished_c W _ (gt x0 k8) s9 (tyLFinished_mk (x := (gt x0 k8)) (hm.rdS0 r30) (hm.rdS0 r35) (hm.rdS0 r40))) (Wd_none rfl) (by decide) ?_
      refine wa ?_
      refine nt' ?_
      refine sr ?_
      refine wm ?_
      refine wv (fun W hm => rv_lss rfl rfl) ?_
      refine nt' ?_
      by_cases h41 : (laws_szFinished_m (gt x0 k8) s9) < 0
      · have g42 : (decide ((laws_szFinished_m (gt x0 k8) s9) < 0)) = true := decide_eq_true h41
        refine CM_condT rfl g42 ?_
        refine sr ?_
        refine wa ?_
        refine nt' ?_
        refine CM_ret ?_
        refine QM_block_ret ?_
        refine QM_then_ret ?_
        refine QM_then_ret ?_
        refine QM_block_ret ?_
        refine QM_then_ret ?_
        exact QM_ret1 rfl rfl (fun W hm => ⟨ret_i (show laws_szFinishedS_m x0 x1 = (-1) from by unfold laws_szFinishedS_m; exact cond_f g7 (fin_inl (rng_ret (body := (fun k (s : Int) => laws_szFinishedS_b1 x0 k s)) (k := k8) (s := s9) (show k8 < x0.length from by omega) (show laws_szFinishedS_b1 x0 k8 s9 = Sum.inl (-1) from by unfold laws_szFinishedS_b1; exact cond_t g42 (rfl)) hF11) rfl)), hm.below⟩)
      · have g42 : (decide ((laws_szFinished_m (gt x0 k8) s9) < 0)) = false := decide_eq_false h41
        refine CM_condF rfl g42 ?_
        refine CM_skip ?_
        refine QM_block_normal ?_
        refine QM_then ?_
        refine CM_region ?_
        refine wm ?_
        refine wv (fun W hm => rv_addN (p := k8) (q := 1) rfl rfl (by omega)) ?_
        refine wa ?_
        refine WM_nil ?_
        have hn43 := rng_next (R := Int) (body := (fun k (s : Int) => laws_szFinishedS_b1 x0 k s)) (k := k8) (s := s9) (s' := (laws_szFinished_m (gt x0 k8) s9)) (show k8 < x0.length from by omega) (show laws_szFinishedS_b1 x0 k8 s9 = Sum.inr (laws_szFinished_m (gt x0 k8) s9) from by unfold laws_szFinishedS_b1; exact cond_f g42 (rfl)) hF11
        exact QM_round (k8 + 1, (laws_szFinished_m (gt x0 k8) s9), ()) (subL_cons rfl (subL_cons rfl (subL_cons rfl subL_nil))) (fun W hm => hm) ⟨(by omega), hn43⟩ (show x0.length - (k8 + 1) < x0.length - k8 from by omega)
    · have g14 : (decide (((k8 : Nat) : Int) < ((x0.length : Nat) : Int))) = false := decide_eq_false (by omega)
      refine CM_condF rfl g14 ?_
      refine CM_exit ?_
      refine QM_then_exit ?_
      refine QM_then_exit ?_
      have hE44 : rng (R := Int) (fun k (s : Int) => laws_szFinishedS_b1 x0 k s) (x0.length - 0) 0 (IntKind.i64.wrap (x1 - ((x0.length : Nat) : Int))) = Sum.inr s9 := rng_end hl13 hF11
      refine QM_block_hit ?_
      refine QM_then ?_
      refine sr ?_
      refine wm ?_
      refine wa ?_
      refine nt' ?_
      refine CM_ret ?_
      exact QM_ret1 rfl rfl (fun W hm => ⟨ret_i (show laws_szFinishedS_m x0 x1 = s9 from by unfold laws_szFinishedS_m; exact cond_f g7 (fin_inr hE44 (rfl))), hm.below⟩)

def laws_szCharge_m (x0 : DCharge) (x1 : Int) : Int :=
  cond (decide ((laws_szIntS_m x0.Ids x1) < 0)) (-1) (cond (decide ((laws_szIntS_m x0.Tenants (laws_szIntS_m x0.Ids x1)) < 0)) (-1) (cond (decide ((laws_szIntS_m x0.Rows (laws_szIntS_m x0.Tenants (laws_szIntS_m x0.Ids x1))) < 0)) (-1) (laws_szIntS_m x0.Rows (laws_szIntS_m x0.Tenants (laws_szIntS_m x0.Ids x1)))))
set_option maxRecDepth 100000 in
theorem cb167 : Cb Try.prog 167 := ⟨Try.f167, _, Try.func167, rfl, by decide⟩
set_option maxRecDepth 10000 in
set_option maxHeartbeats 4000000 in
theorem laws_szCharge_c (w : World) (z0 : List Value) (x0 : DCharge) (x1 : Int) (r_0 : tyLCharge.rd w w.heap.size z0 x0) :
    Calls Try.prog 167 #[.agg z0.toArray, .int .i64 x1] w fun e w' => e = .returned (.int .i64 (laws_szCharge_m x0 x1)) ∧ Below w.heap.size w w' := by
  obtain ⟨v1, v3, v5, rfl, r2, r4, r6⟩ := tyLCharge_rd r_0
  have r11 := r2
  obtain ⟨m7, A8, c9, rfl, q10⟩ := r2
  have r16 := r4
  obtain ⟨m12, A13, c14, rfl, q15⟩ := r4
  have r21 := r6
  obtain ⟨m17, A18, c19, rfl, q20⟩ := r6
  refine call_enterM (L := [(0, .agg #[.int .i64 x0.Segment, .int .i64 x0.Base, .slice A8 x0.Ids.length c9, .slice A13 x0.Tenants.length c14, .slice A18 x0.Rows.length c19]), (1, .int .i64 x1)]) (N := 24) Try.func167 rfl rfl (Nat.le_of_ble_eq_true rfl) (argsL_cons rfl (argsL_cons rfl argsL_nil)) ?_
  refine sr ?_
  refine WM_box rfl (Wd_none rfl) (by decide) (fun p22 => ?_)
  refine wa ?_
  refine nt' ?_
  refine sr ?_
  refine wv (fun W hm => rv_field Try.underlying177 rfl Try.type27 (by decide) rfl rfl) ?_
  refine wv (fun W hm => rv_load Try.underlying27 rfl rfl (hm.boxCell (n := 0) (o := 2) rfl rfl)) ?_
  refine wm ?_
  refine WM_callV (cl_fn cb105 rfl) (fun W hm => laws_szIntS_c W _ x0.Ids x1 (hm.rdS0 r11)) (Wd_none rfl) (by decide) ?_
  refine wa ?_
  refine nt' ?_
  refine CM_seq ?_
  refine sr ?_
  refine wm ?_
  refine wv (fun W hm => rv_lss rfl rfl) ?_
  refine nt' ?_
  by_cases h23 : (laws_szIntS_m x0.Ids x1) < 0
  · have g24 : (decide ((laws_szIntS_m x0.Ids x1) < 0)) = true := decide_eq_true h23
    refine CM_condT rfl g24 ?_
    refine sr ?_
    refine wa ?_
    refine nt' ?_
    refine CM_ret ?_
    refine QM_then_ret ?_
    exact QM_ret1 rfl rfl (fun W hm => ⟨ret_i (show laws_szCharge_m x0 x1 = (-1) from by unfold laws_szCharge_m; exact cond_t g24 (rfl)), hm.below⟩)
  · have g24 : (decide ((laws_szIntS_m x0.Ids x1) < 0)) = false := decide_eq_false h23
    refine CM_condF rfl g24 ?_
    refine CM_skip ?_
    refine QM_then ?_
    refine sr ?_
    refine wv (fun W hm => rv_field Try.underlying177 rfl Try.type27 (by decide) rfl rfl) ?_
    refine wv (fun W hm => rv_load Try.underlying27 rfl rfl (hm.boxCell (n := 0) (o := 3) rfl rfl)) ?_
    refine wm ?_
    refine WM_callV (cl_fn cb105 rfl) (fun W hm => laws_szIntS_c W _ x0.Tenants (laws_szIntS_m x0.Ids x1) (hm.rdS0 r16)) (Wd_none rfl) (by decide) ?_
    refine wa ?_
    refine nt' ?_
    refine CM_seq ?_
    refine sr ?_
    refine wm ?_
    refine wv (fun W hm => rv_lss rfl rfl) ?_
    refine nt' ?_
    by_cases h25 : (laws_szIntS_m x0.Tenants (laws_szIntS_m x0.Ids x1)) < 0
    · have g26 : (decide ((laws_szIntS_m x0.Tenants (laws_szIntS_m x0.Ids x1)) < 0)) = true := decide_eq_true h25
      refine CM_condT rfl g26 ?_
      refine sr ?_
      refine wa ?_
      refine nt' ?_
      refine CM_ret ?_
      refine QM_then_ret ?_
      exact QM_ret1 rfl rfl (fun W hm => ⟨ret_i (show laws_szCharge_m x0 x1 = (-1) from by unfold laws_szCharge_m; exact cond_f g24 (cond_t g26 (rfl))), hm.below⟩)
    · have g26 : (decide ((laws_szIntS_m x0.Tenants (laws_szIntS_m x0.Ids x1)) < 0)) = false := decide_eq_false h25
      refine CM_condF rfl g26 ?_
      refine CM_skip ?_
      refine QM_then ?_
      refine sr ?_
      refine wv (fun W hm => rv_field Try.underlying177 rfl Try.type27 (by decide) rfl rfl) ?_
      refine wv (fun W hm => rv_load Try.underlying27 rfl rfl (hm.boxCell (n := 0) (o := 4) rfl rfl)) ?_
      refine wm ?_
      refine WM_callV (cl_fn cb105 rfl) (fun W hm => laws_szIntS_c W _ x0.Rows (laws_szIntS_m x0.Tenants (laws_szIntS_m x0.Ids x1)) (hm.rdS0 r21)) (Wd_none rfl) (by decide) ?_
      refine wa ?_
      refine nt' ?_
      refine CM_seq ?_
      refine sr ?_
      refine wm ?_
      refine wv (fun W hm => rv_lss rfl rfl) ?_
      refine nt' ?_
      by_cases h27 : (laws_szIntS_m x0.Rows (laws_szIntS_m x0.Tenants (laws_szIntS_m x0.Ids x1))) < 0
      · have g28 : (decide ((laws_szIntS_m x0.Rows (laws_szIntS_m x0.Tenants (laws_szIntS_m x0.Ids x1))) < 0)) = true := decide_eq_true h27
        refine CM_condT rfl g28 ?_
        refine sr ?_
        refine wa ?_
        refine nt' ?_
        refine CM_ret ?_
        refine QM_then_ret ?_
        exact QM_ret1 rfl rfl (fun W hm => ⟨ret_i (show laws_szCharge_m x0 x1 = (-1) from by unfold laws_szCharge_m; exact cond_f g24 (cond_f g26 (cond_t g28 (rfl)))), hm.below⟩)
      · have g28 : (decide ((laws_szIntS_m x0.Rows (laws_szIntS_m x0.Tenants (laws_szIntS_m x0.Ids x1))) < 0)) = false := decide_eq_false h27
        refine CM_condF rfl g28 ?_
        refine CM_skip ?_
        refine QM_then ?_
        refine sr ?_
        refine wm ?_
        refine wa ?_
        refine nt' ?_
        refine CM_ret ?_
        exact QM_ret1 rfl rfl (fun W hm => ⟨ret_i (show laws_szCharge_m x0 x1 = (laws_szIntS_m x0.Rows (laws_szIntS_m x0.Tenants (laws_szIntS_m x0.Ids x1))) from by unfold laws_szCharge_m; exact cond_f g24 (cond_f g26 (cond_f g28 (rfl)))), hm.below⟩)

def laws_szChargeS_b1 (x0 : (List DCharge)) (k8 : Nat) (s9 : Int) : Int ⊕ (Int) :=
  cond (decide ((laws_szCharge_m (gt x0 k8) s9) < 0)) (Sum.inl (-1)) (Sum.inr (laws_szCharge_m (gt x0 k8) s9))
def laws_szChargeS_m (x0 : (List DCharge)) (x1 : Int) : Int :=
  cond (decide ((IntKind.i64.wrap (x1 - ((x0.length : Nat) : Int))) < 0)) (-1) (Sum.elim id (fun (s : Int) => s) (rng (R := Int) (fun k (s : Int) => laws_szChargeS_b1 x0 k s) (x0.length - 0) 0 (IntKind.i64.wrap (x1 - ((x0.length : Nat) : Int)))))
set_option maxRecDepth 100000 in
theorem cb108 : Cb Try.prog 108 := ⟨Try.f108, _, Try.func108, rfl, by decide⟩
set_option maxRecDepth 10000 in
set_option maxHeartbeats 4000000 in
theorem laws_szChargeS_c (w : World) (z0 : Value) (x0 : (List DCharge)) (x1 : Int) (r_0 : rdS tyLCharge w w.heap.size z0 x0) :
    Calls Try.prog 108 #[z0, .int .i64 x1] w fun e w' => e = .returned (.int .i64 (laws_szChargeS_m x0 x1)) ∧ Below w.heap.size w w' := by
  have r5 := r_0
  obtain ⟨m1, A2, c3, rfl, q4⟩ := r_0
  refine call_enterM (L := [(0, .slice A2 x0.length c3), (1, .int .i64 x1)]) (N := 27) Try.func108 rfl rfl (Nat.le_of_ble_eq_true rfl) (argsL_cons rfl (argsL_cons rfl argsL_nil)) ?_
  refine sr ?_
  refine wa ?_
  refine nt' ?_
  refine sr ?_
  refine wm ?_
  refine wm ?_
  refine wv (fun W hm => rv_len Try.underlying68 rfl) ?_
  refine wv (fun W hm => rv_sub rfl rfl) ?_
  refine wa ?_
  refine nt' ?_
  refine CM_seq ?_
  refine sr ?_
  refine wm ?_
  refine wv (fun W hm => rv_lss rfl rfl) ?_
  refine nt' ?_
  by_cases h6 : (IntKind.i64.wrap (x1 - ((x0.length : Nat) : Int))) < 0
  · have g7 : (decide ((IntKind.i64.wrap (x1 - ((x0.length : Nat) : Int))) < 0)) = true := decide_eq_true h6
    refine CM_condT rfl g7 ?_
    refine sr ?_
    refine wa ?_
    refine nt' ?_
    refine CM_ret ?_
    refine QM_then_ret ?_
    exact QM_ret1 rfl rfl (fun W hm => ⟨ret_i (show laws_szChargeS_m x0 x1 = (-1) from by unfold laws_szChargeS_m; exact cond_t g7 (rfl)), hm.below⟩)
  · have g7 : (decide ((IntKind.i64.wrap (x1 - ((x0.length : Nat) : Int))) < 0)) = false := decide_eq_false h6
    refine CM_condF rfl g7 ?_
    refine CM_skip ?_
    refine QM_then ?_
    refine CM_seq ?_
    refine sr ?_
    refine wa ?_
    refine nt' ?_
    refine CM_block ?_
    refine CM_loop (σ := Nat × (Int) × (Unit)) (fun s => [(0, .slice A2 x0.length c3), (1, .int .i64 s.2.1), (5, .int .i64 ((s.1 : Nat) : Int))]) (fun s => []) (fun s => s.1 ≤ x0.length ∧ rng (R := Int) (fun k (s : Int) => laws_szChargeS_b1 x0 k s) (x0.length - s.1) s.1 s.2.1 = rng (R := Int) (fun k (s : Int) => laws_szChargeS_b1 x0 k s) (x0.length - 0) 0 (IntKind.i64.wrap (x1 - ((x0.length : Nat) : Int)))) (fun s => x0.length - s.1) (0, (IntKind.i64.wrap (x1 - ((x0.length : Nat) : Int))), ()) (subL_cons rfl (subL_cons rfl (subL_cons rfl subL_nil))) (fun W hm => hm) ⟨(by omega), rfl⟩ ?_
    rintro ⟨k8, s9, ⟨⟩⟩ H12
    obtain ⟨hk10, hF11⟩ : k8 ≤ x0.length ∧ rng (R := Int) (fun k (s : Int) => laws_szChargeS_b1 x0 k s) (x0.length - k8) k8 s9 = rng (R := Int) (fun k (s : Int) => laws_szChargeS_b1 x0 k s) (x0.length - 0) 0 (IntKind.i64.wrap (x1 - ((x0.length : Nat) : Int))) := H12
    show CM Try.prog 27 _ _ _ _ [(0, .slice A2 x0.length c3), (1, .int .i64 s9), (5, .int .i64 ((k8 : Nat) : Int))] []
    refine CM_seq ?_
    refine sr ?_
    refine wm ?_
    refine wm ?_
    refine wv (fun W hm => rv_len Try.underlying68 rfl) ?_
    refine wv (fun W hm => rv_lss rfl rfl) ?_
    refine nt' ?_
    by_cases hl13 : k8 < x0.length
    · have g14 : (decide (((k8 : Nat) : Int) < ((x0.length : Nat) : Int))) = true := decide_eq_true (by omega)
      refine CM_condT rfl g14 ?_
      refine CM_skip ?_
      refine QM_then ?_
      refine CM_seq ?_
      refine CM_block ?_
      refine sr ?_
      refine wm ?_
      refine wm ?_
      obtain ⟨a15, rfl, hb16, he17⟩ := q4 (by omega)
      refine wv (fun W hm => rv_index (sz := 5) (k := k8) Try.underlying68 Try.type177 rfl rfl rfl (by omega)) ?_
      obtain ⟨_, e25, hc18⟩ := he17 k8 _ (gt_some (show k8 < x0.length from by omega))
      obtain ⟨v19, v21, v23, rfl, r20, r22, r24⟩ := tyLCharge_rd e25
      have r30 := r20
      obtain ⟨m26, A27, c28, rfl, q29⟩ := r20
      have r35 := r22
      obtain ⟨m31, A32, c33, rfl, q34⟩ := r22
      have r40 := r24
      obtain ⟨m36, A37, c38, rfl, q39⟩ := r24
      refine wv (fun W hm => rv_loadN (cs := [.int .i64 ((gt x0 k8).Segment), .int .i64 ((gt x0 k8).Base), .slice A27 ((gt x0 k8).Ids).length c28, .slice A32 ((gt x0 k8).Tenants).length c33, .slice A37 ((gt x0 k8).Rows).length c38]) Try.underlying177 Try.type177 rfl rfl (hm.elCells (show (a15.add (k8 * 5)).block < w.heap.size from by rw [add_block]; exact hb16.1) hc18)) ?_
      refine wm ?_
      refine WM_callV (cl_fn cb167 rfl) (fun W hm => laws_szCharge_c W _ (gt x0 k8) s9 (tyLCharge_mk (x := (gt x0 k8)) (hm.rdS0 r30) (hm.rdS0 r35) (hm.rdS0 r40))) (Wd_none rfl) (by decide) ?_
      refine wa ?_
      refine nt' ?_
      refine sr ?_
      refine wm ?_
      refine wv (fun W hm => rv_lss rfl rfl) ?_
      refine nt' ?_
      by_cases h41 : (laws_szCharge_m (gt x0 k8) s9) < 0
      · have g42 : (decide ((laws_szCharge_m (gt x0 k8) s9) < 0)) = true := decide_eq_true h41
        refine CM_condT rfl g42 ?_
        refine sr ?_
        refine wa ?_
        refine nt' ?_
        refine CM_ret ?_
        refine QM_block_ret ?_
        refine QM_then_ret ?_
        refine QM_then_ret ?_
        refine QM_block_ret ?_
        refine QM_then_ret ?_
        exact QM_ret1 rfl rfl (fun W hm => ⟨ret_i (show laws_szChargeS_m x0 x1 = (-1) from by unfold laws_szChargeS_m; exact cond_f g7 (fin_inl (rng_ret (body := (fun k (s : Int) => laws_szChargeS_b1 x0 k s)) (k := k8) (s := s9) (show k8 < x0.length from by omega) (show laws_szChargeS_b1 x0 k8 s9 = Sum.inl (-1) from by unfold laws_szChargeS_b1; exact cond_t g42 (rfl)) hF11) rfl)), hm.below⟩)
      · have g42 : (decide ((laws_szCharge_m (gt x0 k8) s9) < 0)) = false := decide_eq_false h41
        refine CM_condF rfl g42 ?_
        refine CM_skip ?_
        refine QM_block_normal ?_
        refine QM_then ?_
        refine CM_region ?_
        refine wm ?_
        refine wv (fun W hm => rv_addN (p := k8) (q := 1) rfl rfl (by omega)) ?_
        refine wa ?_
        refine WM_nil ?_
        have hn43 := rng_next (R := Int) (body := (fun k (s : Int) => laws_szChargeS_b1 x0 k s)) (k := k8) (s := s9) (s' := (laws_szCharge_m (gt x0 k8) s9)) (show k8 < x0.length from by omega) (show laws_szChargeS_b1 x0 k8 s9 = Sum.inr (laws_szCharge_m (gt x0 k8) s9) from by unfold laws_szChargeS_b1; exact cond_f g42 (rfl)) hF11
        exact QM_round (k8 + 1, (laws_szCharge_m (gt x0 k8) s9), ()) (subL_cons rfl (subL_cons rfl (subL_cons rfl subL_nil))) (fun W hm => hm) ⟨(by omega), hn43⟩ (show x0.length - (k8 + 1) < x0.length - k8 from by omega)
    · have g14 : (decide (((k8 : Nat) : Int) < ((x0.length : Nat) : Int))) = false := decide_eq_false (by omega)
      refine CM_condF rfl g14 ?_
      refine CM_exit ?_
      refine QM_then_exit ?_
      refine QM_then_exit ?_
      have hE44 : rng (R := Int) (fun k (s : Int) => laws_szChargeS_b1 x0 k s) (x0.length - 0) 0 (IntKind.i64.wrap (x1 - ((x0.length : Nat) : Int))) = Sum.inr s9 := rng_end hl13 hF11
      refine QM_block_hit ?_
      refine QM_then ?_
      refine sr ?_
      refine wm ?_
      refine wa ?_
      refine nt' ?_
      refine CM_ret ?_
      exact QM_ret1 rfl rfl (fun W hm => ⟨ret_i (show laws_szChargeS_m x0 x1 = s9 from by unfold laws_szChargeS_m; exact cond_f g7 (fin_inr hE44 (rfl))), hm.below⟩)

def laws_szEngine_m (x0 : DEngine) (x1 : Int) : Int :=
  cond (decide ((laws_szStore_m x0.Store x1) < 0)) (-1) (cond (decide ((laws_szIntS_m x0.Order (laws_szStore_m x0.Store x1)) < 0)) (-1) (cond (decide ((laws_szActiveS_m x0.Active (laws_szIntS_m x0.Order (laws_szStore_m x0.Store x1))) < 0)) (-1) (cond (decide ((laws_szFinishedS_m x0.Done (laws_szActiveS_m x0.Active (laws_szIntS_m x0.Order (laws_szStore_m x0.Store x1)))) < 0)) (-1) (cond (decide ((laws_szChargeS_m x0.Ledger (laws_szFinishedS_m x0.Done (laws_szActiveS_m x0.Active (laws_szIntS_m x0.Order (laws_szStore_m x0.Store x1))))) < 0)) (-1) (laws_szChargeS_m x0.Ledger (laws_szFinishedS_m x0.Done (laws_szActiveS_m x0.Active (laws_szIntS_m x0.Order (laws_szStore_m x0.Store x1)))))))))
set_option maxRecDepth 100000 in
theorem cb42 : Cb Try.prog 42 := ⟨Try.f42, _, Try.func42, rfl, by decide⟩
set_option maxRecDepth 10000 in
set_option maxHeartbeats 4000000 in
theorem laws_szEngine_c (w : World) (z0 : List Value) (x0 : DEngine) (x1 : Int) (r_0 : tyLEngine.rd w w.heap.size z0 x0) :
    Calls Try.prog 42 #[.agg z0.toArray, .int .i64 x1] w fun e w' => e = .returned (.int .i64 (laws_szEngine_m x0 x1)) ∧ Below w.heap.size w w' := by
  obtain ⟨v1, v3, v5, v7, v9, rfl, r2, r4, r6, r8, r10⟩ := tyLEngine_rd r_0
  have r15 := r2
  obtain ⟨m11, A12, c13, rfl, q14⟩ := r2
  have r20 := r4
  obtain ⟨m16, A17, c18, rfl, q19⟩ := r4
  have r25 := r6
  obtain ⟨m21, A22, c23, rfl, q24⟩ := r6
  have r30 := r8
  obtain ⟨m26, A27, c28, rfl, q29⟩ := r8
  have r35 := r10
  obtain ⟨m31, A32, c33, rfl, q34⟩ := r10
  refine call_enterM (L := [(0, .agg #[.slice A12 x0.Store.Segments.length c13, .int .i64 x0.Store.Now, .int .i64 x0.Cursor, .slice A17 x0.Order.length c18, .slice A22 x0.Active.length c23, .slice A27 x0.Done.length c28, .slice A32 x0.Ledger.length c33, .int .i64 x0.Steps]), (1, .int .i64 x1)]) (N := 36) Try.func42 rfl rfl (Nat.le_of_ble_eq_true rfl) (argsL_cons rfl (argsL_cons rfl argsL_nil)) ?_
  refine sr ?_
  refine WM_box rfl (Wd_none rfl) (by decide) (fun p36 => ?_)
  refine wa ?_
  refine nt' ?_
  refine sr ?_
  refine wv (fun W hm => rv_field Try.underlying70 rfl Try.type65 (by decide) rfl rfl) ?_
  refine wv (fun W hm => rv_loadN (cs := [.slice A12 x0.Store.Segments.length c13, .int .i64 x0.Store.Now]) Try.underlying65 Try.type65 rfl rfl (hm.boxPart (n := 0) rfl rfl)) ?_
  refine wm ?_
  refine WM_callV (cl_fn cb49 rfl) (fun W hm => laws_szStore_c W _ x0.Store x1 (tyLStore_mk (x := x0.Store) (hm.rdS0 r15))) (Wd_none rfl) (by decide) ?_
  refine wa ?_
  refine nt' ?_
  refine CM_seq ?_
  refine sr ?_
  refine wm ?_
  refine wv (fun W hm => rv_lss rfl rfl) ?_
  refine nt' ?_
  by_cases h37 : (laws_szStore_m x0.Store x1) < 0
  · have g38 : (decide ((laws_szStore_m x0.Store x1) < 0)) = true := decide_eq_true h37
    refine CM_condT rfl g38 ?_
    refine sr ?_
    refine wa ?_
    refine nt' ?_
    refine CM_ret ?_
    refine QM_then_ret ?_
    exact QM_ret1 rfl rfl (fun W hm => ⟨ret_i (show laws_szEngine_m x0 x1 = (-1) from by unfold laws_szEngine_m; exact cond_t g38 (rfl)), hm.below⟩)
  · have g38 : (decide ((laws_szStore_m x0.Store x1) < 0)) = false := decide_eq_false h37
    refine CM_condF rfl g38 ?_
    refine CM_skip ?_
    refine QM_then ?_
    refine sr ?_
    refine wv (fun W hm => rv_field Try.underlying70 rfl Try.type27 (by decide) rfl rfl) ?_
    refine wv (fun W hm => rv_load Try.underlying27 rfl rfl (hm.boxCell (n := 0) (o := 3) rfl rfl)) ?_
    refine wm ?_
    refine WM_callV (cl_fn cb105 rfl) (fun W hm => laws_szIntS_c W _ x0.Order (laws_szStore_m x0.Store x1) (hm.rdS0 r20)) (Wd_none rfl) (by decide) ?_
    refine wa ?_
    refine nt' ?_
    refine CM_seq ?_
    refine sr ?_
    refine wm ?_
    refine wv (fun W hm => rv_lss rfl rfl) ?_
    refine nt' ?_
    by_cases h39 : (laws_szIntS_m x0.Order (laws_szStore_m x0.Store x1)) < 0
    · have g40 : (decide ((laws_szIntS_m x0.Order (laws_szStore_m x0.Store x1)) < 0)) = true := decide_eq_true h39
      refine CM_condT rfl g40 ?_
      refine sr ?_
      refine wa ?_
      refine nt' ?_
      refine CM_ret ?_
      refine QM_then_ret ?_
      exact QM_ret1 rfl rfl (fun W hm => ⟨ret_i (show laws_szEngine_m x0 x1 = (-1) from by unfold laws_szEngine_m; exact cond_f g38 (cond_t g40 (rfl))), hm.below⟩)
    · have g40 : (decide ((laws_szIntS_m x0.Order (laws_szStore_m x0.Store x1)) < 0)) = false := decide_eq_false h39
      refine CM_condF rfl g40 ?_
      refine CM_skip ?_
      refine QM_then ?_
      refine sr ?_
      refine wv (fun W hm => rv_field Try.underlying70 rfl Try.type66 (by decide) rfl rfl) ?_
      refine wv (fun W hm => rv_load Try.underlying66 rfl rfl (hm.boxCell (n := 0) (o := 4) rfl rfl)) ?_
      refine wm ?_
      refine WM_callV (cl_fn cb106 rfl) (fun W hm => laws_szActiveS_c W _ x0.Active (laws_szIntS_m x0.Order (laws_szStore_m x0.Store x1)) (hm.rdS0 r25)) (Wd_none rfl) (by decide) ?_
      refine wa ?_
      refine nt' ?_
      refine CM_seq ?_
      refine sr ?_
      refine wm ?_
      refine wv (fun W hm => rv_lss rfl rfl) ?_
      refine nt' ?_
      by_cases h41 : (laws_szActiveS_m x0.Active (laws_szIntS_m x0.Order (laws_szStore_m x0.Store x1))) < 0
      · have g42 : (decide ((laws_szActiveS_m x0.Active (laws_szIntS_m x0.Order (laws_szStore_m x0.Store x1))) < 0)) = true := decide_eq_true h41
        refine CM_condT rfl g42 ?_
        refine sr ?_
        refine wa ?_
        refine nt' ?_
        refine CM_ret ?_
        refine QM_then_ret ?_
        exact QM_ret1 rfl rfl (fun W hm => ⟨ret_i (show laws_szEngine_m x0 x1 = (-1) from by unfold laws_szEngine_m; exact cond_f g38 (cond_f g40 (cond_t g42 (rfl)))), hm.below⟩)
      · have g42 : (decide ((laws_szActiveS_m x0.Active (laws_szIntS_m x0.Order (laws_szStore_m x0.Store x1))) < 0)) = false := decide_eq_false h41
        refine CM_condF rfl g42 ?_
        refine CM_skip ?_
        refine QM_then ?_
        refine sr ?_
        refine wv (fun W hm => rv_field Try.underlying70 rfl Try.type67 (by decide) rfl rfl) ?_
        refine wv (fun W hm => rv_load Try.underlying67 rfl rfl (hm.boxCell (n := 0) (o := 5) rfl rfl)) ?_
        refine wm ?_
        refine WM_callV (cl_fn cb107 rfl) (fun W hm => laws_szFinishedS_c W _ x0.Done (laws_szActiveS_m x0.Active (laws_szIntS_m x0.Order (laws_szStore_m x0.Store x1))) (hm.rdS0 r30)) (Wd_none rfl) (by decide) ?_
        refine wa ?_
        refine nt' ?_
        refine CM_seq ?_
        refine sr ?_
        refine wm ?_
        refine wv (fun W hm => rv_lss rfl rfl) ?_
        refine nt' ?_
        by_cases h43 : (laws_szFinishedS_m x0.Done (laws_szActiveS_m x0.Active (laws_szIntS_m x0.Order (laws_szStore_m x0.Store x1)))) < 0
        · have g44 : (decide ((laws_szFinishedS_m x0.Done (laws_szActiveS_m x0.Active (laws_szIntS_m x0.Order (laws_szStore_m x0.Store x1)))) < 0)) = true := decide_eq_true h43
          refine CM_condT rfl g44 ?_
          refine sr ?_
          refine wa ?_
          refine nt' ?_
          refine CM_ret ?_
          refine QM_then_ret ?_
          exact QM_ret1 rfl rfl (fun W hm => ⟨ret_i (show laws_szEngine_m x0 x1 = (-1) from by unfold laws_szEngine_m; exact cond_f g38 (cond_f g40 (cond_f g42 (cond_t g44 (rfl))))), hm.below⟩)
        · have g44 : (decide ((laws_szFinishedS_m x0.Done (laws_szActiveS_m x0.Active (laws_szIntS_m x0.Order (laws_szStore_m x0.Store x1)))) < 0)) = false := decide_eq_false h43
          refine CM_condF rfl g44 ?_
          refine CM_skip ?_
          refine QM_then ?_
          refine sr ?_
          refine wv (fun W hm => rv_field Try.underlying70 rfl Try.type68 (by decide) rfl rfl) ?_
          refine wv (fun W hm => rv_load Try.underlying68 rfl rfl (hm.boxCell (n := 0) (o := 6) rfl rfl)) ?_
          refine wm ?_
          refine WM_callV (cl_fn cb108 rfl) (fun W hm => laws_szChargeS_c W _ x0.Ledger (laws_szFinishedS_m x0.Done (laws_szActiveS_m x0.Active (laws_szIntS_m x0.Order (laws_szStore_m x0.Store x1)))) (hm.rdS0 r35)) (Wd_none rfl) (by decide) ?_
          refine wa ?_
          refine nt' ?_
          refine CM_seq ?_
          refine sr ?_
          refine wm ?_
          refine wv (fun W hm => rv_lss rfl rfl) ?_
          refine nt' ?_
          by_cases h45 : (laws_szChargeS_m x0.Ledger (laws_szFinishedS_m x0.Done (laws_szActiveS_m x0.Active (laws_szIntS_m x0.Order (laws_szStore_m x0.Store x1))))) < 0
          · have g46 : (decide ((laws_szChargeS_m x0.Ledger (laws_szFinishedS_m x0.Done (laws_szActiveS_m x0.Active (laws_szIntS_m x0.Order (laws_szStore_m x0.Store x1))))) < 0)) = true := decide_eq_true h45
            refine CM_condT rfl g46 ?_
            refine sr ?_
            refine wa ?_
            refine nt' ?_
            refine CM_ret ?_
            refine QM_then_ret ?_
            exact QM_ret1 rfl rfl (fun W hm => ⟨ret_i (show laws_szEngine_m x0 x1 = (-1) from by unfold laws_szEngine_m; exact cond_f g38 (cond_f g40 (cond_f g42 (cond_f g44 (cond_t g46 (rfl)))))), hm.below⟩)
          · have g46 : (decide ((laws_szChargeS_m x0.Ledger (laws_szFinishedS_m x0.Done (laws_szActiveS_m x0.Active (laws_szIntS_m x0.Order (laws_szStore_m x0.Store x1))))) < 0)) = false := decide_eq_false h45
            refine CM_condF rfl g46 ?_
            refine CM_skip ?_
            refine QM_then ?_
            refine sr ?_
            refine wm ?_
            refine wa ?_
            refine nt' ?_
            refine CM_ret ?_
            exact QM_ret1 rfl rfl (fun W hm => ⟨ret_i (show laws_szEngine_m x0 x1 = (laws_szChargeS_m x0.Ledger (laws_szFinishedS_m x0.Done (laws_szActiveS_m x0.Active (laws_szIntS_m x0.Order (laws_szStore_m x0.Store x1))))) from by unfold laws_szEngine_m; exact cond_f g38 (cond_f g40 (cond_f g42 (cond_f g44 (cond_f g46 (rfl)))))), hm.below⟩)

def laws_toIntS_b1 (x0 : (List Int)) (k9 : Nat) (d10 : (List Int)) : (List Int) ⊕ ((List Int)) :=
  Sum.inr (d10.set k9 (gt x0 k9))
def laws_toIntS_m (x0 : (List Int)) : (List Int) :=
  Sum.elim id (fun (s : (List Int)) => s) (rng (R := (List Int)) (fun k (s : (List Int)) => laws_toIntS_b1 x0 k s) (x0.length - 0) 0 (List.replicate x0.length (0 : Int)))
set_option maxRecDepth 100000 in
theorem cb109 : Cb Try.prog 109 := ⟨Try.f109, _, Try.func109, rfl, by decide⟩
set_option maxRecDepth 10000 in
set_option maxHeartbeats 4000000 in
theorem laws_toIntS_c (w : World) (z0 : Value) (x0 : (List Int)) (r_0 : rdS tInt w w.heap.size z0 x0) (s_0 : x0.length ≤ 68719476736) :
    Calls Try.prog 109 #[z0] w fun e w' => ∃ v : Value, e = .returned (v) ∧ Mem w.heap.size w [iOwn (tSl tInt 3) [v] (laws_toIntS_m x0)] w' := by
  have r5 := r_0
  obtain ⟨m1, A2, c3, rfl, q4⟩ := r_0
  have l6 : x0.length ≤ 68719476736 := s_0
  refine call_enterM (L := [(0, .slice A2 x0.length c3)]) (N := 22) Try.func109 rfl rfl (Nat.le_of_ble_eq_true rfl) (argsL_cons rfl argsL_nil) ?_
  refine sr ?_
  refine wa ?_
  refine nt' ?_
  refine sr ?_
  refine wm ?_
  refine wv (fun W hm => rv_len Try.underlying27 rfl) ?_
  refine WM_make (E := tInt) (n := x0.length) (x0 := (0 : Int)) Try.underlying27 Try.type3 rfl rfl rfl (fun _ => tInt_own) rfl rfl (show x0.length * 8 ≤ 281474976710656 from by omega) (by omega) (Wd_none rfl) (by decide) (fun p7 => ?_)
  refine wa ?_
  refine nt' ?_
  refine CM_seq ?_
  refine sr ?_
  refine wa ?_
  refine nt' ?_
  refine CM_block ?_
  refine CM_loop (σ := Nat × ((List Int)) × (Unit)) (fun s => [(0, .slice A2 x0.length c3), (3, .slice (some ⟨p7, 0, none⟩) x0.length x0.length), (4, .int .i64 ((s.1 : Nat) : Int))]) (fun s => [iOwn (tSl tInt 3) [.slice (some ⟨p7, 0, none⟩) x0.length x0.length] s.2.1]) (fun s => s.1 ≤ x0.length ∧ rng (R := (List Int)) (fun k (s : (List Int)) => laws_toIntS_b1 x0 k s) (x0.length - s.1) s.1 s.2.1 = rng (R := (List Int)) (fun k (s : (List Int)) => laws_toIntS_b1 x0 k s) (x0.length - 0) 0 (List.replicate x0.length (0 : Int))) (fun s => x0.length - s.1) (0, (List.replicate x0.length (0 : Int)), ()) (subL_cons rfl (subL_cons rfl (subL_cons rfl subL_nil))) (fun W hm => hm) ⟨(by omega), rfl⟩ ?_
  rintro ⟨k9, d10, ⟨⟩⟩ H13
  obtain ⟨hk11, hF12⟩ : k9 ≤ x0.length ∧ rng (R := (List Int)) (fun k (s : (List Int)) => laws_toIntS_b1 x0 k s) (x0.length - k9) k9 d10 = rng (R := (List Int)) (fun k (s : (List Int)) => laws_toIntS_b1 x0 k s) (x0.length - 0) 0 (List.replicate x0.length (0 : Int)) := H13
  show CM Try.prog 22 _ _ _ _ [(0, .slice A2 x0.length c3), (3, .slice (some ⟨p7, 0, none⟩) x0.length x0.length), (4, .int .i64 ((k9 : Nat) : Int))] [iOwn (tSl tInt 3) [.slice (some ⟨p7, 0, none⟩) x0.length x0.length] d10]
  refine CM_seq ?_
  refine sr ?_
  refine wm ?_
  refine wm ?_
  refine wv (fun W hm => rv_len Try.underlying27 rfl) ?_
  refine wv (fun W hm => rv_lss rfl rfl) ?_
  refine nt' ?_
  by_cases hl14 : k9 < x0.length
  · have g15 : (decide (((k9 : Nat) : Int) < ((x0.length : Nat) : Int))) = true := decide_eq_true (by omega)
    refine CM_condT rfl g15 ?_
    refine CM_skip ?_
    refine QM_then ?_
    refine CM_seq ?_
    refine CM_block ?_
    refine CM_region ?_
    refine wm ?_
    refine wm ?_
    refine wm ?_
    refine wm ?_
    obtain ⟨a16, rfl, hb17, he18⟩ := q4 (by omega)
    refine wv (fun W hm => rv_index (sz := 1) (k := k9) Try.underlying27 Try.type3 rfl rfl rfl (by omega)) ?_
    refine wv (fun W hm => rv_load Try.underlying3 rfl rfl ((hm.cell0 (show (a16.add (k9 * 1)).block < w.heap.size from by rw [add_block]; exact hb17.1)).trans (rdS_int he18 k9 (by omega)))) ?_
    refine wv (fun W hm => rv_index (sz := 1) (k := k9) Try.underlying27 Try.type3 rfl rfl rfl (by omega)) ?_
    refine WM_setEl (E := tInt) (e := 3) (u := .int .i64 (gt x0 k9)) (k := k9) (p := p7) (n := x0.length) (xs := d10) (eis := []) (js := []) (yv := (gt x0 k9)) (fun W hm => hm) (fun _ _ hs => (Sep.nil hs ▸ tInt_own)) rfl Try.type3 rfl (by omega) rfl rfl (Wd_none rfl) ?_
    refine WM_nil ?_
    refine QM_block_normal ?_
    refine QM_then ?_
    refine CM_region ?_
    refine wm ?_
    refine wv (fun W hm => rv_addN (p := k9) (q := 1) rfl rfl (by omega)) ?_
    refine wa ?_
    refine WM_nil ?_
    have hn19 := rng_next (R := (List Int)) (body := (fun k (s : (List Int)) => laws_toIntS_b1 x0 k s)) (k := k9) (s := d10) (s' := (d10.set k9 (gt x0 k9))) (show k9 < x0.length from by omega) (show laws_toIntS_b1 x0 k9 d10 = Sum.inr (d10.set k9 (gt x0 k9)) from by unfold laws_toIntS_b1; exact rfl) hF12
    exact QM_round (k9 + 1, (d10.set k9 (gt x0 k9)), ()) (subL_cons rfl (subL_cons rfl (subL_cons rfl subL_nil))) (fun W hm => hm) ⟨(by omega), hn19⟩ (show x0.length - (k9 + 1) < x0.length - k9 from by omega)
  · have g15 : (decide (((k9 : Nat) : Int) < ((x0.length : Nat) : Int))) = false := decide_eq_false (by omega)
    refine CM_condF rfl g15 ?_
    refine CM_exit ?_
    refine QM_then_exit ?_
    refine QM_then_exit ?_
    have hE20 : rng (R := (List Int)) (fun k (s : (List Int)) => laws_toIntS_b1 x0 k s) (x0.length - 0) 0 (List.replicate x0.length (0 : Int)) = Sum.inr d10 := rng_end hl14 hF12
    refine QM_block_hit ?_
    refine QM_then ?_
    refine sr ?_
    refine wm ?_
    refine wa ?_
    refine nt' ?_
    refine CM_ret ?_
    refine QM_r1 rfl (RR_tmp rfl) (fun W hm => ⟨.slice (some ⟨p7, 0, none⟩) x0.length x0.length, ?_, ?_⟩)
    · first | rw [(show laws_toIntS_m x0 = d10 from by unfold laws_toIntS_m; exact fin_inr hE20 (rfl))] | rfl
    · rw [(show laws_toIntS_m x0 = d10 from by unfold laws_toIntS_m; exact fin_inr hE20 (rfl))]; exact hm

def laws_toVersion_m (x0 : DVersion) : DVersion :=
  (⟨x0.Id, (laws_toIntS_m x0.Values), x0.Born, x0.Died⟩ : DVersion)
set_option maxRecDepth 100000 in
theorem cb206 : Cb Try.prog 206 := ⟨Try.f206, _, Try.func206, rfl, by decide⟩
set_option maxRecDepth 10000 in
set_option maxHeartbeats 4000000 in
theorem laws_toVersion_c (w : World) (z0 : List Value) (x0 : DVersion) (r_0 : tyLVersion.rd w w.heap.size z0 x0) (s_0 : smVersion 68719476736 x0) :
    Calls Try.prog 206 #[.agg z0.toArray] w fun e w' => ∃ v : List Value, e = .returned (.agg v.toArray) ∧ Mem w.heap.size w [iOwn tyVersion v (laws_toVersion_m x0)] w' := by
  obtain ⟨v1, rfl, r2⟩ := tyLVersion_rd r_0
  have r7 := r2
  obtain ⟨m3, A4, c5, rfl, q6⟩ := r2
  have l8 : x0.Values.length ≤ 68719476736 := s_0
  refine call_enterM (L := [(0, .agg #[.int .i64 x0.Id, .slice A4 x0.Values.length c5, .int .i64 x0.Born, .int .i64 x0.Died])]) (N := 18) Try.func206 rfl rfl (Nat.le_of_ble_eq_true rfl) (argsL_cons rfl argsL_nil) ?_
  refine sr ?_
  refine WM_box rfl (Wd_none rfl) (by decide) (fun p9 => ?_)
  refine WM_alloc Try.type51 rfl (Wd_none rfl) (by decide) (fun p10 => ?_)
  refine nt' ?_
  refine sr ?_
  refine WM_alloc Try.type51 rfl (Wd_none rfl) (by decide) (fun p11 => ?_)
  refine nt' ?_
  refine sr ?_
  refine wv (fun W hm => rv_field Try.underlying203 rfl Try.type3 (by decide) rfl rfl) ?_
  refine wv (fun W hm => rv_load Try.underlying3 rfl rfl (hm.boxCell (n := 2) (o := 0) rfl rfl)) ?_
  refine wv (fun W hm => rv_field Try.underlying51 rfl Try.type3 (by decide) rfl rfl) ?_
  refine WM_storeBox (p := p11) (o := 0) (cs := [.int .i64 0, .slice none 0 0, .int .i64 0, .int .i64 0]) (cs' := [.int .i64 x0.Id, .slice none 0 0, .int .i64 0, .int .i64 0]) (js := [iBox p10 51 [.int .i64 0, .slice none 0 0, .int .i64 0, .int .i64 0], iBox p9 203 [.int .i64 x0.Id, .slice A4 x0.Values.length c5, .int .i64 x0.Born, .int .i64 x0.Died]]) (fun W hm => hm) Try.type3 rfl (Nat.le_of_ble_eq_true rfl) rfl rfl rfl rfl (Wd_none rfl) ?_
  refine nt' ?_
  refine sr ?_
  refine wv (fun W hm => rv_field Try.underlying203 rfl Try.type27 (by decide) rfl rfl) ?_
  refine wv (fun W hm => rv_load Try.underlying27 rfl rfl (hm.boxCell (n := 2) (o := 1) rfl rfl)) ?_
  refine WM_call (χ := Value) (val := fun x => x) (js := fun x => [iOwn (tSl tInt 3) [x] (laws_toIntS_m x0.Values)]) (cl_fn cb109 rfl) (fun W hm => laws_toIntS_c W _ x0.Values (hm.rdS0 r7) s_0) (Wd_none rfl) (by decide) (fun z12 => ?_)
  refine WM_form (n := 0) rfl ?_
  rintro A13 c14 rfl m15
  refine wv (fun W hm => rv_field Try.underlying51 rfl Try.type27 (by decide) rfl rfl) ?_
  refine WM_storeBox (p := p11) (o := 1) (cs := [.int .i64 x0.Id, .slice none 0 0, .int .i64 0, .int .i64 0]) (cs' := [.int .i64 x0.Id, .slice A13 (laws_toIntS_m x0.Values).length c14, .int .i64 0, .int .i64 0]) (js := [iOwn (tSl tInt 3) [.slice A13 (laws_toIntS_m x0.Values).length c14] (laws_toIntS_m x0.Values), iBox p10 51 [.int .i64 0, .slice none 0 0, .int .i64 0, .int .i64 0], iBox p9 203 [.int .i64 x0.Id, .slice A4 x0.Values.length c5, .int .i64 x0.Born, .int .i64 x0.Died]]) (fun W hm => (hm.pick [1, 0, 2, 3] (by decide))) Try.type27 rfl (Nat.le_of_ble_eq_true rfl) rfl rfl rfl rfl (Wd_none rfl) ?_
  refine nt' ?_
  refine sr ?_
  refine wv (fun W hm => rv_field Try.underlying203 rfl Try.type3 (by decide) rfl rfl) ?_
  refine wv (fun W hm => rv_load Try.underlying3 rfl rfl (hm.boxCell (n := 3) (o := 2) rfl rfl)) ?_
  refine wv (fun W hm => rv_field Try.underlying51 rfl Try.type3 (by decide) rfl rfl) ?_
  refine WM_storeBox (p := p11) (o := 2) (cs := [.int .i64 x0.Id, .slice A13 (laws_toIntS_m x0.Values).length c14, .int .i64 0, .int .i64 0]) (cs' := [.int .i64 x0.Id, .slice A13 (laws_toIntS_m x0.Values).length c14, .int .i64 x0.Born, .int .i64 0]) (js := [iOwn (tSl tInt 3) [.slice A13 (laws_toIntS_m x0.Values).length c14] (laws_toIntS_m x0.Values), iBox p10 51 [.int .i64 0, .slice none 0 0, .int .i64 0, .int .i64 0], iBox p9 203 [.int .i64 x0.Id, .slice A4 x0.Values.length c5, .int .i64 x0.Born, .int .i64 x0.Died]]) (fun W hm => hm) Try.type3 rfl (Nat.le_of_ble_eq_true rfl) rfl rfl rfl rfl (Wd_none rfl) ?_
  refine nt' ?_
  refine sr ?_
  refine wv (fun W hm => rv_field Try.underlying203 rfl Try.type3 (by decide) rfl rfl) ?_
  refine wv (fun W hm => rv_load Try.underlying3 rfl rfl (hm.boxCell (n := 3) (o := 3) rfl rfl)) ?_
  refine wv (fun W hm => rv_field Try.underlying51 rfl Try.type3 (by decide) rfl rfl) ?_
  refine WM_storeBox (p := p11) (o := 3) (cs := [.int .i64 x0.Id, .slice A13 (laws_toIntS_m x0.Values).length c14, .int .i64 x0.Born, .int .i64 0]) (cs' := [.int .i64 x0.Id, .slice A13 (laws_toIntS_m x0.Values).length c14, .int .i64 x0.Born, .int .i64 x0.Died]) (js := [iOwn (tSl tInt 3) [.slice A13 (laws_toIntS_m x0.Values).length c14] (laws_toIntS_m x0.Values), iBox p10 51 [.int .i64 0, .slice none 0 0, .int .i64 0, .int .i64 0], iBox p9 203 [.int .i64 x0.Id, .slice A4 x0.Values.length c5, .int .i64 x0.Born, .int .i64 x0.Died]]) (fun W hm => hm) Try.type3 rfl (Nat.le_of_ble_eq_true rfl) rfl rfl rfl rfl (Wd_none rfl) ?_
  refine nt' ?_
  refine sr ?_
  refine wv (fun W hm => rv_loadN (cs := [.int .i64 x0.Id, .slice A13 (laws_toIntS_m x0.Values).length c14, .int .i64 x0.Born, .int .i64 x0.Died]) Try.underlying51 Try.type51 rfl rfl (hm.boxCells (n := 0) rfl)) ?_
  refine WM_storeBox (p := p10) (o := 0) (cs := [.int .i64 0, .slice none 0 0, .int .i64 0, .int .i64 0]) (cs' := [.int .i64 x0.Id, .slice A13 (laws_toIntS_m x0.Values).length c14, .int .i64 x0.Born, .int .i64 x0.Died]) (js := [iBox p11 51 [.int .i64 x0.Id, .slice A13 (laws_toIntS_m x0.Values).length c14, .int .i64 x0.Born, .int .i64 x0.Died], iOwn (tSl tInt 3) [.slice A13 (laws_toIntS_m x0.Values).length c14] (laws_toIntS_m x0.Values), iBox p9 203 [.int .i64 x0.Id, .slice A4 x0.Values.length c5, .int .i64 x0.Born, .int .i64 x0.Died]]) (fun W hm => (hm.pick [2, 0, 1, 3] (by decide))) Try.type51 rfl (Nat.le_of_ble_eq_true rfl) rfl rfl rfl rfl (Wd_none rfl) ?_
  refine nt' ?_
  refine CM_ret ?_
  refine QM_r1 rfl (RR_cell (n := 0) rfl rfl Try.underlying51 Try.type51 rfl) (fun W hm => ⟨[.int .i64 x0.Id, .slice A13 (laws_toIntS_m x0.Values).length c14, .int .i64 x0.Born, .int .i64 x0.Died], ?_, ?_⟩)
  · first | rw [(show laws_toVersion_m x0 = (⟨x0.Id, (laws_toIntS_m x0.Values), x0.Born, x0.Died⟩ : DVersion) from by unfold laws_toVersion_m; exact rfl)] | rfl
  · rw [(show laws_toVersion_m x0 = (⟨x0.Id, (laws_toIntS_m x0.Values), x0.Born, x0.Died⟩ : DVersion) from by unfold laws_toVersion_m; exact rfl)]; exact Mem.join (is := [iOwn (tSl tInt 3) [.slice A13 (laws_toIntS_m x0.Values).length c14] (laws_toIntS_m x0.Values)]) (js := []) (fun _ _ hs => tyVersion_join (x := (⟨x0.Id, (laws_toIntS_m x0.Values), x0.Born, x0.Died⟩ : DVersion)) hs) (hm.pick [2] (by decide))

def laws_toVersionS_b1 (x0 : (List DVersion)) (k9 : Nat) (d10 : (List DVersion)) : (List DVersion) ⊕ ((List DVersion)) :=
  Sum.inr (d10.set k9 (laws_toVersion_m (gt x0 k9)))
def laws_toVersionS_m (x0 : (List DVersion)) : (List DVersion) :=
  Sum.elim id (fun (s : (List DVersion)) => s) (rng (R := (List DVersion)) (fun k (s : (List DVersion)) => laws_toVersionS_b1 x0 k s) (x0.length - 0) 0 (List.replicate x0.length (⟨(0 : Int), [], (0 : Int), (0 : Int)⟩ : DVersion)))
set_option maxRecDepth 100000 in
theorem cb179 : Cb Try.prog 179 := ⟨Try.f179, _, Try.func179, rfl, by decide⟩
set_option maxRecDepth 10000 in
set_option maxHeartbeats 4000000 in
theorem laws_toVersionS_c (w : World) (z0 : Value) (x0 : (List DVersion)) (r_0 : rdS tyLVersion w w.heap.size z0 x0) (s_0 : (x0.length ≤ 68719476736 ∧ ∀ y ∈ x0, smVersion 68719476736 y)) :
    Calls Try.prog 179 #[z0] w fun e w' => ∃ v : Value, e = .returned (v) ∧ Mem w.heap.size w [iOwn (tSl tyVersion 51) [v] (laws_toVersionS_m x0)] w' := by
  have r5 := r_0
  obtain ⟨m1, A2, c3, rfl, q4⟩ := r_0
  have l6 : x0.length ≤ 68719476736 := s_0.1
  refine call_enterM (L := [(0, .slice A2 x0.length c3)]) (N := 23) Try.func179 rfl rfl (Nat.le_of_ble_eq_true rfl) (argsL_cons rfl argsL_nil) ?_
  refine sr ?_
  refine wa ?_
  refine nt' ?_
  refine sr ?_
  refine wm ?_
  refine wv (fun W hm => rv_len Try.underlying187 rfl) ?_
  refine WM_make (E := tyVersion) (n := x0.length) (x0 := (⟨(0 : Int), [], (0 : Int), (0 : Int)⟩ : DVersion)) Try.underlying102 Try.type51 rfl rfl rfl (fun _ => ⟨[], [], _, _, rfl, rfl, tInt_own, ⟨[], [], _, _, rfl, rfl, own_nil, ⟨[], [], _, _, rfl, rfl, tInt_own, tInt_own⟩⟩⟩) rfl rfl (show x0.length * 48 ≤ 281474976710656 from by omega) (by omega) (Wd_none rfl) (by decide) (fun p7 => ?_)
  refine wa ?_
  refine nt' ?_
  refine CM_seq ?_
  refine sr ?_
  refine wa ?_
  refine nt' ?_
  refine CM_block ?_
  refine CM_loop (σ := Nat × ((List DVersion)) × (Unit)) (fun s => [(0, .slice A2 x0.length c3), (3, .slice (some ⟨p7, 0, none⟩) x0.length x0.length), (4, .int .i64 ((s.1 : Nat) : Int))]) (fun s => [iOwn (tSl tyVersion 51) [.slice (some ⟨p7, 0, none⟩) x0.length x0.length] s.2.1]) (fun s => s.1 ≤ x0.length ∧ rng (R := (List DVersion)) (fun k (s : (List DVersion)) => laws_toVersionS_b1 x0 k s) (x0.length - s.1) s.1 s.2.1 = rng (R := (List DVersion)) (fun k (s : (List DVersion)) => laws_toVersionS_b1 x0 k s) (x0.length - 0) 0 (List.replicate x0.length (⟨(0 : Int), [], (0 : Int), (0 : Int)⟩ : DVersion))) (fun s => x0.length - s.1) (0, (List.replicate x0.length (⟨(0 : Int), [], (0 : Int), (0 : Int)⟩ : DVersion)), ()) (subL_cons rfl (subL_cons rfl (subL_cons rfl subL_nil))) (fun W hm => hm) ⟨(by omega), rfl⟩ ?_
  rintro ⟨k9, d10, ⟨⟩⟩ H13
  obtain ⟨hk11, hF12⟩ : k9 ≤ x0.length ∧ rng (R := (List DVersion)) (fun k (s : (List DVersion)) => laws_toVersionS_b1 x0 k s) (x0.length - k9) k9 d10 = rng (R := (List DVersion)) (fun k (s : (List DVersion)) => laws_toVersionS_b1 x0 k s) (x0.length - 0) 0 (List.replicate x0.length (⟨(0 : Int), [], (0 : Int), (0 : Int)⟩ : DVersion)) := H13
  show CM Try.prog 23 _ _ _ _ [(0, .slice A2 x0.length c3), (3, .slice (some ⟨p7, 0, none⟩) x0.length x0.length), (4, .int .i64 ((k9 : Nat) : Int))] [iOwn (tSl tyVersion 51) [.slice (some ⟨p7, 0, none⟩) x0.length x0.length] d10]
  refine CM_seq ?_
  refine sr ?_
  refine wm ?_
  refine wm ?_
  refine wv (fun W hm => rv_len Try.underlying187 rfl) ?_
  refine wv (fun W hm => rv_lss rfl rfl) ?_
  refine nt' ?_
  by_cases hl14 : k9 < x0.length
  · have g15 : (decide (((k9 : Nat) : Int) < ((x0.length : Nat) : Int))) = true := decide_eq_true (by omega)
    refine CM_condT rfl g15 ?_
    refine CM_skip ?_
    refine QM_then ?_
    refine CM_seq ?_
    refine CM_block ?_
    refine CM_region ?_
    refine wm ?_
    refine wm ?_
    refine wm ?_
    refine wm ?_
    obtain ⟨a16, rfl, hb17, he18⟩ := q4 (by omega)
    refine wv (fun W hm => rv_index (sz := 4) (k := k9) Try.underlying187 Try.type203 rfl rfl rfl (by omega)) ?_
    obtain ⟨_, e22, hc19⟩ := he18 k9 _ (gt_some (show k9 < x0.length from by omega))
    obtain ⟨v20, rfl, r21⟩ := tyLVersion_rd e22
    have l23 : ((gt x0 k9).Values).length ≤ 68719476736 := (s_0.2 _ (gt_mem (show k9 < x0.length from by omega)))
    have r28 := r21
    obtain ⟨m24, A25, c26, rfl, q27⟩ := r21
    refine wv (fun W hm => rv_loadN (cs := [.int .i64 ((gt x0 k9).Id), .slice A25 ((gt x0 k9).Values).length c26, .int .i64 ((gt x0 k9).Born), .int .i64 ((gt x0 k9).Died)]) Try.underlying203 Try.type203 rfl rfl (hm.elCells (show (a16.add (k9 * 4)).block < w.heap.size from by rw [add_block]; exact hb17.1) hc19)) ?_
    refine WM_call (χ := List Value) (val := fun x => .agg x.toArray) (js := fun x => [iOwn tyVersion x (laws_toVersion_m (gt x0 k9))]) (cl_fn cb206 rfl) (fun W hm => laws_toVersion_c W _ (gt x0 k9) (tyLVersion_mk (x := (gt x0 k9)) (hm.rdS0 r28)) (s_0.2 _ (gt_mem (show k9 < x0.length from by omega)))) (Wd_none rfl) (by decide) (fun z29 => ?_)
    refine WM_split (γ := Value) (js := fun g => [iOwn (tSl tInt 3) [g] ((laws_toVersion_m (gt x0 k9)).Values)]) (C := fun g => z29 = [.int .i64 ((laws_toVersion_m (gt x0 k9)).Id), g, .int .i64 ((laws_toVersion_m (gt x0 k9)).Born), .int .i64 ((laws_toVersion_m (gt x0 k9)).Died)]) (fun _ _ h => tyVersion_split h) ?_
    rintro v30 rfl
    refine WM_form (n := 0) rfl ?_
    rintro A31 c32 rfl m33
    refine wv (fun W hm => rv_index (sz := 4) (k := k9) Try.underlying102 Try.type51 rfl rfl rfl (by omega)) ?_
    refine WM_setEl (E := tyVersion) (e := 51) (u := .agg #[.int .i64 ((laws_toVersion_m (gt x0 k9)).Id), .slice A31 ((laws_toVersion_m (gt x0 k9)).Values).length c32, .int .i64 ((laws_toVersion_m (gt x0 k9)).Born), .int .i64 ((laws_toVersion_m (gt x0 k9)).Died)]) (k := k9) (p := p7) (n := x0.length) (xs := d10) (eis := [iOwn (tSl tInt 3) [.slice A31 ((laws_toVersion_m (gt x0 k9)).Values).length c32] ((laws_toVersion_m (gt x0 k9)).Values)]) (js := []) (yv := (laws_toVersion_m (gt x0 k9))) (fun W hm => (hm.pick [1, 0] (by decide))) (fun _ _ hs => (tyVersion_join (x := (laws_toVersion_m (gt x0 k9))) hs)) rfl Try.type51 rfl (by omega) rfl rfl (Wd_none rfl) ?_
    refine WM_nil ?_
    refine QM_block_normal ?_
    refine QM_then ?_
    refine CM_region ?_
    refine wm ?_
    refine wv (fun W hm => rv_addN (p := k9) (q := 1) rfl rfl (by omega)) ?_
    refine wa ?_
    refine WM_nil ?_
    have hn35 := rng_next (R := (List DVersion)) (body := (fun k (s : (List DVersion)) => laws_toVersionS_b1 x0 k s)) (k := k9) (s := d10) (s' := (d10.set k9 (laws_toVersion_m (gt x0 k9)))) (show k9 < x0.length from by omega) (show laws_toVersionS_b1 x0 k9 d10 = Sum.inr (d10.set k9 (laws_toVersion_m (gt x0 k9))) from by unfold laws_toVersionS_b1; exact rfl) hF12
    exact QM_round (k9 + 1, (d10.set k9 (laws_toVersion_m (gt x0 k9))), ()) (subL_cons rfl (subL_cons rfl (subL_cons rfl subL_nil))) (fun W hm => hm) ⟨(by omega), hn35⟩ (show x0.length - (k9 + 1) < x0.length - k9 from by omega)
  · have g15 : (decide (((k9 : Nat) : Int) < ((x0.length : Nat) : Int))) = false := decide_eq_false (by omega)
    refine CM_condF rfl g15 ?_
    refine CM_exit ?_
    refine QM_then_exit ?_
    refine QM_then_exit ?_
    have hE36 : rng (R := (List DVersion)) (fun k (s : (List DVersion)) => laws_toVersionS_b1 x0 k s) (x0.length - 0) 0 (List.replicate x0.length (⟨(0 : Int), [], (0 : Int), (0 : Int)⟩ : DVersion)) = Sum.inr d10 := rng_end hl14 hF12
    refine QM_block_hit ?_
    refine QM_then ?_
    refine sr ?_
    refine wm ?_
    refine wa ?_
    refine nt' ?_
    refine CM_ret ?_
    refine QM_r1 rfl (RR_tmp rfl) (fun W hm => ⟨.slice (some ⟨p7, 0, none⟩) x0.length x0.length, ?_, ?_⟩)
    · first | rw [(show laws_toVersionS_m x0 = d10 from by unfold laws_toVersionS_m; exact fin_inr hE36 (rfl))] | rfl
    · rw [(show laws_toVersionS_m x0 = d10 from by unfold laws_toVersionS_m; exact fin_inr hE36 (rfl))]; exact hm

def laws_toVersionSS_b1 (x0 : (List (List DVersion))) (k9 : Nat) (d10 : (List (List DVersion))) : (List (List DVersion)) ⊕ ((List (List DVersion))) :=
  Sum.inr (d10.set k9 (laws_toVersionS_m (gt x0 k9)))
def laws_toVersionSS_m (x0 : (List (List DVersion))) : (List (List DVersion)) :=
  Sum.elim id (fun (s : (List (List DVersion))) => s) (rng (R := (List (List DVersion))) (fun k (s : (List (List DVersion))) => laws_toVersionSS_b1 x0 k s) (x0.length - 0) 0 (List.replicate x0.length []))
set_option maxRecDepth 100000 in
theorem cb127 : Cb Try.prog 127 := ⟨Try.f127, _, Try.func127, rfl, by decide⟩
set_option maxRecDepth 10000 in
set_option maxHeartbeats 4000000 in
theorem laws_toVersionSS_c (w : World) (z0 : Value) (x0 : (List (List DVersion))) (r_0 : rdS (tSl tyLVersion 203) w w.heap.size z0 x0) (s_0 : (x0.length ≤ 68719476736 ∧ ∀ y ∈ x0, (y.length ≤ 68719476736 ∧ ∀ y1 ∈ y, smVersion 68719476736 y1))) :
    Calls Try.prog 127 #[z0] w fun e w' => ∃ v : Value, e = .returned (v) ∧ Mem w.heap.size w [iOwn (tSl (tSl tyVersion 51) 102) [v] (laws_toVersionSS_m x0)] w' := by
  have r5 := r_0
  obtain ⟨m1, A2, c3, rfl, q4⟩ := r_0
  have l6 : x0.length ≤ 68719476736 := s_0.1
  refine call_enterM (L := [(0, .slice A2 x0.length c3)]) (N := 23) Try.func127 rfl rfl (Nat.le_of_ble_eq_true rfl) (argsL_cons rfl argsL_nil) ?_
  refine sr ?_
  refine wa ?_
  refine nt' ?_
  refine sr ?_
  refine wm ?_
  refine wv (fun W hm => rv_len Try.underlying63 rfl) ?_
  refine WM_make (E := (tSl tyVersion 51)) (n := x0.length) (x0 := []) Try.underlying24 Try.type102 rfl rfl rfl (fun _ => own_nil) rfl rfl (show x0.length * 24 ≤ 281474976710656 from by omega) (by omega) (Wd_none rfl) (by decide) (fun p7 => ?_)
  refine wa ?_
  refine nt' ?_
  refine CM_seq ?_
  refine sr ?_
  refine wa ?_
  refine nt' ?_
  refine CM_block ?_
  refine CM_loop (σ := Nat × ((List (List DVersion))) × (Unit)) (fun s => [(0, .slice A2 x0.length c3), (3, .slice (some ⟨p7, 0, none⟩) x0.length x0.length), (4, .int .i64 ((s.1 : Nat) : Int))]) (fun s => [iOwn (tSl (tSl tyVersion 51) 102) [.slice (some ⟨p7, 0, none⟩) x0.length x0.length] s.2.1]) (fun s => s.1 ≤ x0.length ∧ rng (R := (List (List DVersion))) (fun k (s : (List (List DVersion))) => laws_toVersionSS_b1 x0 k s) (x0.length - s.1) s.1 s.2.1 = rng (R := (List (List DVersion))) (fun k (s : (List (List DVersion))) => laws_toVersionSS_b1 x0 k s) (x0.length - 0) 0 (List.replicate x0.length [])) (fun s => x0.length - s.1) (0, (List.replicate x0.length []), ()) (subL_cons rfl (subL_cons rfl (subL_cons rfl subL_nil))) (fun W hm => hm) ⟨(by omega), rfl⟩ ?_
  rintro ⟨k9, d10, ⟨⟩⟩ H13
  obtain ⟨hk11, hF12⟩ : k9 ≤ x0.length ∧ rng (R := (List (List DVersion))) (fun k (s : (List (List DVersion))) => laws_toVersionSS_b1 x0 k s) (x0.length - k9) k9 d10 = rng (R := (List (List DVersion))) (fun k (s : (List (List DVersion))) => laws_toVersionSS_b1 x0 k s) (x0.length - 0) 0 (List.replicate x0.length []) := H13
  show CM Try.prog 23 _ _ _ _ [(0, .slice A2 x0.length c3), (3, .slice (some ⟨p7, 0, none⟩) x0.length x0.length), (4, .int .i64 ((k9 : Nat) : Int))] [iOwn (tSl (tSl tyVersion 51) 102) [.slice (some ⟨p7, 0, none⟩) x0.length x0.length] d10]
  refine CM_seq ?_
  refine sr ?_
  refine wm ?_
  refine wm ?_
  refine wv (fun W hm => rv_len Try.underlying63 rfl) ?_
  refine wv (fun W hm => rv_lss rfl rfl) ?_
  refine nt' ?_
  by_cases hl14 : k9 < x0.length
  · have g15 : (decide (((k9 : Nat) : Int) < ((x0.length : Nat) : Int))) = true := decide_eq_true (by omega)
    refine CM_condT rfl g15 ?_
    refine CM_skip ?_
    refine QM_then ?_
    refine CM_seq ?_
    refine CM_block ?_
    refine CM_region ?_
    refine wm ?_
    refine wm ?_
    refine wm ?_
    refine wm ?_
    obtain ⟨a16, rfl, hb17, he18⟩ := q4 (by omega)
    refine wv (fun W hm => rv_index (sz := 1) (k := k9) Try.underlying63 Try.type187 rfl rfl rfl (by omega)) ?_
    obtain ⟨_, e20, hc19⟩ := he18 k9 _ (gt_some (show k9 < x0.length from by omega))
    have l21 : (gt x0 k9).length ≤ 68719476736 := (s_0.2 _ (gt_mem (show k9 < x0.length from by omega))).1
    obtain ⟨v22, rfl, r23⟩ := e20
    have r28 := r23
    obtain ⟨m24, A25, c26, rfl, q27⟩ := r23
    refine wv (fun W hm => rv_load Try.underlying187 rfl rfl ((hm.cell0 (show (a16.add (k9 * 1)).block < w.heap.size from by rw [add_block]; exact hb17.1)).trans (hc19 0 _ rfl))) ?_
    refine WM_call (χ := Value) (val := fun x => x) (js := fun x => [iOwn (tSl tyVersion 51) [x] (laws_toVersionS_m (gt x0 k9))]) (cl_fn cb179 rfl) (fun W hm => laws_toVersionS_c W _ (gt x0 k9) (hm.rdS0 r28) (s_0.2 _ (gt_mem (show k9 < x0.length from by omega)))) (Wd_none rfl) (by decide) (fun z29 => ?_)
    refine WM_form (n := 0) rfl ?_
    rintro A30 c31 rfl m32
    refine wv (fun W hm => rv_index (sz := 1) (k := k9) Try.underlying24 Try.type102 rfl rfl rfl (by omega)) ?_
    refine WM_setEl (E := (tSl tyVersion 51)) (e := 102) (u := .slice A30 (laws_toVersionS_m (gt x0 k9)).length c31) (k := k9) (p := p7) (n := x0.length) (xs := d10) (eis := [iOwn (tSl tyVersion 51) [.slice A30 (laws_toVersionS_m (gt x0 k9)).length c31] (laws_toVersionS_m (gt x0 k9))]) (js := []) (yv := (laws_toVersionS_m (gt x0 k9))) (fun W hm => (hm.pick [1, 0] (by decide))) (fun _ _ hs => (Sep.one hs)) rfl Try.type102 rfl (by omega) rfl rfl (Wd_none rfl) ?_
    refine WM_nil ?_
    refine QM_block_normal ?_
    refine QM_then ?_
    refine CM_region ?_
    refine wm ?_
    refine wv (fun W hm => rv_addN (p := k9) (q := 1) rfl rfl (by omega)) ?_
    refine wa ?_
    refine WM_nil ?_
    have hn34 := rng_next (R := (List (List DVersion))) (body := (fun k (s : (List (List DVersion))) => laws_toVersionSS_b1 x0 k s)) (k := k9) (s := d10) (s' := (d10.set k9 (laws_toVersionS_m (gt x0 k9)))) (show k9 < x0.length from by omega) (show laws_toVersionSS_b1 x0 k9 d10 = Sum.inr (d10.set k9 (laws_toVersionS_m (gt x0 k9))) from by unfold laws_toVersionSS_b1; exact rfl) hF12
    exact QM_round (k9 + 1, (d10.set k9 (laws_toVersionS_m (gt x0 k9))), ()) (subL_cons rfl (subL_cons rfl (subL_cons rfl subL_nil))) (fun W hm => hm) ⟨(by omega), hn34⟩ (show x0.length - (k9 + 1) < x0.length - k9 from by omega)
  · have g15 : (decide (((k9 : Nat) : Int) < ((x0.length : Nat) : Int))) = false := decide_eq_false (by omega)
    refine CM_condF rfl g15 ?_
    refine CM_exit ?_
    refine QM_then_exit ?_
    refine QM_then_exit ?_
    have hE35 : rng (R := (List (List DVersion))) (fun k (s : (List (List DVersion))) => laws_toVersionSS_b1 x0 k s) (x0.length - 0) 0 (List.replicate x0.length []) = Sum.inr d10 := rng_end hl14 hF12
    refine QM_block_hit ?_
    refine QM_then ?_
    refine sr ?_
    refine wm ?_
    refine wa ?_
    refine nt' ?_
    refine CM_ret ?_
    refine QM_r1 rfl (RR_tmp rfl) (fun W hm => ⟨.slice (some ⟨p7, 0, none⟩) x0.length x0.length, ?_, ?_⟩)
    · first | rw [(show laws_toVersionSS_m x0 = d10 from by unfold laws_toVersionSS_m; exact fin_inr hE35 (rfl))] | rfl
    · rw [(show laws_toVersionSS_m x0 = d10 from by unfold laws_toVersionSS_m; exact fin_inr hE35 (rfl))]; exact hm

def laws_toStore_m (x0 : DStore) : DStore :=
  (⟨(laws_toVersionSS_m x0.Segments), x0.Now⟩ : DStore)
set_option maxRecDepth 100000 in
theorem cb51 : Cb Try.prog 51 := ⟨Try.f51, _, Try.func51, rfl, by decide⟩
set_option maxRecDepth 10000 in
set_option maxHeartbeats 4000000 in
theorem laws_toStore_c (w : World) (z0 : List Value) (x0 : DStore) (r_0 : tyLStore.rd w w.heap.size z0 x0) (s_0 : smStore 68719476736 x0) :
    Calls Try.prog 51 #[.agg z0.toArray] w fun e w' => ∃ v : List Value, e = .returned (.agg v.toArray) ∧ Mem w.heap.size w [iOwn tyStore v (laws_toStore_m x0)] w' := by
  obtain ⟨v1, rfl, r2⟩ := tyLStore_rd r_0
  have r7 := r2
  obtain ⟨m3, A4, c5, rfl, q6⟩ := r2
  have l8 : x0.Segments.length ≤ 68719476736 := s_0.1
  refine call_enterM (L := [(0, .agg #[.slice A4 x0.Segments.length c5, .int .i64 x0.Now])]) (N := 12) Try.func51 rfl rfl (Nat.le_of_ble_eq_true rfl) (argsL_cons rfl argsL_nil) ?_
  refine sr ?_
  refine WM_box rfl (Wd_none rfl) (by decide) (fun p9 => ?_)
  refine WM_alloc Try.type26 rfl (Wd_none rfl) (by decide) (fun p10 => ?_)
  refine nt' ?_
  refine sr ?_
  refine WM_alloc Try.type26 rfl (Wd_none rfl) (by decide) (fun p11 => ?_)
  refine nt' ?_
  refine sr ?_
  refine wv (fun W hm => rv_field Try.underlying65 rfl Try.type63 (by decide) rfl rfl) ?_
  refine wv (fun W hm => rv_load Try.underlying63 rfl rfl (hm.boxCell (n := 2) (o := 0) rfl rfl)) ?_
  refine WM_call (χ := Value) (val := fun x => x) (js := fun x => [iOwn (tSl (tSl tyVersion 51) 102) [x] (laws_toVersionSS_m x0.Segments)]) (cl_fn cb127 rfl) (fun W hm => laws_toVersionSS_c W _ x0.Segments (hm.rdS0 r7) s_0) (Wd_none rfl) (by decide) (fun z12 => ?_)
  refine WM_form (n := 0) rfl ?_
  rintro A13 c14 rfl m15
  refine wv (fun W hm => rv_field Try.underlying26 rfl Try.type24 (by decide) rfl rfl) ?_
  refine WM_storeBox (p := p11) (o := 0) (cs := [.slice none 0 0, .int .i64 0]) (cs' := [.slice A13 (laws_toVersionSS_m x0.Segments).length c14, .int .i64 0]) (js := [iOwn (tSl (tSl tyVersion 51) 102) [.slice A13 (laws_toVersionSS_m x0.Segments).length c14] (laws_toVersionSS_m x0.Segments), iBox p10 26 [.slice none 0 0, .int .i64 0], iBox p9 65 [.slice A4 x0.Segments.length c5, .int .i64 x0.Now]]) (fun W hm => (hm.pick [1, 0, 2, 3] (by decide))) Try.type24 rfl (Nat.le_of_ble_eq_true rfl) rfl rfl rfl rfl (Wd_none rfl) ?_
  refine nt' ?_
  refine sr ?_
  refine wv (fun W hm => rv_field Try.underlying65 rfl Try.type3 (by decide) rfl rfl) ?_
  refine wv (fun W hm => rv_load Try.underlying3 rfl rfl (hm.boxCell (n := 3) (o := 1) rfl rfl)) ?_
  refine wv (fun W hm => rv_field Try.underlying26 rfl Try.type3 (by decide) rfl rfl) ?_
  refine WM_storeBox (p := p11) (o := 1) (cs := [.slice A13 (laws_toVersionSS_m x0.Segments).length c14, .int .i64 0]) (cs' := [.slice A13 (laws_toVersionSS_m x0.Segments).length c14, .int .i64 x0.Now]) (js := [iOwn (tSl (tSl tyVersion 51) 102) [.slice A13 (laws_toVersionSS_m x0.Segments).length c14] (laws_toVersionSS_m x0.Segments), iBox p10 26 [.slice none 0 0, .int .i64 0], iBox p9 65 [.slice A4 x0.Segments.length c5, .int .i64 x0.Now]]) (fun W hm => hm) Try.type3 rfl (Nat.le_of_ble_eq_true rfl) rfl rfl rfl rfl (Wd_none rfl) ?_
  refine nt' ?_
  refine sr ?_
  refine wv (fun W hm => rv_loadN (cs := [.slice A13 (laws_toVersionSS_m x0.Segments).length c14, .int .i64 x0.Now]) Try.underlying26 Try.type26 rfl rfl (hm.boxCells (n := 0) rfl)) ?_
  refine WM_storeBox (p := p10) (o := 0) (cs := [.slice none 0 0, .int .i64 0]) (cs' := [.slice A13 (laws_toVersionSS_m x0.Segments).length c14, .int .i64 x0.Now]) (js := [iBox p11 26 [.slice A13 (laws_toVersionSS_m x0.Segments).length c14, .int .i64 x0.Now], iOwn (tSl (tSl tyVersion 51) 102) [.slice A13 (laws_toVersionSS_m x0.Segments).length c14] (laws_toVersionSS_m x0.Segments), iBox p9 65 [.slice A4 x0.Segments.length c5, .int .i64 x0.Now]]) (fun W hm => (hm.pick [2, 0, 1, 3] (by decide))) Try.type26 rfl (Nat.le_of_ble_eq_true rfl) rfl rfl rfl rfl (Wd_none rfl) ?_
  refine nt' ?_
  refine CM_ret ?_
  refine QM_r1 rfl (RR_cell (n := 0) rfl rfl Try.underlying26 Try.type26 rfl) (fun W hm => ⟨[.slice A13 (laws_toVersionSS_m x0.Segments).length c14, .int .i64 x0.Now], ?_, ?_⟩)
  · first | rw [(show laws_toStore_m x0 = (⟨(laws_toVersionSS_m x0.Segments), x0.Now⟩ : DStore) from by unfold laws_toStore_m; exact rfl)] | rfl
  · rw [(show laws_toStore_m x0 = (⟨(laws_toVersionSS_m x0.Segments), x0.Now⟩ : DStore) from by unfold laws_toStore_m; exact rfl)]; exact Mem.join (is := [iOwn (tSl (tSl tyVersion 51) 102) [.slice A13 (laws_toVersionSS_m x0.Segments).length c14] (laws_toVersionSS_m x0.Segments)]) (js := []) (fun _ _ hs => tyStore_join (x := (⟨(laws_toVersionSS_m x0.Segments), x0.Now⟩ : DStore)) hs) (hm.pick [2] (by decide))

def laws_toCond_m (x0 : DCond) : DCond :=
  x0
set_option maxRecDepth 100000 in
theorem cb217 : Cb Try.prog 217 := ⟨Try.f217, _, Try.func217, rfl, by decide⟩
set_option maxRecDepth 10000 in
set_option maxHeartbeats 4000000 in
theorem laws_toCond_c (w : World) (z0 : List Value) (x0 : DCond) (r_0 : tyLCond.rd w w.heap.size z0 x0) :
    Calls Try.prog 217 #[.agg z0.toArray] w fun e w' => ∃ v : List Value, e = .returned (.agg v.toArray) ∧ Mem w.heap.size w [iOwn tyCond v (laws_toCond_m x0)] w' := by
  obtain rfl := tyLCond_rd r_0
  refine call_enterM (L := [(0, .agg #[.int .i64 x0.Field, .int .i64 x0.Low, .int .i64 x0.High])]) (N := 14) Try.func217 rfl rfl (Nat.le_of_ble_eq_true rfl) (argsL_cons rfl argsL_nil) ?_
  refine sr ?_
  refine WM_box rfl (Wd_none rfl) (by decide) (fun p1 => ?_)
  refine WM_alloc Try.type183 rfl (Wd_none rfl) (by decide) (fun p2 => ?_)
  refine nt' ?_
  refine sr ?_
  refine WM_alloc Try.type183 rfl (Wd_none rfl) (by decide) (fun p3 => ?_)
  refine nt' ?_
  refine sr ?_
  refine wv (fun W hm => rv_field Try.underlying211 rfl Try.type3 (by decide) rfl rfl) ?_
  refine wv (fun W hm => rv_load Try.underlying3 rfl rfl (hm.boxCell (n := 2) (o := 0) rfl rfl)) ?_
  refine wv (fun W hm => rv_field Try.underlying183 rfl Try.type3 (by decide) rfl rfl) ?_
  refine WM_storeBox (p := p3) (o := 0) (cs := [.int .i64 0, .int .i64 0, .int .i64 0]) (cs' := [.int .i64 x0.Field, .int .i64 0, .int .i64 0]) (js := [iBox p2 183 [.int .i64 0, .int .i64 0, .int .i64 0], iBox p1 211 [.int .i64 x0.Field, .int .i64 x0.Low, .int .i64 x0.High]]) (fun W hm => hm) Try.type3 rfl (Nat.le_of_ble_eq_true rfl) rfl rfl rfl rfl (Wd_none rfl) ?_
  refine nt' ?_
  refine sr ?_
  refine wv (fun W hm => rv_field Try.underlying211 rfl Try.type3 (by decide) rfl rfl) ?_
  refine wv (fun W hm => rv_load Try.underlying3 rfl rfl (hm.boxCell (n := 2) (o := 1) rfl rfl)) ?_
  refine wv (fun W hm => rv_field Try.underlying183 rfl Try.type3 (by decide) rfl rfl) ?_
  refine WM_storeBox (p := p3) (o := 1) (cs := [.int .i64 x0.Field, .int .i64 0, .int .i64 0]) (cs' := [.int .i64 x0.Field, .int .i64 x0.Low, .int .i64 0]) (js := [iBox p2 183 [.int .i64 0, .int .i64 0, .int .i64 0], iBox p1 211 [.int .i64 x0.Field, .int .i64 x0.Low, .int .i64 x0.High]]) (fun W hm => hm) Try.type3 rfl (Nat.le_of_ble_eq_true rfl) rfl rfl rfl rfl (Wd_none rfl) ?_
  refine nt' ?_
  refine sr ?_
  refine wv (fun W hm => rv_field Try.underlying211 rfl Try.type3 (by decide) rfl rfl) ?_
  refine wv (fun W hm => rv_load Try.underlying3 rfl rfl (hm.boxCell (n := 2) (o := 2) rfl rfl)) ?_
  refine wv (fun W hm => rv_field Try.underlying183 rfl Try.type3 (by decide) rfl rfl) ?_
  refine WM_storeBox (p := p3) (o := 2) (cs := [.int .i64 x0.Field, .int .i64 x0.Low, .int .i64 0]) (cs' := [.int .i64 x0.Field, .int .i64 x0.Low, .int .i64 x0.High]) (js := [iBox p2 183 [.int .i64 0, .int .i64 0, .int .i64 0], iBox p1 211 [.int .i64 x0.Field, .int .i64 x0.Low, .int .i64 x0.High]]) (fun W hm => hm) Try.type3 rfl (Nat.le_of_ble_eq_true rfl) rfl rfl rfl rfl (Wd_none rfl) ?_
  refine nt' ?_
  refine sr ?_
  refine wv (fun W hm => rv_loadN (cs := [.int .i64 x0.Field, .int .i64 x0.Low, .int .i64 x0.High]) Try.underlying183 Try.type183 rfl rfl (hm.boxCells (n := 0) rfl)) ?_
  refine WM_storeBox (p := p2) (o := 0) (cs := [.int .i64 0, .int .i64 0, .int .i64 0]) (cs' := [.int .i64 x0.Field, .int .i64 x0.Low, .int .i64 x0.High]) (js := [iBox p3 183 [.int .i64 x0.Field, .int .i64 x0.Low, .int .i64 x0.High], iBox p1 211 [.int .i64 x0.Field, .int .i64 x0.Low, .int .i64 x0.High]]) (fun W hm => (hm.pick [1, 0, 2] (by decide))) Try.type183 rfl (Nat.le_of_ble_eq_true rfl) rfl rfl rfl rfl (Wd_none rfl) ?_
  refine nt' ?_
  refine CM_ret ?_
  refine QM_r1 rfl (RR_cell (n := 0) rfl rfl Try.underlying183 Try.type183 rfl) (fun W hm => ⟨[.int .i64 x0.Field, .int .i64 x0.Low, .int .i64 x0.High], ?_, ?_⟩)
  · first | rw [(show laws_toCond_m x0 = x0 from by unfold laws_toCond_m; exact rfl)] | rfl
  · rw [(show laws_toCond_m x0 = x0 from by unfold laws_toCond_m; exact rfl)]; exact Mem.join (is := []) (js := []) (fun _ _ hs => tyCond_join (x := x0) hs) (hm.pick [] (by decide))

def laws_toCondS_b1 (x0 : (List DCond)) (k9 : Nat) (d10 : (List DCond)) : (List DCond) ⊕ ((List DCond)) :=
  Sum.inr (d10.set k9 (laws_toCond_m (gt x0 k9)))
def laws_toCondS_m (x0 : (List DCond)) : (List DCond) :=
  Sum.elim id (fun (s : (List DCond)) => s) (rng (R := (List DCond)) (fun k (s : (List DCond)) => laws_toCondS_b1 x0 k s) (x0.length - 0) 0 (List.replicate x0.length (⟨(0 : Int), (0 : Int), (0 : Int)⟩ : DCond)))
set_option maxRecDepth 100000 in
theorem cb212 : Cb Try.prog 212 := ⟨Try.f212, _, Try.func212, rfl, by decide⟩
set_option maxRecDepth 10000 in
set_option maxHeartbeats 4000000 in
theorem laws_toCondS_c (w : World) (z0 : Value) (x0 : (List DCond)) (r_0 : rdS tyLCond w w.heap.size z0 x0) (s_0 : x0.length ≤ 68719476736) :
    Calls Try.prog 212 #[z0] w fun e w' => ∃ v : Value, e = .returned (v) ∧ Mem w.heap.size w [iOwn (tSl tyCond 183) [v] (laws_toCondS_m x0)] w' := by
  have r5 := r_0
  obtain ⟨m1, A2, c3, rfl, q4⟩ := r_0
  have l6 : x0.length ≤ 68719476736 := s_0
  refine call_enterM (L := [(0, .slice A2 x0.length c3)]) (N := 23) Try.func212 rfl rfl (Nat.le_of_ble_eq_true rfl) (argsL_cons rfl argsL_nil) ?_
  refine sr ?_
  refine wa ?_
  refine nt' ?_
  refine sr ?_
  refine wm ?_
  refine wv (fun W hm => rv_len Try.underlying167 rfl) ?_
  refine WM_make (E := tyCond) (n := x0.length) (x0 := (⟨(0 : Int), (0 : Int), (0 : Int)⟩ : DCond)) Try.underlying123 Try.type183 rfl rfl rfl (fun _ => ⟨[], [], _, _, rfl, rfl, tInt_own, ⟨[], [], _, _, rfl, rfl, tInt_own, tInt_own⟩⟩) rfl rfl (show x0.length * 24 ≤ 281474976710656 from by omega) (by omega) (Wd_none rfl) (by decide) (fun p7 => ?_)
  refine wa ?_
  refine nt' ?_
  refine CM_seq ?_
  refine sr ?_
  refine wa ?_
  refine nt' ?_
  refine CM_block ?_
  refine CM_loop (σ := Nat × ((List DCond)) × (Unit)) (fun s => [(0, .slice A2 x0.length c3), (3, .slice (some ⟨p7, 0, none⟩) x0.length x0.length), (4, .int .i64 ((s.1 : Nat) : Int))]) (fun s => [iOwn (tSl tyCond 183) [.slice (some ⟨p7, 0, none⟩) x0.length x0.length] s.2.1]) (fun s => s.1 ≤ x0.length ∧ rng (R := (List DCond)) (fun k (s : (List DCond)) => laws_toCondS_b1 x0 k s) (x0.length - s.1) s.1 s.2.1 = rng (R := (List DCond)) (fun k (s : (List DCond)) => laws_toCondS_b1 x0 k s) (x0.length - 0) 0 (List.replicate x0.length (⟨(0 : Int), (0 : Int), (0 : Int)⟩ : DCond))) (fun s => x0.length - s.1) (0, (List.replicate x0.length (⟨(0 : Int), (0 : Int), (0 : Int)⟩ : DCond)), ()) (subL_cons rfl (subL_cons rfl (subL_cons rfl subL_nil))) (fun W hm => hm) ⟨(by omega), rfl⟩ ?_
  rintro ⟨k9, d10, ⟨⟩⟩ H13
  obtain ⟨hk11, hF12⟩ : k9 ≤ x0.length ∧ rng (R := (List DCond)) (fun k (s : (List DCond)) => laws_toCondS_b1 x0 k s) (x0.length - k9) k9 d10 = rng (R := (List DCond)) (fun k (s : (List DCond)) => laws_toCondS_b1 x0 k s) (x0.length - 0) 0 (List.replicate x0.length (⟨(0 : Int), (0 : Int), (0 : Int)⟩ : DCond)) := H13
  show CM Try.prog 23 _ _ _ _ [(0, .slice A2 x0.length c3), (3, .slice (some ⟨p7, 0, none⟩) x0.length x0.length), (4, .int .i64 ((k9 : Nat) : Int))] [iOwn (tSl tyCond 183) [.slice (some ⟨p7, 0, none⟩) x0.length x0.length] d10]
  refine CM_seq ?_
  refine sr ?_
  refine wm ?_
  refine wm ?_
  refine wv (fun W hm => rv_len Try.underlying167 rfl) ?_
  refine wv (fun W hm => rv_lss rfl rfl) ?_
  refine nt' ?_
  by_cases hl14 : k9 < x0.length
  · have g15 : (decide (((k9 : Nat) : Int) < ((x0.length : Nat) : Int))) = true := decide_eq_true (by omega)
    refine CM_condT rfl g15 ?_
    refine CM_skip ?_
    refine QM_then ?_
    refine CM_seq ?_
    refine CM_block ?_
    refine CM_region ?_
    refine wm ?_
    refine wm ?_
    refine wm ?_
    refine wm ?_
    obtain ⟨a16, rfl, hb17, he18⟩ := q4 (by omega)
    refine wv (fun W hm => rv_index (sz := 3) (k := k9) Try.underlying167 Try.type211 rfl rfl rfl (by omega)) ?_
    obtain ⟨_, e20, hc19⟩ := he18 k9 _ (gt_some (show k9 < x0.length from by omega))
    obtain rfl := tyLCond_rd e20
    refine wv (fun W hm => rv_loadN (cs := [.int .i64 ((gt x0 k9).Field), .int .i64 ((gt x0 k9).Low), .int .i64 ((gt x0 k9).High)]) Try.underlying211 Try.type211 rfl rfl (hm.elCells (show (a16.add (k9 * 3)).block < w.heap.size from by rw [add_block]; exact hb17.1) hc19)) ?_
    refine WM_call (χ := List Value) (val := fun x => .agg x.toArray) (js := fun x => [iOwn tyCond x (laws_toCond_m (gt x0 k9))]) (cl_fn cb217 rfl) (fun W hm => laws_toCond_c W _ (gt x0 k9) (tyLCond_mk (x := (gt x0 k9)))) (Wd_none rfl) (by decide) (fun z21 => ?_)
    refine WM_split (γ := Unit) (js := fun _ => []) (C := fun _ => z21 = [.int .i64 ((laws_toCond_m (gt x0 k9)).Field), .int .i64 ((laws_toCond_m (gt x0 k9)).Low), .int .i64 ((laws_toCond_m (gt x0 k9)).High)]) (fun _ _ h => tyCond_split h) ?_
    rintro ⟨⟩ rfl
    refine wv (fun W hm => rv_index (sz := 3) (k := k9) Try.underlying123 Try.type183 rfl rfl rfl (by omega)) ?_
    refine WM_setEl (E := tyCond) (e := 183) (u := .agg #[.int .i64 ((laws_toCond_m (gt x0 k9)).Field), .int .i64 ((laws_toCond_m (gt x0 k9)).Low), .int .i64 ((laws_toCond_m (gt x0 k9)).High)]) (k := k9) (p := p7) (n := x0.length) (xs := d10) (eis := []) (js := []) (yv := (laws_toCond_m (gt x0 k9))) (fun W hm => hm) (fun _ _ hs => (tyCond_join (x := (laws_toCond_m (gt x0 k9))) hs)) rfl Try.type183 rfl (by omega) rfl rfl (Wd_none rfl) ?_
    refine WM_nil ?_
    refine QM_block_normal ?_
    refine QM_then ?_
    refine CM_region ?_
    refine wm ?_
    refine wv (fun W hm => rv_addN (p := k9) (q := 1) rfl rfl (by omega)) ?_
    refine wa ?_
    refine WM_nil ?_
    have hn22 := rng_next (R := (List DCond)) (body := (fun k (s : (List DCond)) => laws_toCondS_b1 x0 k s)) (k := k9) (s := d10) (s' := (d10.set k9 (laws_toCond_m (gt x0 k9)))) (show k9 < x0.length from by omega) (show laws_toCondS_b1 x0 k9 d10 = Sum.inr (d10.set k9 (laws_toCond_m (gt x0 k9))) from by unfold laws_toCondS_b1; exact rfl) hF12
    exact QM_round (k9 + 1, (d10.set k9 (laws_toCond_m (gt x0 k9))), ()) (subL_cons rfl (subL_cons rfl (subL_cons rfl subL_nil))) (fun W hm => hm) ⟨(by omega), hn22⟩ (show x0.length - (k9 + 1) < x0.length - k9 from by omega)
  · have g15 : (decide (((k9 : Nat) : Int) < ((x0.length : Nat) : Int))) = false := decide_eq_false (by omega)
    refine CM_condF rfl g15 ?_
    refine CM_exit ?_
    refine QM_then_exit ?_
    refine QM_then_exit ?_
    have hE23 : rng (R := (List DCond)) (fun k (s : (List DCond)) => laws_toCondS_b1 x0 k s) (x0.length - 0) 0 (List.replicate x0.length (⟨(0 : Int), (0 : Int), (0 : Int)⟩ : DCond)) = Sum.inr d10 := rng_end hl14 hF12
    refine QM_block_hit ?_
    refine QM_then ?_
    refine sr ?_
    refine wm ?_
    refine wa ?_
    refine nt' ?_
    refine CM_ret ?_
    refine QM_r1 rfl (RR_tmp rfl) (fun W hm => ⟨.slice (some ⟨p7, 0, none⟩) x0.length x0.length, ?_, ?_⟩)
    · first | rw [(show laws_toCondS_m x0 = d10 from by unfold laws_toCondS_m; exact fin_inr hE23 (rfl))] | rfl
    · rw [(show laws_toCondS_m x0 = d10 from by unfold laws_toCondS_m; exact fin_inr hE23 (rfl))]; exact hm

def laws_toQuery_m (x0 : DQuery) : DQuery :=
  (⟨x0.Id, x0.Tenant, (laws_toCondS_m x0.Conds), (laws_toIntS_m x0.Out)⟩ : DQuery)
set_option maxRecDepth 100000 in
theorem cb201 : Cb Try.prog 201 := ⟨Try.f201, _, Try.func201, rfl, by decide⟩
set_option maxRecDepth 10000 in
set_option maxHeartbeats 4000000 in
theorem laws_toQuery_c (w : World) (z0 : List Value) (x0 : DQuery) (r_0 : tyLQuery.rd w w.heap.size z0 x0) (s_0 : smQuery 68719476736 x0) :
    Calls Try.prog 201 #[.agg z0.toArray] w fun e w' => ∃ v : List Value, e = .returned (.agg v.toArray) ∧ Mem w.heap.size w [iOwn tyQuery v (laws_toQuery_m x0)] w' := by
  obtain ⟨v1, v3, rfl, r2, r4⟩ := tyLQuery_rd r_0
  have r9 := r2
  obtain ⟨m5, A6, c7, rfl, q8⟩ := r2
  have r14 := r4
  obtain ⟨m10, A11, c12, rfl, q13⟩ := r4
  have l15 : x0.Conds.length ≤ 68719476736 := s_0.1
  have l16 : x0.Out.length ≤ 68719476736 := s_0.2
  refine call_enterM (L := [(0, .agg #[.int .i64 x0.Id, .int .i64 x0.Tenant, .slice A6 x0.Conds.length c7, .slice A11 x0.Out.length c12])]) (N := 19) Try.func201 rfl rfl (Nat.le_of_ble_eq_true rfl) (argsL_cons rfl argsL_nil) ?_
  refine sr ?_
  refine WM_box rfl (Wd_none rfl) (by decide) (fun p17 => ?_)
  refine WM_alloc Try.type125 rfl (Wd_none rfl) (by decide) (fun p18 => ?_)
  refine nt' ?_
  refine sr ?_
  refine WM_alloc Try.type125 rfl (Wd_none rfl) (by decide) (fun p19 => ?_)
  refine nt' ?_
  refine sr ?_
  refine wv (fun W hm => rv_field Try.underlying169 rfl Try.type3 (by decide) rfl rfl) ?_
  refine wv (fun W hm => rv_load Try.underlying3 rfl rfl (hm.boxCell (n := 2) (o := 0) rfl rfl)) ?_
  refine wv (fun W hm => rv_field Try.underlying125 rfl Try.type3 (by decide) rfl rfl) ?_
  refine WM_storeBox (p := p19) (o := 0) (cs := [.int .i64 0, .int .i64 0, .slice none 0 0, .slice none 0 0]) (cs' := [.int .i64 x0.Id, .int .i64 0, .slice none 0 0, .slice none 0 0]) (js := [iBox p18 125 [.int .i64 0, .int .i64 0, .slice none 0 0, .slice none 0 0], iBox p17 169 [.int .i64 x0.Id, .int .i64 x0.Tenant, .slice A6 x0.Conds.length c7, .slice A11 x0.Out.length c12]]) (fun W hm => hm) Try.type3 rfl (Nat.le_of_ble_eq_true rfl) rfl rfl rfl rfl (Wd_none rfl) ?_
  refine nt' ?_
  refine sr ?_
  refine wv (fun W hm => rv_field Try.underlying169 rfl Try.type3 (by decide) rfl rfl) ?_
  refine wv (fun W hm => rv_load Try.underlying3 rfl rfl (hm.boxCell (n := 2) (o := 1) rfl rfl)) ?_
  refine wv (fun W hm => rv_field Try.underlying125 rfl Try.type3 (by decide) rfl rfl) ?_
  refine WM_storeBox (p := p19) (o := 1) (cs := [.int .i64 x0.Id, .int .i64 0, .slice none 0 0, .slice none 0 0]) (cs' := [.int .i64 x0.Id, .int .i64 x0.Tenant, .slice none 0 0, .slice none 0 0]) (js := [iBox p18 125 [.int .i64 0, .int .i64 0, .slice none 0 0, .slice none 0 0], iBox p17 169 [.int .i64 x0.Id, .int .i64 x0.Tenant, .slice A6 x0.Conds.length c7, .slice A11 x0.Out.length c12]]) (fun W hm => hm) Try.type3 rfl (Nat.le_of_ble_eq_true rfl) rfl rfl rfl rfl (Wd_none rfl) ?_
  refine nt' ?_
  refine sr ?_
  refine wv (fun W hm => rv_field Try.underlying169 rfl Try.type167 (by decide) rfl rfl) ?_
  refine wv (fun W hm => rv_load Try.underlying167 rfl rfl (hm.boxCell (n := 2) (o := 2) rfl rfl)) ?_
  refine WM_call (χ := Value) (val := fun x => x) (js := fun x => [iOwn (tSl tyCond 183) [x] (laws_toCondS_m x0.Conds)]) (cl_fn cb212 rfl) (fun W hm => laws_toCondS_c W _ x0.Conds (hm.rdS0 r9) s_0.1) (Wd_none rfl) (by decide) (fun z20 => ?_)
  refine WM_form (n := 0) rfl ?_
  rintro A21 c22 rfl m23
  refine wv (fun W hm => rv_field Try.underlying125 rfl Try.type123 (by decide) rfl rfl) ?_
  refine WM_storeBox (p := p19) (o := 2) (cs := [.int .i64 x0.Id, .int .i64 x0.Tenant, .slice none 0 0, .slice none 0 0]) (cs' := [.int .i64 x0.Id, .int .i64 x0.Tenant, .slice A21 (laws_toCondS_m x0.Conds).length c22, .slice none 0 0]) (js := [iOwn (tSl tyCond 183) [.slice A21 (laws_toCondS_m x0.Conds).length c22] (laws_toCondS_m x0.Conds), iBox p18 125 [.int .i64 0, .int .i64 0, .slice none 0 0, .slice none 0 0], iBox p17 169 [.int .i64 x0.Id, .int .i64 x0.Tenant, .slice A6 x0.Conds.length c7, .slice A11 x0.Out.length c12]]) (fun W hm => (hm.pick [1, 0, 2, 3] (by decide))) Try.type123 rfl (Nat.le_of_ble_eq_true rfl) rfl rfl rfl rfl (Wd_none rfl) ?_
  refine nt' ?_
  refine sr ?_
  refine wv (fun W hm => rv_field Try.underlying169 rfl Try.type27 (by decide) rfl rfl) ?_
  refine wv (fun W hm => rv_load Try.underlying27 rfl rfl (hm.boxCell (n := 3) (o := 3) rfl rfl)) ?_
  refine WM_call (χ := Value) (val := fun x => x) (js := fun x => [iOwn (tSl tInt 3) [x] (laws_toIntS_m x0.Out)]) (cl_fn cb109 rfl) (fun W hm => laws_toIntS_c W _ x0.Out (hm.rdS0 r14) s_0.2) (Wd_none rfl) (by decide) (fun z25 => ?_)
  refine WM_form (n := 0) rfl ?_
  rintro A26 c27 rfl m28
  refine wv (fun W hm => rv_field Try.underlying125 rfl Try.type27 (by decide) rfl rfl) ?_
  refine WM_storeBox (p := p19) (o := 3) (cs := [.int .i64 x0.Id, .int .i64 x0.Tenant, .slice A21 (laws_toCondS_m x0.Conds).length c22, .slice none 0 0]) (cs' := [.int .i64 x0.Id, .int .i64 x0.Tenant, .slice A21 (laws_toCondS_m x0.Conds).length c22, .slice A26 (laws_toIntS_m x0.Out).length c27]) (js := [iOwn (tSl tInt 3) [.slice A26 (laws_toIntS_m x0.Out).length c27] (laws_toIntS_m x0.Out), iOwn (tSl tyCond 183) [.slice A21 (laws_toCondS_m x0.Conds).length c22] (laws_toCondS_m x0.Conds), iBox p18 125 [.int .i64 0, .int .i64 0, .slice none 0 0, .slice none 0 0], iBox p17 169 [.int .i64 x0.Id, .int .i64 x0.Tenant, .slice A6 x0.Conds.length c7, .slice A11 x0.Out.length c12]]) (fun W hm => (hm.pick [1, 0, 2, 3, 4] (by decide))) Try.type27 rfl (Nat.le_of_ble_eq_true rfl) rfl rfl rfl rfl (Wd_none rfl) ?_
  refine nt' ?_
  refine sr ?_
  refine wv (fun W hm => rv_loadN (cs := [.int .i64 x0.Id, .int .i64 x0.Tenant, .slice A21 (laws_toCondS_m x0.Conds).length c22, .slice A26 (laws_toIntS_m x0.Out).length c27]) Try.underlying125 Try.type125 rfl rfl (hm.boxCells (n := 0) rfl)) ?_
  refine WM_storeBox (p := p18) (o := 0) (cs := [.int .i64 0, .int .i64 0, .slice none 0 0, .slice none 0 0]) (cs' := [.int .i64 x0.Id, .int .i64 x0.Tenant, .slice A21 (laws_toCondS_m x0.Conds).length c22, .slice A26 (laws_toIntS_m x0.Out).length c27]) (js := [iBox p19 125 [.int .i64 x0.Id, .int .i64 x0.Tenant, .slice A21 (laws_toCondS_m x0.Conds).length c22, .slice A26 (laws_toIntS_m x0.Out).length c27], iOwn (tSl tInt 3) [.slice A26 (laws_toIntS_m x0.Out).length c27] (laws_toIntS_m x0.Out), iOwn (tSl tyCond 183) [.slice A21 (laws_toCondS_m x0.Conds).length c22] (laws_toCondS_m x0.Conds), iBox p17 169 [.int .i64 x0.Id, .int .i64 x0.Tenant, .slice A6 x0.Conds.length c7, .slice A11 x0.Out.length c12]]) (fun W hm => (hm.pick [3, 0, 1, 2, 4] (by decide))) Try.type125 rfl (Nat.le_of_ble_eq_true rfl) rfl rfl rfl rfl (Wd_none rfl) ?_
  refine nt' ?_
  refine CM_ret ?_
  refine QM_r1 rfl (RR_cell (n := 0) rfl rfl Try.underlying125 Try.type125 rfl) (fun W hm => ⟨[.int .i64 x0.Id, .int .i64 x0.Tenant, .slice A21 (laws_toCondS_m x0.Conds).length c22, .slice A26 (laws_toIntS_m x0.Out).length c27], ?_, ?_⟩)
  · first | rw [(show laws_toQuery_m x0 = (⟨x0.Id, x0.Tenant, (laws_toCondS_m x0.Conds), (laws_toIntS_m x0.Out)⟩ : DQuery) from by unfold laws_toQuery_m; exact rfl)] | rfl
  · rw [(show laws_toQuery_m x0 = (⟨x0.Id, x0.Tenant, (laws_toCondS_m x0.Conds), (laws_toIntS_m x0.Out)⟩ : DQuery) from by unfold laws_toQuery_m; exact rfl)]; exact Mem.join (is := [iOwn (tSl tyCond 183) [.slice A21 (laws_toCondS_m x0.Conds).length c22] (laws_toCondS_m x0.Conds), iOwn (tSl tInt 3) [.slice A26 (laws_toIntS_m x0.Out).length c27] (laws_toIntS_m x0.Out)]) (js := []) (fun _ _ hs => tyQuery_join (x := (⟨x0.Id, x0.Tenant, (laws_toCondS_m x0.Conds), (laws_toIntS_m x0.Out)⟩ : DQuery)) hs) (hm.pick [3, 2] (by decide))

def laws_toRow_m (x0 : DRow) : DRow :=
  (⟨x0.Id, (laws_toIntS_m x0.Values)⟩ : DRow)
set_option maxRecDepth 100000 in
theorem cb213 : Cb Try.prog 213 := ⟨Try.f213, _, Try.func213, rfl, by decide⟩
set_option maxRecDepth 10000 in
set_option maxHeartbeats 4000000 in
theorem laws_toRow_c (w : World) (z0 : List Value) (x0 : DRow) (r_0 : tyLRow.rd w w.heap.size z0 x0) (s_0 : smRow 68719476736 x0) :
    Calls Try.prog 213 #[.agg z0.toArray] w fun e w' => ∃ v : List Value, e = .returned (.agg v.toArray) ∧ Mem w.heap.size w [iOwn tyRow v (laws_toRow_m x0)] w' := by
  obtain ⟨v1, rfl, r2⟩ := tyLRow_rd r_0
  have r7 := r2
  obtain ⟨m3, A4, c5, rfl, q6⟩ := r2
  have l8 : x0.Values.length ≤ 68719476736 := s_0
  refine call_enterM (L := [(0, .agg #[.int .i64 x0.Id, .slice A4 x0.Values.length c5])]) (N := 12) Try.func213 rfl rfl (Nat.le_of_ble_eq_true rfl) (argsL_cons rfl argsL_nil) ?_
  refine sr ?_
  refine WM_box rfl (Wd_none rfl) (by decide) (fun p9 => ?_)
  refine WM_alloc Try.type29 rfl (Wd_none rfl) (by decide) (fun p10 => ?_)
  refine nt' ?_
  refine sr ?_
  refine WM_alloc Try.type29 rfl (Wd_none rfl) (by decide) (fun p11 => ?_)
  refine nt' ?_
  refine sr ?_
  refine wv (fun W hm => rv_field Try.underlying207 rfl Try.type3 (by decide) rfl rfl) ?_
  refine wv (fun W hm => rv_load Try.underlying3 rfl rfl (hm.boxCell (n := 2) (o := 0) rfl rfl)) ?_
  refine wv (fun W hm => rv_field Try.underlying29 rfl Try.type3 (by decide) rfl rfl) ?_
  refine WM_storeBox (p := p11) (o := 0) (cs := [.int .i64 0, .slice none 0 0]) (cs' := [.int .i64 x0.Id, .slice none 0 0]) (js := [iBox p10 29 [.int .i64 0, .slice none 0 0], iBox p9 207 [.int .i64 x0.Id, .slice A4 x0.Values.length c5]]) (fun W hm => hm) Try.type3 rfl (Nat.le_of_ble_eq_true rfl) rfl rfl rfl rfl (Wd_none rfl) ?_
  refine nt' ?_
  refine sr ?_
  refine wv (fun W hm => rv_field Try.underlying207 rfl Try.type27 (by decide) rfl rfl) ?_
  refine wv (fun W hm => rv_load Try.underlying27 rfl rfl (hm.boxCell (n := 2) (o := 1) rfl rfl)) ?_
  refine WM_call (χ := Value) (val := fun x => x) (js := fun x => [iOwn (tSl tInt 3) [x] (laws_toIntS_m x0.Values)]) (cl_fn cb109 rfl) (fun W hm => laws_toIntS_c W _ x0.Values (hm.rdS0 r7) s_0) (Wd_none rfl) (by decide) (fun z12 => ?_)
  refine WM_form (n := 0) rfl ?_
  rintro A13 c14 rfl m15
  refine wv (fun W hm => rv_field Try.underlying29 rfl Try.type27 (by decide) rfl rfl) ?_
  refine WM_storeBox (p := p11) (o := 1) (cs := [.int .i64 x0.Id, .slice none 0 0]) (cs' := [.int .i64 x0.Id, .slice A13 (laws_toIntS_m x0.Values).length c14]) (js := [iOwn (tSl tInt 3) [.slice A13 (laws_toIntS_m x0.Values).length c14] (laws_toIntS_m x0.Values), iBox p10 29 [.int .i64 0, .slice none 0 0], iBox p9 207 [.int .i64 x0.Id, .slice A4 x0.Values.length c5]]) (fun W hm => (hm.pick [1, 0, 2, 3] (by decide))) Try.type27 rfl (Nat.le_of_ble_eq_true rfl) rfl rfl rfl rfl (Wd_none rfl) ?_
  refine nt' ?_
  refine sr ?_
  refine wv (fun W hm => rv_loadN (cs := [.int .i64 x0.Id, .slice A13 (laws_toIntS_m x0.Values).length c14]) Try.underlying29 Try.type29 rfl rfl (hm.boxCells (n := 0) rfl)) ?_
  refine WM_storeBox (p := p10) (o := 0) (cs := [.int .i64 0, .slice none 0 0]) (cs' := [.int .i64 x0.Id, .slice A13 (laws_toIntS_m x0.Values).length c14]) (js := [iBox p11 29 [.int .i64 x0.Id, .slice A13 (laws_toIntS_m x0.Values).length c14], iOwn (tSl tInt 3) [.slice A13 (laws_toIntS_m x0.Values).length c14] (laws_toIntS_m x0.Values), iBox p9 207 [.int .i64 x0.Id, .slice A4 x0.Values.length c5]]) (fun W hm => (hm.pick [2, 0, 1, 3] (by decide))) Try.type29 rfl (Nat.le_of_ble_eq_true rfl) rfl rfl rfl rfl (Wd_none rfl) ?_
  refine nt' ?_
  refine CM_ret ?_
  refine QM_r1 rfl (RR_cell (n := 0) rfl rfl Try.underlying29 Try.type29 rfl) (fun W hm => ⟨[.int .i64 x0.Id, .slice A13 (laws_toIntS_m x0.Values).length c14], ?_, ?_⟩)
  · first | rw [(show laws_toRow_m x0 = (⟨x0.Id, (laws_toIntS_m x0.Values)⟩ : DRow) from by unfold laws_toRow_m; exact rfl)] | rfl
  · rw [(show laws_toRow_m x0 = (⟨x0.Id, (laws_toIntS_m x0.Values)⟩ : DRow) from by unfold laws_toRow_m; exact rfl)]; exact Mem.join (is := [iOwn (tSl tInt 3) [.slice A13 (laws_toIntS_m x0.Values).length c14] (laws_toIntS_m x0.Values)]) (js := []) (fun _ _ hs => tyRow_join (x := (⟨x0.Id, (laws_toIntS_m x0.Values)⟩ : DRow)) hs) (hm.pick [2] (by decide))

def laws_toRowS_b1 (x0 : (List DRow)) (k9 : Nat) (d10 : (List DRow)) : (List DRow) ⊕ ((List DRow)) :=
  Sum.inr (d10.set k9 (laws_toRow_m (gt x0 k9)))
def laws_toRowS_m (x0 : (List DRow)) : (List DRow) :=
  Sum.elim id (fun (s : (List DRow)) => s) (rng (R := (List DRow)) (fun k (s : (List DRow)) => laws_toRowS_b1 x0 k s) (x0.length - 0) 0 (List.replicate x0.length (⟨(0 : Int), []⟩ : DRow)))
set_option maxRecDepth 100000 in
theorem cb202 : Cb Try.prog 202 := ⟨Try.f202, _, Try.func202, rfl, by decide⟩
set_option maxRecDepth 10000 in
set_option maxHeartbeats 4000000 in
theorem laws_toRowS_c (w : World) (z0 : Value) (x0 : (List DRow)) (r_0 : rdS tyLRow w w.heap.size z0 x0) (s_0 : (x0.length ≤ 68719476736 ∧ ∀ y ∈ x0, smRow 68719476736 y)) :
    Calls Try.prog 202 #[z0] w fun e w' => ∃ v : Value, e = .returned (v) ∧ Mem w.heap.size w [iOwn (tSl tyRow 29) [v] (laws_toRowS_m x0)] w' := by
  have r5 := r_0
  obtain ⟨m1, A2, c3, rfl, q4⟩ := r_0
  have l6 : x0.length ≤ 68719476736 := s_0.1
  refine call_enterM (L := [(0, .slice A2 x0.length c3)]) (N := 23) Try.func202 rfl rfl (Nat.le_of_ble_eq_true rfl) (argsL_cons rfl argsL_nil) ?_
  refine sr ?_
  refine wa ?_
  refine nt' ?_
  refine sr ?_
  refine wm ?_
  refine wv (fun W hm => rv_len Try.underlying170 rfl) ?_
  refine WM_make (E := tyRow) (n := x0.length) (x0 := (⟨(0 : Int), []⟩ : DRow)) Try.underlying39 Try.type29 rfl rfl rfl (fun _ => ⟨[], [], _, _, rfl, rfl, tInt_own, own_nil⟩) rfl rfl (show x0.length * 32 ≤ 281474976710656 from by omega) (by omega) (Wd_none rfl) (by decide) (fun p7 => ?_)
  refine wa ?_
  refine nt' ?_
  refine CM_seq ?_
  refine sr ?_
  refine wa ?_
  refine nt' ?_
  refine CM_block ?_
  refine CM_loop (σ := Nat × ((List DRow)) × (Unit)) (fun s => [(0, .slice A2 x0.length c3), (3, .slice (some ⟨p7, 0, none⟩) x0.length x0.length), (4, .int .i64 ((s.1 : Nat) : Int))]) (fun s => [iOwn (tSl tyRow 29) [.slice (some ⟨p7, 0, none⟩) x0.length x0.length] s.2.1]) (fun s => s.1 ≤ x0.length ∧ rng (R := (List DRow)) (fun k (s : (List DRow)) => laws_toRowS_b1 x0 k s) (x0.length - s.1) s.1 s.2.1 = rng (R := (List DRow)) (fun k (s : (List DRow)) => laws_toRowS_b1 x0 k s) (x0.length - 0) 0 (List.replicate x0.length (⟨(0 : Int), []⟩ : DRow))) (fun s => x0.length - s.1) (0, (List.replicate x0.length (⟨(0 : Int), []⟩ : DRow)), ()) (subL_cons rfl (subL_cons rfl (subL_cons rfl subL_nil))) (fun W hm => hm) ⟨(by omega), rfl⟩ ?_
  rintro ⟨k9, d10, ⟨⟩⟩ H13
  obtain ⟨hk11, hF12⟩ : k9 ≤ x0.length ∧ rng (R := (List DRow)) (fun k (s : (List DRow)) => laws_toRowS_b1 x0 k s) (x0.length - k9) k9 d10 = rng (R := (List DRow)) (fun k (s : (List DRow)) => laws_toRowS_b1 x0 k s) (x0.length - 0) 0 (List.replicate x0.length (⟨(0 : Int), []⟩ : DRow)) := H13
  show CM Try.prog 23 _ _ _ _ [(0, .slice A2 x0.length c3), (3, .slice (some ⟨p7, 0, none⟩) x0.length x0.length), (4, .int .i64 ((k9 : Nat) : Int))] [iOwn (tSl tyRow 29) [.slice (some ⟨p7, 0, none⟩) x0.length x0.length] d10]
  refine CM_seq ?_
  refine sr ?_
  refine wm ?_
  refine wm ?_
  refine wv (fun W hm => rv_len Try.underlying170 rfl) ?_
  refine wv (fun W hm => rv_lss rfl rfl) ?_
  refine nt' ?_
  by_cases hl14 : k9 < x0.length
  · have g15 : (decide (((k9 : Nat) : Int) < ((x0.length : Nat) : Int))) = true := decide_eq_true (by omega)
    refine CM_condT rfl g15 ?_
    refine CM_skip ?_
    refine QM_then ?_
    refine CM_seq ?_
    refine CM_block ?_
    refine CM_region ?_
    refine wm ?_
    refine wm ?_
    refine wm ?_
    refine wm ?_
    obtain ⟨a16, rfl, hb17, he18⟩ := q4 (by omega)
    refine wv (fun W hm => rv_index (sz := 2) (k := k9) Try.underlying170 Try.type207 rfl rfl rfl (by omega)) ?_
    obtain ⟨_, e22, hc19⟩ := he18 k9 _ (gt_some (show k9 < x0.length from by omega))
    obtain ⟨v20, rfl, r21⟩ := tyLRow_rd e22
    have l23 : ((gt x0 k9).Values).length ≤ 68719476736 := (s_0.2 _ (gt_mem (show k9 < x0.length from by omega)))
    have r28 := r21
    obtain ⟨m24, A25, c26, rfl, q27⟩ := r21
    refine wv (fun W hm => rv_loadN (cs := [.int .i64 ((gt x0 k9).Id), .slice A25 ((gt x0 k9).Values).length c26]) Try.underlying207 Try.type207 rfl rfl (hm.elCells (show (a16.add (k9 * 2)).block < w.heap.size from by rw [add_block]; exact hb17.1) hc19)) ?_
    refine WM_call (χ := List Value) (val := fun x => .agg x.toArray) (js := fun x => [iOwn tyRow x (laws_toRow_m (gt x0 k9))]) (cl_fn cb213 rfl) (fun W hm => laws_toRow_c W _ (gt x0 k9) (tyLRow_mk (x := (gt x0 k9)) (hm.rdS0 r28)) (s_0.2 _ (gt_mem (show k9 < x0.length from by omega)))) (Wd_none rfl) (by decide) (fun z29 => ?_)
    refine WM_split (γ := Value) (js := fun g => [iOwn (tSl tInt 3) [g] ((laws_toRow_m (gt x0 k9)).Values)]) (C := fun g => z29 = [.int .i64 ((laws_toRow_m (gt x0 k9)).Id), g]) (fun _ _ h => tyRow_split h) ?_
    rintro v30 rfl
    refine WM_form (n := 0) rfl ?_
    rintro A31 c32 rfl m33
    refine wv (fun W hm => rv_index (sz := 2) (k := k9) Try.underlying39 Try.type29 rfl rfl rfl (by omega)) ?_
    refine WM_setEl (E := tyRow) (e := 29) (u := .agg #[.int .i64 ((laws_toRow_m (gt x0 k9)).Id), .slice A31 ((laws_toRow_m (gt x0 k9)).Values).length c32]) (k := k9) (p := p7) (n := x0.length) (xs := d10) (eis := [iOwn (tSl tInt 3) [.slice A31 ((laws_toRow_m (gt x0 k9)).Values).length c32] ((laws_toRow_m (gt x0 k9)).Values)]) (js := []) (yv := (laws_toRow_m (gt x0 k9))) (fun W hm => (hm.pick [1, 0] (by decide))) (fun _ _ hs => (tyRow_join (x := (laws_toRow_m (gt x0 k9))) hs)) rfl Try.type29 rfl (by omega) rfl rfl (Wd_none rfl) ?_
    refine WM_nil ?_
    refine QM_block_normal ?_
    refine QM_then ?_
    refine CM_region ?_
    refine wm ?_
    refine wv (fun W hm => rv_addN (p := k9) (q := 1) rfl rfl (by omega)) ?_
    refine wa ?_
    refine WM_nil ?_
    have hn35 := rng_next (R := (List DRow)) (body := (fun k (s : (List DRow)) => laws_toRowS_b1 x0 k s)) (k := k9) (s := d10) (s' := (d10.set k9 (laws_toRow_m (gt x0 k9)))) (show k9 < x0.length from by omega) (show laws_toRowS_b1 x0 k9 d10 = Sum.inr (d10.set k9 (laws_toRow_m (gt x0 k9))) from by unfold laws_toRowS_b1; exact rfl) hF12
    exact QM_round (k9 + 1, (d10.set k9 (laws_toRow_m (gt x0 k9))), ()) (subL_cons rfl (subL_cons rfl (subL_cons rfl subL_nil))) (fun W hm => hm) ⟨(by omega), hn35⟩ (show x0.length - (k9 + 1) < x0.length - k9 from by omega)
  · have g15 : (decide (((k9 : Nat) : Int) < ((x0.length : Nat) : Int))) = false := decide_eq_false (by omega)
    refine CM_condF rfl g15 ?_
    refine CM_exit ?_
    refine QM_then_exit ?_
    refine QM_then_exit ?_
    have hE36 : rng (R := (List DRow)) (fun k (s : (List DRow)) => laws_toRowS_b1 x0 k s) (x0.length - 0) 0 (List.replicate x0.length (⟨(0 : Int), []⟩ : DRow)) = Sum.inr d10 := rng_end hl14 hF12
    refine QM_block_hit ?_
    refine QM_then ?_
    refine sr ?_
    refine wm ?_
    refine wa ?_
    refine nt' ?_
    refine CM_ret ?_
    refine QM_r1 rfl (RR_tmp rfl) (fun W hm => ⟨.slice (some ⟨p7, 0, none⟩) x0.length x0.length, ?_, ?_⟩)
    · first | rw [(show laws_toRowS_m x0 = d10 from by unfold laws_toRowS_m; exact fin_inr hE36 (rfl))] | rfl
    · rw [(show laws_toRowS_m x0 = d10 from by unfold laws_toRowS_m; exact fin_inr hE36 (rfl))]; exact hm

def laws_toActive_m (x0 : DActive) : DActive :=
  (⟨(laws_toQuery_m x0.Query), x0.Time, (laws_toIntS_m x0.Todo), x0.Age, x0.Sent, x0.Cap, (laws_toRowS_m x0.Rows)⟩ : DActive)
set_option maxRecDepth 100000 in
theorem cb168 : Cb Try.prog 168 := ⟨Try.f168, _, Try.func168, rfl, by decide⟩
set_option maxRecDepth 10000 in
set_option maxHeartbeats 4000000 in
theorem laws_toActive_c (w : World) (z0 : List Value) (x0 : DActive) (r_0 : tyLActive.rd w w.heap.size z0 x0) (s_0 : smActive 68719476736 x0) :
    Calls Try.prog 168 #[.agg z0.toArray] w fun e w' => ∃ v : List Value, e = .returned (.agg v.toArray) ∧ Mem w.heap.size w [iOwn tyActive v (laws_toActive_m x0)] w' := by
  obtain ⟨v1, v3, v5, v7, rfl, r2, r4, r6, r8⟩ := tyLActive_rd r_0
  have r13 := r2
  obtain ⟨m9, A10, c11, rfl, q12⟩ := r2
  have r18 := r4
  obtain ⟨m14, A15, c16, rfl, q17⟩ := r4
  have r23 := r6
  obtain ⟨m19, A20, c21, rfl, q22⟩ := r6
  have r28 := r8
  obtain ⟨m24, A25, c26, rfl, q27⟩ := r8
  have l29 : x0.Query.Conds.length ≤ 68719476736 := s_0.1.1
  have l30 : x0.Query.Out.length ≤ 68719476736 := s_0.1.2
  have l31 : x0.Todo.length ≤ 68719476736 := s_0.2.1
  have l32 : x0.Rows.length ≤ 68719476736 := s_0.2.2.1
  refine call_enterM (L := [(0, .agg #[.int .i64 x0.Query.Id, .int .i64 x0.Query.Tenant, .slice A10 x0.Query.Conds.length c11, .slice A15 x0.Query.Out.length c16, .int .i64 x0.Time, .slice A20 x0.Todo.length c21, .int .i64 x0.Age, .int .i64 x0.Sent, .int .i64 x0.Cap, .slice A25 x0.Rows.length c26])]) (N := 29) Try.func168 rfl rfl (Nat.le_of_ble_eq_true rfl) (argsL_cons rfl argsL_nil) ?_
  refine sr ?_
  refine WM_box rfl (Wd_none rfl) (by decide) (fun p33 => ?_)
  refine WM_alloc Try.type127 rfl (Wd_none rfl) (by decide) (fun p34 => ?_)
  refine nt' ?_
  refine sr ?_
  refine WM_alloc Try.type127 rfl (Wd_none rfl) (by decide) (fun p35 => ?_)
  refine nt' ?_
  refine sr ?_
  refine wv (fun W hm => rv_field Try.underlying172 rfl Try.type169 (by decide) rfl rfl) ?_
  refine wv (fun W hm => rv_loadN (cs := [.int .i64 x0.Query.Id, .int .i64 x0.Query.Tenant, .slice A10 x0.Query.Conds.length c11, .slice A15 x0.Query.Out.length c16]) Try.underlying169 Try.type169 rfl rfl (hm.boxPart (n := 2) rfl rfl)) ?_
  refine WM_call (χ := List Value) (val := fun x => .agg x.toArray) (js := fun x => [iOwn tyQuery x (laws_toQuery_m x0.Query)]) (cl_fn cb201 rfl) (fun W hm => laws_toQuery_c W _ x0.Query (tyLQuery_mk (x := x0.Query) (hm.rdS0 r13) (hm.rdS0 r18)) s_0.1) (Wd_none rfl) (by decide) (fun z36 => ?_)
  refine WM_split (γ := Value × Value) (js := fun g => [iOwn (tSl tyCond 183) [g.1] ((laws_toQuery_m x0.Query).Conds), iOwn (tSl tInt 3) [g.2] ((laws_toQuery_m x0.Query).Out)]) (C := fun g => z36 = [.int .i64 ((laws_toQuery_m x0.Query).Id), .int .i64 ((laws_toQuery_m x0.Query).Tenant), g.1, g.2]) (fun _ _ h => tyQuery_split h) ?_
  rintro ⟨v37, v38⟩ rfl
  refine WM_form (n := 0) rfl ?_
  rintro A39 c40 rfl m41
  refine WM_form (n := 1) rfl ?_
  rintro A43 c44 rfl m45
  refine wv (fun W hm => rv_field Try.underlying127 rfl Try.type125 (by decide) rfl rfl) ?_
  refine WM_storeBox (p := p35) (o := 0) (cs := [.int .i64 0, .int .i64 0, .slice none 0 0, .slice none 0 0, .int .i64 0, .slice none 0 0, .int .i64 0, .int .i64 0, .int .i64 0, .slice none 0 0]) (cs' := [.int .i64 ((laws_toQuery_m x0.Query).Id), .int .i64 ((laws_toQuery_m x0.Query).Tenant), .slice A39 ((laws_toQuery_m x0.Query).Conds).length c40, .slice A43 ((laws_toQuery_m x0.Query).Out).length c44, .int .i64 0, .slice none 0 0, .int .i64 0, .int .i64 0, .int .i64 0, .slice none 0 0]) (js := [iOwn (tSl tyCond 183) [.slice A39 ((laws_toQuery_m x0.Query).Conds).length c40] ((laws_toQuery_m x0.Query).Conds), iOwn (tSl tInt 3) [.slice A43 ((laws_toQuery_m x0.Query).Out).length c44] ((laws_toQuery_m x0.Query).Out), iBox p34 127 [.int .i64 0, .int .i64 0, .slice none 0 0, .slice none 0 0, .int .i64 0, .slice none 0 0, .int .i64 0, .int .i64 0, .int .i64 0, .slice none 0 0], iBox p33 172 [.int .i64 x0.Query.Id, .int .i64 x0.Query.Tenant, .slice A10 x0.Query.Conds.length c11, .slice A15 x0.Query.Out.length c16, .int .i64 x0.Time, .slice A20 x0.Todo.length c21, .int .i64 x0.Age, .int .i64 x0.Sent, .int .i64 x0.Cap, .slice A25 x0.Rows.length c26]]) (fun W hm => (hm.pick [2, 0, 1, 3, 4] (by decide))) Try.type125 rfl (Nat.le_of_ble_eq_true rfl) rfl rfl rfl rfl (Wd_none rfl) ?_
  refine nt' ?_
  refine sr ?_
  refine wv (fun W hm => rv_field Try.underlying172 rfl Try.type3 (by decide) rfl rfl) ?_
  refine wv (fun W hm => rv_load Try.underlying3 rfl rfl (hm.boxCell (n := 4) (o := 4) rfl rfl)) ?_
  refine wv (fun W hm => rv_field Try.underlying127 rfl Try.type3 (by decide) rfl rfl) ?_
  refine WM_storeBox (p := p35) (o := 4) (cs := [.int .i64 ((laws_toQuery_m x0.Query).Id), .int .i64 ((laws_toQuery_m x0.Query).Tenant), .slice A39 ((laws_toQuery_m x0.Query).Conds).length c40, .slice A43 ((laws_toQuery_m x0.Query).Out).length c44, .int .i64 0, .slice none 0 0, .int .i64 0, .int .i64 0, .int .i64 0, .slice none 0 0]) (cs' := [.int .i64 ((laws_toQuery_m x0.Query).Id), .int .i64 ((laws_toQuery_m x0.Query).Tenant), .slice A39 ((laws_toQuery_m x0.Query).Conds).length c40, .slice A43 ((laws_toQuery_m x0.Query).Out).length c44, .int .i64 x0.Time, .slice none 0 0, .int .i64 0, .int .i64 0, .int .i64 0, .slice none 0 0]) (js := [iOwn (tSl tyCond 183) [.slice A39 ((laws_toQuery_m x0.Query).Conds).length c40] ((laws_toQuery_m x0.Query).Conds), iOwn (tSl tInt 3) [.slice A43 ((laws_toQuery_m x0.Query).Out).length c44] ((laws_toQuery_m x0.Query).Out), iBox p34 127 [.int .i64 0, .int .i64 0, .slice none 0 0, .slice none 0 0, .int .i64 0, .slice none 0 0, .int .i64 0, .int .i64 0, .int .i64 0, .slice none 0 0], iBox p33 172 [.int .i64 x0.Query.Id, .int .i64 x0.Query.Tenant, .slice A10 x0.Query.Conds.length c11, .slice A15 x0.Query.Out.length c16, .int .i64 x0.Time, .slice A20 x0.Todo.length c21, .int .i64 x0.Age, .int .i64 x0.Sent, .int .i64 x0.Cap, .slice A25 x0.Rows.length c26]]) (fun W hm => hm) Try.type3 rfl (Nat.le_of_ble_eq_true rfl) rfl rfl rfl rfl (Wd_none rfl) ?_
  refine nt' ?_
  refine sr ?_
  refine wv (fun W hm => rv_field Try.underlying172 rfl Try.type27 (by decide) rfl rfl) ?_
  refine wv (fun W hm => rv_load Try.underlying27 rfl rfl (hm.boxCell (n := 4) (o := 5) rfl rfl)) ?_
  refine WM_call (χ := Value) (val := fun x => x) (js := fun x => [iOwn (tSl tInt 3) [x] (laws_toIntS_m x0.Todo)]) (cl_fn cb109 rfl) (fun W hm => laws_toIntS_c W _ x0.Todo (hm.rdS0 r23) s_0.2.1) (Wd_none rfl) (by decide) (fun z47 => ?_)
  refine WM_form (n := 0) rfl ?_
  rintro A48 c49 rfl m50
  refine wv (fun W hm => rv_field Try.underlying127 rfl Try.type27 (by decide) rfl rfl) ?_
  refine WM_storeBox (p := p35) (o := 5) (cs := [.int .i64 ((laws_toQuery_m x0.Query).Id), .int .i64 ((laws_toQuery_m x0.Query).Tenant), .slice A39 ((laws_toQuery_m x0.Query).Conds).length c40, .slice A43 ((laws_toQuery_m x0.Query).Out).length c44, .int .i64 x0.Time, .slice none 0 0, .int .i64 0, .int .i64 0, .int .i64 0, .slice none 0 0]) (cs' := [.int .i64 ((laws_toQuery_m x0.Query).Id), .int .i64 ((laws_toQuery_m x0.Query).Tenant), .slice A39 ((laws_toQuery_m x0.Query).Conds).length c40, .slice A43 ((laws_toQuery_m x0.Query).Out).length c44, .int .i64 x0.Time, .slice A48 (laws_toIntS_m x0.Todo).length c49, .int .i64 0, .int .i64 0, .int .i64 0, .slice none 0 0]) (js := [iOwn (tSl tInt 3) [.slice A48 (laws_toIntS_m x0.Todo).length c49] (laws_toIntS_m x0.Todo), iOwn (tSl tyCond 183) [.slice A39 ((laws_toQuery_m x0.Query).Conds).length c40] ((laws_toQuery_m x0.Query).Conds), iOwn (tSl tInt 3) [.slice A43 ((laws_toQuery_m x0.Query).Out).length c44] ((laws_toQuery_m x0.Query).Out), iBox p34 127 [.int .i64 0, .int .i64 0, .slice none 0 0, .slice none 0 0, .int .i64 0, .slice none 0 0, .int .i64 0, .int .i64 0, .int .i64 0, .slice none 0 0], iBox p33 172 [.int .i64 x0.Query.Id, .int .i64 x0.Query.Tenant, .slice A10 x0.Query.Conds.length c11, .slice A15 x0.Query.Out.length c16, .int .i64 x0.Time, .slice A20 x0.Todo.length c21, .int .i64 x0.Age, .int .i64 x0.Sent, .int .i64 x0.Cap, .slice A25 x0.Rows.length c26]]) (fun W hm => (hm.pick [1, 0, 2, 3, 4, 5] (by decide))) Try.type27 rfl (Nat.le_of_ble_eq_true rfl) rfl rfl rfl rfl (Wd_none rfl) ?_
  refine nt' ?_
  refine sr ?_
  refine wv (fun W hm => rv_field Try.underlying172 rfl Try.type3 (by decide) rfl rfl) ?_
  refine wv (fun W hm => rv_load Try.underlying3 rfl rfl (hm.boxCell (n := 5) (o := 6) rfl rfl)) ?_
  refine wv (fun W hm => rv_field Try.underlying127 rfl Try.type3 (by decide) rfl rfl) ?_
  refine WM_storeBox (p := p35) (o := 6) (cs := [.int .i64 ((laws_toQuery_m x0.Query).Id), .int .i64 ((laws_toQuery_m x0.Query).Tenant), .slice A39 ((laws_toQuery_m x0.Query).Conds).length c40, .slice A43 ((laws_toQuery_m x0.Query).Out).length c44, .int .i64 x0.Time, .slice A48 (laws_toIntS_m x0.Todo).length c49, .int .i64 0, .int .i64 0, .int .i64 0, .slice none 0 0]) (cs' := [.int .i64 ((laws_toQuery_m x0.Query).Id), .int .i64 ((laws_toQuery_m x0.Query).Tenant), .slice A39 ((laws_toQuery_m x0.Query).Conds).length c40, .slice A43 ((laws_toQuery_m x0.Query).Out).length c44, .int .i64 x0.Time, .slice A48 (laws_toIntS_m x0.Todo).length c49, .int .i64 x0.Age, .int .i64 0, .int .i64 0, .slice none 0 0]) (js := [iOwn (tSl tInt 3) [.slice A48 (laws_toIntS_m x0.Todo).length c49] (laws_toIntS_m x0.Todo), iOwn (tSl tyCond 183) [.slice A39 ((laws_toQuery_m x0.Query).Conds).length c40] ((laws_toQuery_m x0.Query).Conds), iOwn (tSl tInt 3) [.slice A43 ((laws_toQuery_m x0.Query).Out).length c44] ((laws_toQuery_m x0.Query).Out), iBox p34 127 [.int .i64 0, .int .i64 0, .slice none 0 0, .slice none 0 0, .int .i64 0, .slice none 0 0, .int .i64 0, .int .i64 0, .int .i64 0, .slice none 0 0], iBox p33 172 [.int .i64 x0.Query.Id, .int .i64 x0.Query.Tenant, .slice A10 x0.Query.Conds.length c11, .slice A15 x0.Query.Out.length c16, .int .i64 x0.Time, .slice A20 x0.Todo.length c21, .int .i64 x0.Age, .int .i64 x0.Sent, .int .i64 x0.Cap, .slice A25 x0.Rows.length c26]]) (fun W hm => hm) Try.type3 rfl (Nat.le_of_ble_eq_true rfl) rfl rfl rfl rfl (Wd_none rfl) ?_
  refine nt' ?_
  refine sr ?_
  refine wv (fun W hm => rv_field Try.underlying172 rfl Try.type3 (by decide) rfl rfl) ?_
  refine wv (fun W hm => rv_load Try.underlying3 rfl rfl (hm.boxCell (n := 5) (o := 7) rfl rfl)) ?_
  refine wv (fun W hm => rv_field Try.underlying127 rfl Try.type3 (by decide) rfl rfl) ?_
  refine WM_storeBox (p := p35) (o := 7) (cs := [.int .i64 ((laws_toQuery_m x0.Query).Id), .int .i64 ((laws_toQuery_m x0.Query).Tenant), .slice A39 ((laws_toQuery_m x0.Query).Conds).length c40, .slice A43 ((laws_toQuery_m x0.Query).Out).length c44, .int .i64 x0.Time, .slice A48 (laws_toIntS_m x0.Todo).length c49, .int .i64 x0.Age, .int .i64 0, .int .i64 0, .slice none 0 0]) (cs' := [.int .i64 ((laws_toQuery_m x0.Query).Id), .int .i64 ((laws_toQuery_m x0.Query).Tenant), .slice A39 ((laws_toQuery_m x0.Query).Conds).length c40, .slice A43 ((laws_toQuery_m x0.Query).Out).length c44, .int .i64 x0.Time, .slice A48 (laws_toIntS_m x0.Todo).length c49, .int .i64 x0.Age, .int .i64 x0.Sent, .int .i64 0, .slice none 0 0]) (js := [iOwn (tSl tInt 3) [.slice A48 (laws_toIntS_m x0.Todo).length c49] (laws_toIntS_m x0.Todo), iOwn (tSl tyCond 183) [.slice A39 ((laws_toQuery_m x0.Query).Conds).length c40] ((laws_toQuery_m x0.Query).Conds), iOwn (tSl tInt 3) [.slice A43 ((laws_toQuery_m x0.Query).Out).length c44] ((laws_toQuery_m x0.Query).Out), iBox p34 127 [.int .i64 0, .int .i64 0, .slice none 0 0, .slice none 0 0, .int .i64 0, .slice none 0 0, .int .i64 0, .int .i64 0, .int .i64 0, .slice none 0 0], iBox p33 172 [.int .i64 x0.Query.Id, .int .i64 x0.Query.Tenant, .slice A10 x0.Query.Conds.length c11, .slice A15 x0.Query.Out.length c16, .int .i64 x0.Time, .slice A20 x0.Todo.length c21, .int .i64 x0.Age, .int .i64 x0.Sent, .int .i64 x0.Cap, .slice A25 x0.Rows.length c26]]) (fun W hm => hm) Try.type3 rfl (Nat.le_of_ble_eq_true rfl) rfl rfl rfl rfl (Wd_none rfl) ?_
  refine nt' ?_
  refine sr ?_
  refine wv (fun W hm => rv_field Try.underlying172 rfl Try.type3 (by decide) rfl rfl) ?_
  refine wv (fun W hm => rv_load Try.underlying3 rfl rfl (hm.boxCell (n := 5) (o := 8) rfl rfl)) ?_
  refine wv (fun W hm => rv_field Try.underlying127 rfl Try.type3 (by decide) rfl rfl) ?_
  refine WM_storeBox (p := p35) (o := 8) (cs := [.int .i64 ((laws_toQuery_m x0.Query).Id), .int .i64 ((laws_toQuery_m x0.Query).Tenant), .slice A39 ((laws_toQuery_m x0.Query).Conds).length c40, .slice A43 ((laws_toQuery_m x0.Query).Out).length c44, .int .i64 x0.Time, .slice A48 (laws_toIntS_m x0.Todo).length c49, .int .i64 x0.Age, .int .i64 x0.Sent, .int .i64 0, .slice none 0 0]) (cs' := [.int .i64 ((laws_toQuery_m x0.Query).Id), .int .i64 ((laws_toQuery_m x0.Query).Tenant), .slice A39 ((laws_toQuery_m x0.Query).Conds).length c40, .slice A43 ((laws_toQuery_m x0.Query).Out).length c44, .int .i64 x0.Time, .slice A48 (laws_toIntS_m x0.Todo).length c49, .int .i64 x0.Age, .int .i64 x0.Sent, .int .i64 x0.Cap, .slice none 0 0]) (js := [iOwn (tSl tInt 3) [.slice A48 (laws_toIntS_m x0.Todo).length c49] (laws_toIntS_m x0.Todo), iOwn (tSl tyCond 183) [.slice A39 ((laws_toQuery_m x0.Query).Conds).length c40] ((laws_toQuery_m x0.Query).Conds), iOwn (tSl tInt 3) [.slice A43 ((laws_toQuery_m x0.Query).Out).length c44] ((laws_toQuery_m x0.Query).Out), iBox p34 127 [.int .i64 0, .int .i64 0, .slice none 0 0, .slice none 0 0, .int .i64 0, .slice none 0 0, .int .i64 0, .int .i64 0, .int .i64 0, .slice none 0 0], iBox p33 172 [.int .i64 x0.Query.Id, .int .i64 x0.Query.Tenant, .slice A10 x0.Query.Conds.length c11, .slice A15 x0.Query.Out.length c16, .int .i64 x0.Time, .slice A20 x0.Todo.length c21, .int .i64 x0.Age, .int .i64 x0.Sent, .int .i64 x0.Cap, .slice A25 x0.Rows.length c26]]) (fun W hm => hm) Try.type3 rfl (Nat.le_of_ble_eq_true rfl) rfl rfl rfl rfl (Wd_none rfl) ?_
  refine nt' ?_
  refine sr ?_
  refine wv (fun W hm => rv_field Try.underlying172 rfl Try.type170 (by decide) rfl rfl) ?_
  refine wv (fun W hm => rv_load Try.underlying170 rfl rfl (hm.boxCell (n := 5) (o := 9) rfl rfl)) ?_
  refine WM_call (χ := Value) (val := fun x => x) (js := fun x => [iOwn (tSl tyRow 29) [x] (laws_toRowS_m x0.Rows)]) (cl_fn cb202 rfl) (fun W hm => laws_toRowS_c W _ x0.Rows (hm.rdS0 r28) s_0.2.2) (Wd_none rfl) (by decide) (fun z52 => ?_)
  refine WM_form (n := 0) rfl ?_
  rintro A53 c54 rfl m55
  refine wv (fun W hm => rv_field Try.underlying127 rfl Try.type39 (by decide) rfl rfl) ?_
  refine WM_storeBox (p := p35) (o := 9) (cs := [.int .i64 ((laws_toQuery_m x0.Query).Id), .int .i64 ((laws_toQuery_m x0.Query).Tenant), .slice A39 ((laws_toQuery_m x0.Query).Conds).length c40, .slice A43 ((laws_toQuery_m x0.Query).Out).length c44, .int .i64 x0.Time, .slice A48 (laws_toIntS_m x0.Todo).length c49, .int .i64 x0.Age, .int .i64 x0.Sent, .int .i64 x0.Cap, .slice none 0 0]) (cs' := [.int .i64 ((laws_toQuery_m x0.Query).Id), .int .i64 ((laws_toQuery_m x0.Query).Tenant), .slice A39 ((laws_toQuery_m x0.Query).Conds).length c40, .slice A43 ((laws_toQuery_m x0.Query).Out).length c44, .int .i64 x0.Time, .slice A48 (laws_toIntS_m x0.Todo).length c49, .int .i64 x0.Age, .int .i64 x0.Sent, .int .i64 x0.Cap, .slice A53 (laws_toRowS_m x0.Rows).length c54]) (js := [iOwn (tSl tyRow 29) [.slice A53 (laws_toRowS_m x0.Rows).length c54] (laws_toRowS_m x0.Rows), iOwn (tSl tInt 3) [.slice A48 (laws_toIntS_m x0.Todo).length c49] (laws_toIntS_m x0.Todo), iOwn (tSl tyCond 183) [.slice A39 ((laws_toQuery_m x0.Query).Conds).length c40] ((laws_toQuery_m x0.Query).Conds), iOwn (tSl tInt 3) [.slice A43 ((laws_toQuery_m x0.Query).Out).length c44] ((laws_toQuery_m x0.Query).Out), iBox p34 127 [.int .i64 0, .int .i64 0, .slice none 0 0, .slice none 0 0, .int .i64 0, .slice none 0 0, .int .i64 0, .int .i64 0, .int .i64 0, .slice none 0 0], iBox p33 172 [.int .i64 x0.Query.Id, .int .i64 x0.Query.Tenant, .slice A10 x0.Query.Conds.length c11, .slice A15 x0.Query.Out.length c16, .int .i64 x0.Time, .slice A20 x0.Todo.length c21, .int .i64 x0.Age, .int .i64 x0.Sent, .int .i64 x0.Cap, .slice A25 x0.Rows.length c26]]) (fun W hm => (hm.pick [1, 0, 2, 3, 4, 5, 6] (by decide))) Try.type39 rfl (Nat.le_of_ble_eq_true rfl) rfl rfl rfl rfl (Wd_none rfl) ?_
  refine nt' ?_
  refine sr ?_
  refine wv (fun W hm => rv_loadN (cs := [.int .i64 ((laws_toQuery_m x0.Query).Id), .int .i64 ((laws_toQuery_m x0.Query).Tenant), .slice A39 ((laws_toQuery_m x0.Query).Conds).length c40, .slice A43 ((laws_toQuery_m x0.Query).Out).length c44, .int .i64 x0.Time, .slice A48 (laws_toIntS_m x0.Todo).length c49, .int .i64 x0.Age, .int .i64 x0.Sent, .int .i64 x0.Cap, .slice A53 (laws_toRowS_m x0.Rows).length c54]) Try.underlying127 Try.type127 rfl rfl (hm.boxCells (n := 0) rfl)) ?_
  refine WM_storeBox (p := p34) (o := 0) (cs := [.int .i64 0, .int .i64 0, .slice none 0 0, .slice none 0 0, .int .i64 0, .slice none 0 0, .int .i64 0, .int .i64 0, .int .i64 0, .slice none 0 0]) (cs' := [.int .i64 ((laws_toQuery_m x0.Query).Id), .int .i64 ((laws_toQuery_m x0.Query).Tenant), .slice A39 ((laws_toQuery_m x0.Query).Conds).length c40, .slice A43 ((laws_toQuery_m x0.Query).Out).length c44, .int .i64 x0.Time, .slice A48 (laws_toIntS_m x0.Todo).length c49, .int .i64 x0.Age, .int .i64 x0.Sent, .int .i64 x0.Cap, .slice A53 (laws_toRowS_m x0.Rows).length c54]) (js := [iBox p35 127 [.int .i64 ((laws_toQuery_m x0.Query).Id), .int .i64 ((laws_toQuery_m x0.Query).Tenant), .slice A39 ((laws_toQuery_m x0.Query).Conds).length c40, .slice A43 ((laws_toQuery_m x0.Query).Out).length c44, .int .i64 x0.Time, .slice A48 (laws_toIntS_m x0.Todo).length c49, .int .i64 x0.Age, .int .i64 x0.Sent, .int .i64 x0.Cap, .slice A53 (laws_toRowS_m x0.Rows).length c54], iOwn (tSl tyRow 29) [.slice A53 (laws_toRowS_m x0.Rows).length c54] (laws_toRowS_m x0.Rows), iOwn (tSl tInt 3) [.slice A48 (laws_toIntS_m x0.Todo).length c49] (laws_toIntS_m x0.Todo), iOwn (tSl tyCond 183) [.slice A39 ((laws_toQuery_m x0.Query).Conds).length c40] ((laws_toQuery_m x0.Query).Conds), iOwn (tSl tInt 3) [.slice A43 ((laws_toQuery_m x0.Query).Out).length c44] ((laws_toQuery_m x0.Query).Out), iBox p33 172 [.int .i64 x0.Query.Id, .int .i64 x0.Query.Tenant, .slice A10 x0.Query.Conds.length c11, .slice A15 x0.Query.Out.length c16, .int .i64 x0.Time, .slice A20 x0.Todo.length c21, .int .i64 x0.Age, .int .i64 x0.Sent, .int .i64 x0.Cap, .slice A25 x0.Rows.length c26]]) (fun W hm => (hm.pick [5, 0, 1, 2, 3, 4, 6] (by decide))) Try.type127 rfl (Nat.le_of_ble_eq_true rfl) rfl rfl rfl rfl (Wd_none rfl) ?_
  refine nt' ?_
  refine CM_ret ?_
  refine QM_r1 rfl (RR_cell (n := 0) rfl rfl Try.underlying127 Try.type127 rfl) (fun W hm => ⟨[.int .i64 ((laws_toQuery_m x0.Query).Id), .int .i64 ((laws_toQuery_m x0.Query).Tenant), .slice A39 ((laws_toQuery_m x0.Query).Conds).length c40, .slice A43 ((laws_toQuery_m x0.Query).Out).length c44, .int .i64 x0.Time, .slice A48 (laws_toIntS_m x0.Todo).length c49, .int .i64 x0.Age, .int .i64 x0.Sent, .int .i64 x0.Cap, .slice A53 (laws_toRowS_m x0.Rows).length c54], ?_, ?_⟩)
  · first | rw [(show laws_toActive_m x0 = (⟨(laws_toQuery_m x0.Query), x0.Time, (laws_toIntS_m x0.Todo), x0.Age, x0.Sent, x0.Cap, (laws_toRowS_m x0.Rows)⟩ : DActive) from by unfold laws_toActive_m; exact rfl)] | rfl
  · rw [(show laws_toActive_m x0 = (⟨(laws_toQuery_m x0.Query), x0.Time, (laws_toIntS_m x0.Todo), x0.Age, x0.Sent, x0.Cap, (laws_toRowS_m x0.Rows)⟩ : DActive) from by unfold laws_toActive_m; exact rfl)]; exact Mem.join (is := [iOwn (tSl tyCond 183) [.slice A39 ((laws_toQuery_m x0.Query).Conds).length c40] ((laws_toQuery_m x0.Query).Conds), iOwn (tSl tInt 3) [.slice A43 ((laws_toQuery_m x0.Query).Out).length c44] ((laws_toQuery_m x0.Query).Out), iOwn (tSl tInt 3) [.slice A48 (laws_toIntS_m x0.Todo).length c49] (laws_toIntS_m x0.Todo), iOwn (tSl tyRow 29) [.slice A53 (laws_toRowS_m x0.Rows).length c54] (laws_toRowS_m x0.Rows)]) (js := []) (fun _ _ hs => tyActive_join (x := (⟨(laws_toQuery_m x0.Query), x0.Time, (laws_toIntS_m x0.Todo), x0.Age, x0.Sent, x0.Cap, (laws_toRowS_m x0.Rows)⟩ : DActive)) hs) (hm.pick [4, 5, 3, 2] (by decide))

def laws_toActiveS_b1 (x0 : (List DActive)) (k9 : Nat) (d10 : (List DActive)) : (List DActive) ⊕ ((List DActive)) :=
  Sum.inr (d10.set k9 (laws_toActive_m (gt x0 k9)))
def laws_toActiveS_m (x0 : (List DActive)) : (List DActive) :=
  Sum.elim id (fun (s : (List DActive)) => s) (rng (R := (List DActive)) (fun k (s : (List DActive)) => laws_toActiveS_b1 x0 k s) (x0.length - 0) 0 (List.replicate x0.length (⟨(⟨(0 : Int), (0 : Int), [], []⟩ : DQuery), (0 : Int), [], (0 : Int), (0 : Int), (0 : Int), []⟩ : DActive)))
set_option maxRecDepth 100000 in
theorem cb110 : Cb Try.prog 110 := ⟨Try.f110, _, Try.func110, rfl, by decide⟩
set_option maxRecDepth 10000 in
set_option maxHeartbeats 4000000 in
theorem laws_toActiveS_c (w : World) (z0 : Value) (x0 : (List DActive)) (r_0 : rdS tyLActive w w.heap.size z0 x0) (s_0 : (x0.length ≤ 68719476736 ∧ ∀ y ∈ x0, smActive 68719476736 y)) :
    Calls Try.prog 110 #[z0] w fun e w' => ∃ v : Value, e = .returned (v) ∧ Mem w.heap.size w [iOwn (tSl tyActive 127) [v] (laws_toActiveS_m x0)] w' := by
  have r5 := r_0
  obtain ⟨m1, A2, c3, rfl, q4⟩ := r_0
  have l6 : x0.length ≤ 68719476736 := s_0.1
  refine call_enterM (L := [(0, .slice A2 x0.length c3)]) (N := 23) Try.func110 rfl rfl (Nat.le_of_ble_eq_true rfl) (argsL_cons rfl argsL_nil) ?_
  refine sr ?_
  refine wa ?_
  refine nt' ?_
  refine sr ?_
  refine wm ?_
  refine wv (fun W hm => rv_len Try.underlying66 rfl) ?_
  refine WM_make (E := tyActive) (n := x0.length) (x0 := (⟨(⟨(0 : Int), (0 : Int), [], []⟩ : DQuery), (0 : Int), [], (0 : Int), (0 : Int), (0 : Int), []⟩ : DActive)) Try.underlying73 Try.type127 rfl rfl rfl (fun _ => ⟨[], [], _, _, rfl, rfl, ⟨[], [], _, _, rfl, rfl, tInt_own, ⟨[], [], _, _, rfl, rfl, tInt_own, ⟨[], [], _, _, rfl, rfl, own_nil, own_nil⟩⟩⟩, ⟨[], [], _, _, rfl, rfl, tInt_own, ⟨[], [], _, _, rfl, rfl, own_nil, ⟨[], [], _, _, rfl, rfl, tInt_own, ⟨[], [], _, _, rfl, rfl, tInt_own, ⟨[], [], _, _, rfl, rfl, tInt_own, own_nil⟩⟩⟩⟩⟩⟩) rfl rfl (show x0.length * 144 ≤ 281474976710656 from by omega) (by omega) (Wd_none rfl) (by decide) (fun p7 => ?_)
  refine wa ?_
  refine nt' ?_
  refine CM_seq ?_
  refine sr ?_
  refine wa ?_
  refine nt' ?_
  refine CM_block ?_
  refine CM_loop (σ := Nat × ((List DActive)) × (Unit)) (fun s => [(0, .slice A2 x0.length c3), (3, .slice (some ⟨p7, 0, none⟩) x0.length x0.length), (4, .int .i64 ((s.1 : Nat) : Int))]) (fun s => [iOwn (tSl tyActive 127) [.slice (some ⟨p7, 0, none⟩) x0.length x0.length] s.2.1]) (fun s => s.1 ≤ x0.length ∧ rng (R := (List DActive)) (fun k (s : (List DActive)) => laws_toActiveS_b1 x0 k s) (x0.length - s.1) s.1 s.2.1 = rng (R := (List DActive)) (fun k (s : (List DActive)) => laws_toActiveS_b1 x0 k s) (x0.length - 0) 0 (List.replicate x0.length (⟨(⟨(0 : Int), (0 : Int), [], []⟩ : DQuery), (0 : Int), [], (0 : Int), (0 : Int), (0 : Int), []⟩ : DActive))) (fun s => x0.length - s.1) (0, (List.replicate x0.length (⟨(⟨(0 : Int), (0 : Int), [], []⟩ : DQuery), (0 : Int), [], (0 : Int), (0 : Int), (0 : Int), []⟩ : DActive)), ()) (subL_cons rfl (subL_cons rfl (subL_cons rfl subL_nil))) (fun W hm => hm) ⟨(by omega), rfl⟩ ?_
  rintro ⟨k9, d10, ⟨⟩⟩ H13
  obtain ⟨hk11, hF12⟩ : k9 ≤ x0.length ∧ rng (R := (List DActive)) (fun k (s : (List DActive)) => laws_toActiveS_b1 x0 k s) (x0.length - k9) k9 d10 = rng (R := (List DActive)) (fun k (s : (List DActive)) => laws_toActiveS_b1 x0 k s) (x0.length - 0) 0 (List.replicate x0.length (⟨(⟨(0 : Int), (0 : Int), [], []⟩ : DQuery), (0 : Int), [], (0 : Int), (0 : Int), (0 : Int), []⟩ : DActive)) := H13
  show CM Try.prog 23 _ _ _ _ [(0, .slice A2 x0.length c3), (3, .slice (some ⟨p7, 0, none⟩) x0.length x0.length), (4, .int .i64 ((k9 : Nat) : Int))] [iOwn (tSl tyActive 127) [.slice (some ⟨p7, 0, none⟩) x0.length x0.length] d10]
  refine CM_seq ?_
  refine sr ?_
  refine wm ?_
  refine wm ?_
  refine wv (fun W hm => rv_len Try.underlying66 rfl) ?_
  refine wv (fun W hm => rv_lss rfl rfl) ?_
  refine nt' ?_
  by_cases hl14 : k9 < x0.length
  · have g15 : (decide (((k9 : Nat) : Int) < ((x0.length : Nat) : Int))) = true := decide_eq_true (by omega)
    refine CM_condT rfl g15 ?_
    refine CM_skip ?_
    refine QM_then ?_
    refine CM_seq ?_
    refine CM_block ?_
    refine CM_region ?_
    refine wm ?_
    refine wm ?_
    refine wm ?_
    refine wm ?_
    obtain ⟨a16, rfl, hb17, he18⟩ := q4 (by omega)
    refine wv (fun W hm => rv_index (sz := 10) (k := k9) Try.underlying66 Try.type172 rfl rfl rfl (by omega)) ?_
    obtain ⟨_, e28, hc19⟩ := he18 k9 _ (gt_some (show k9 < x0.length from by omega))
    obtain ⟨v20, v22, v24, v26, rfl, r21, r23, r25, r27⟩ := tyLActive_rd e28
    have l29 : ((gt x0 k9).Query.Conds).length ≤ 68719476736 := (s_0.2 _ (gt_mem (show k9 < x0.length from by omega))).1.1
    have l30 : ((gt x0 k9).Query.Out).length ≤ 68719476736 := (s_0.2 _ (gt_mem (show k9 < x0.length from by omega))).1.2
    have l31 : ((gt x0 k9).Todo).length ≤ 68719476736 := (s_0.2 _ (gt_mem (show k9 < x0.length from by omega))).2.1
    have l32 : ((gt x0 k9).Rows).length ≤ 68719476736 := (s_0.2 _ (gt_mem (show k9 < x0.length from by omega))).2.2.1
    have r37 := r21
    obtain ⟨m33, A34, c35, rfl, q36⟩ := r21
    have r42 := r23
    obtain ⟨m38, A39, c40, rfl, q41⟩ := r23
    have r47 := r25
    obtain ⟨m43, A44, c45, rfl, q46⟩ := r25
    have r52 := r27
    obtain ⟨m48, A49, c50, rfl, q51⟩ := r27
    refine wv (fun W hm => rv_loadN (cs := [.int .i64 ((gt x0 k9).Query.Id), .int .i64 ((gt x0 k9).Query.Tenant), .slice A34 ((gt x0 k9).Query.Conds).length c35, .slice A39 ((gt x0 k9).Query.Out).length c40, .int .i64 ((gt x0 k9).Time), .slice A44 ((gt x0 k9).Todo).length c45, .int .i64 ((gt x0 k9).Age), .int .i64 ((gt x0 k9).Sent), .int .i64 ((gt x0 k9).Cap), .slice A49 ((gt x0 k9).Rows).length c50]) Try.underlying172 Try.type172 rfl rfl (hm.elCells (show (a16.add (k9 * 10)).block < w.heap.size from by rw [add_block]; exact hb17.1) hc19)) ?_
    refine WM_call (χ := List Value) (val := fun x => .agg x.toArray) (js := fun x => [iOwn tyActive x (laws_toActive_m (gt x0 k9))]) (cl_fn cb168 rfl) (fun W hm => laws_toActive_c W _ (gt x0 k9) (tyLActive_mk (x := (gt x0 k9)) (hm.rdS0 r37) (hm.rdS0 r42) (hm.rdS0 r47) (hm.rdS0 r52)) (s_0.2 _ (gt_mem (show k9 < x0.length from by omega)))) (Wd_none rfl) (by decide) (fun z53 => ?_)
    refine WM_split (γ := Value × Value × Value × Value) (js := fun g => [iOwn (tSl tyCond 183) [g.1] ((laws_toActive_m (gt x0 k9)).Query.Conds), iOwn (tSl tInt 3) [g.2.1] ((laws_toActive_m (gt x0 k9)).Query.Out), iOwn (tSl tInt 3) [g.2.2.1] ((laws_toActive_m (gt x0 k9)).Todo), iOwn (tSl tyRow 29) [g.2.2.2] ((laws_toActive_m (gt x0 k9)).Rows)]) (C := fun g => z53 = [.int .i64 ((laws_toActive_m (gt x0 k9)).Query.Id), .int .i64 ((laws_toActive_m (gt x0 k9)).Query.Tenant), g.1, g.2.1, .int .i64 ((laws_toActive_m (gt x0 k9)).Time), g.2.2.1, .int .i64 ((laws_toActive_m (gt x0 k9)).Age), .int .i64 ((laws_toActive_m (gt x0 k9)).Sent), .int .i64 ((laws_toActive_m (gt x0 k9)).Cap), g.2.2.2]) (fun _ _ h => tyActive_split h) ?_
    rintro ⟨v54, v55, v56, v57⟩ rfl
    refine WM_form (n := 0) rfl ?_
    rintro A58 c59 rfl m60
    refine WM_form (n := 1) rfl ?_
    rintro A62 c63 rfl m64
    refine WM_form (n := 2) rfl ?_
    rintro A66 c67 rfl m68
    refine WM_form (n := 3) rfl ?_
    rintro A70 c71 rfl m72
    refine wv (fun W hm => rv_index (sz := 10) (k := k9) Try.underlying73 Try.type127 rfl rfl rfl (by omega)) ?_
    refine WM_setEl (E := tyActive) (e := 127) (u := .agg #[.int .i64 ((laws_toActive_m (gt x0 k9)).Query.Id), .int .i64 ((laws_toActive_m (gt x0 k9)).Query.Tenant), .slice A58 ((laws_toActive_m (gt x0 k9)).Query.Conds).length c59, .slice A62 ((laws_toActive_m (gt x0 k9)).Query.Out).length c63, .int .i64 ((laws_toActive_m (gt x0 k9)).Time), .slice A66 ((laws_toActive_m (gt x0 k9)).Todo).length c67, .int .i64 ((laws_toActive_m (gt x0 k9)).Age), .int .i64 ((laws_toActive_m (gt x0 k9)).Sent), .int .i64 ((laws_toActive_m (gt x0 k9)).Cap), .slice A70 ((laws_toActive_m (gt x0 k9)).Rows).length c71]) (k := k9) (p := p7) (n := x0.length) (xs := d10) (eis := [iOwn (tSl tyCond 183) [.slice A58 ((laws_toActive_m (gt x0 k9)).Query.Conds).length c59] ((laws_toActive_m (gt x0 k9)).Query.Conds), iOwn (tSl tInt 3) [.slice A62 ((laws_toActive_m (gt x0 k9)).Query.Out).length c63] ((laws_toActive_m (gt x0 k9)).Query.Out), iOwn (tSl tInt 3) [.slice A66 ((laws_toActive_m (gt x0 k9)).Todo).length c67] ((laws_toActive_m (gt x0 k9)).Todo), iOwn (tSl tyRow 29) [.slice A70 ((laws_toActive_m (gt x0 k9)).Rows).length c71] ((laws_toActive_m (gt x0 k9)).Rows)]) (js := []) (yv := (laws_toActive_m (gt x0 k9))) (fun W hm => (hm.pick [4, 0, 1, 2, 3] (by decide))) (fun _ _ hs => (tyActive_join (x := (laws_toActive_m (gt x0 k9))) hs)) rfl Try.type127 rfl (by omega) rfl rfl (Wd_none rfl) ?_
    refine WM_nil ?_
    refine QM_block_normal ?_
    refine QM_then ?_
    refine CM_region ?_
    refine wm ?_
    refine wv (fun W hm => rv_addN (p := k9) (q := 1) rfl rfl (by omega)) ?_
    refine wa ?_
    refine WM_nil ?_
    have hn74 := rng_next (R := (List DActive)) (body := (fun k (s : (List DActive)) => laws_toActiveS_b1 x0 k s)) (k := k9) (s := d10) (s' := (d10.set k9 (laws_toActive_m (gt x0 k9)))) (show k9 < x0.length from by omega) (show laws_toActiveS_b1 x0 k9 d10 = Sum.inr (d10.set k9 (laws_toActive_m (gt x0 k9))) from by unfold laws_toActiveS_b1; exact rfl) hF12
    exact QM_round (k9 + 1, (d10.set k9 (laws_toActive_m (gt x0 k9))), ()) (subL_cons rfl (subL_cons rfl (subL_cons rfl subL_nil))) (fun W hm => hm) ⟨(by omega), hn74⟩ (show x0.length - (k9 + 1) < x0.length - k9 from by omega)
  · have g15 : (decide (((k9 : Nat) : Int) < ((x0.length : Nat) : Int))) = false := decide_eq_false (by omega)
    refine CM_condF rfl g15 ?_
    refine CM_exit ?_
    refine QM_then_exit ?_
    refine QM_then_exit ?_
    have hE75 : rng (R := (List DActive)) (fun k (s : (List DActive)) => laws_toActiveS_b1 x0 k s) (x0.length - 0) 0 (List.replicate x0.length (⟨(⟨(0 : Int), (0 : Int), [], []⟩ : DQuery), (0 : Int), [], (0 : Int), (0 : Int), (0 : Int), []⟩ : DActive)) = Sum.inr d10 := rng_end hl14 hF12
    refine QM_block_hit ?_
    refine QM_then ?_
    refine sr ?_
    refine wm ?_
    refine wa ?_
    refine nt' ?_
    refine CM_ret ?_
    refine QM_r1 rfl (RR_tmp rfl) (fun W hm => ⟨.slice (some ⟨p7, 0, none⟩) x0.length x0.length, ?_, ?_⟩)
    · first | rw [(show laws_toActiveS_m x0 = d10 from by unfold laws_toActiveS_m; exact fin_inr hE75 (rfl))] | rfl
    · rw [(show laws_toActiveS_m x0 = d10 from by unfold laws_toActiveS_m; exact fin_inr hE75 (rfl))]; exact hm

def laws_toFinished_m (x0 : DFinished) : DFinished :=
  (⟨(laws_toQuery_m x0.Query), x0.Time, x0.Steps, (laws_toRowS_m x0.Rows)⟩ : DFinished)
set_option maxRecDepth 100000 in
theorem cb169 : Cb Try.prog 169 := ⟨Try.f169, _, Try.func169, rfl, by decide⟩
set_option maxRecDepth 10000 in
set_option maxHeartbeats 4000000 in
theorem laws_toFinished_c (w : World) (z0 : List Value) (x0 : DFinished) (r_0 : tyLFinished.rd w w.heap.size z0 x0) (s_0 : smFinished 68719476736 x0) :
    Calls Try.prog 169 #[.agg z0.toArray] w fun e w' => ∃ v : List Value, e = .returned (.agg v.toArray) ∧ Mem w.heap.size w [iOwn tyFinished v (laws_toFinished_m x0)] w' := by
  obtain ⟨v1, v3, v5, rfl, r2, r4, r6⟩ := tyLFinished_rd r_0
  have r11 := r2
  obtain ⟨m7, A8, c9, rfl, q10⟩ := r2
  have r16 := r4
  obtain ⟨m12, A13, c14, rfl, q15⟩ := r4
  have r21 := r6
  obtain ⟨m17, A18, c19, rfl, q20⟩ := r6
  have l22 : x0.Query.Conds.length ≤ 68719476736 := s_0.1.1
  have l23 : x0.Query.Out.length ≤ 68719476736 := s_0.1.2
  have l24 : x0.Rows.length ≤ 68719476736 := s_0.2.1
  refine call_enterM (L := [(0, .agg #[.int .i64 x0.Query.Id, .int .i64 x0.Query.Tenant, .slice A8 x0.Query.Conds.length c9, .slice A13 x0.Query.Out.length c14, .int .i64 x0.Time, .int .i64 x0.Steps, .slice A18 x0.Rows.length c19])]) (N := 19) Try.func169 rfl rfl (Nat.le_of_ble_eq_true rfl) (argsL_cons rfl argsL_nil) ?_
  refine sr ?_
  refine WM_box rfl (Wd_none rfl) (by decide) (fun p25 => ?_)
  refine WM_alloc Try.type136 rfl (Wd_none rfl) (by decide) (fun p26 => ?_)
  refine nt' ?_
  refine sr ?_
  refine WM_alloc Try.type136 rfl (Wd_none rfl) (by decide) (fun p27 => ?_)
  refine nt' ?_
  refine sr ?_
  refine wv (fun W hm => rv_field Try.underlying175 rfl Try.type169 (by decide) rfl rfl) ?_
  refine wv (fun W hm => rv_loadN (cs := [.int .i64 x0.Query.Id, .int .i64 x0.Query.Tenant, .slice A8 x0.Query.Conds.length c9, .slice A13 x0.Query.Out.length c14]) Try.underlying169 Try.type169 rfl rfl (hm.boxPart (n := 2) rfl rfl)) ?_
  refine WM_call (χ := List Value) (val := fun x => .agg x.toArray) (js := fun x => [iOwn tyQuery x (laws_toQuery_m x0.Query)]) (cl_fn cb201 rfl) (fun W hm => laws_toQuery_c W _ x0.Query (tyLQuery_mk (x := x0.Query) (hm.rdS0 r11) (hm.rdS0 r16)) s_0.1) (Wd_none rfl) (by decide) (fun z28 => ?_)
  refine WM_split (γ := Value × Value) (js := fun g => [iOwn (tSl tyCond 183) [g.1] ((laws_toQuery_m x0.Query).Conds), iOwn (tSl tInt 3) [g.2] ((laws_toQuery_m x0.Query).Out)]) (C := fun g => z28 = [.int .i64 ((laws_toQuery_m x0.Query).Id), .int .i64 ((laws_toQuery_m x0.Query).Tenant), g.1, g.2]) (fun _ _ h => tyQuery_split h) ?_
  rintro ⟨v29, v30⟩ rfl
  refine WM_form (n := 0) rfl ?_
  rintro A31 c32 rfl m33
  refine WM_form (n := 1) rfl ?_
  rintro A35 c36 rfl m37
  refine wv (fun W hm => rv_field Try.underlying136 rfl Try.type125 (by decide) rfl rfl) ?_
  refine WM_storeBox (p := p27) (o := 0) (cs := [.int .i64 0, .int .i64 0, .slice none 0 0, .slice none 0 0, .int .i64 0, .int .i64 0, .slice none 0 0]) (cs' := [.int .i64 ((laws_toQuery_m x0.Query).Id), .int .i64 ((laws_toQuery_m x0.Query).Tenant), .slice A31 ((laws_toQuery_m x0.Query).Conds).length c32, .slice A35 ((laws_toQuery_m x0.Query).Out).length c36, .int .i64 0, .int .i64 0, .slice none 0 0]) (js := [iOwn (tSl tyCond 183) [.slice A31 ((laws_toQuery_m x0.Query).Conds).length c32] ((laws_toQuery_m x0.Query).Conds), iOwn (tSl tInt 3) [.slice A35 ((laws_toQuery_m x0.Query).Out).length c36] ((laws_toQuery_m x0.Query).Out), iBox p26 136 [.int .i64 0, .int .i64 0, .slice none 0 0, .slice none 0 0, .int .i64 0, .int .i64 0, .slice none 0 0], iBox p25 175 [.int .i64 x0.Query.Id, .int .i64 x0.Query.Tenant, .slice A8 x0.Query.Conds.length c9, .slice A13 x0.Query.Out.length c14, .int .i64 x0.Time, .int .i64 x0.Steps, .slice A18 x0.Rows.length c19]]) (fun W hm => (hm.pick [2, 0, 1, 3, 4] (by decide))) Try.type125 rfl (Nat.le_of_ble_eq_true rfl) rfl rfl rfl rfl (Wd_none rfl) ?_
  refine nt' ?_
  refine sr ?_
  refine wv (fun W hm => rv_field Try.underlying175 rfl Try.type3 (by decide) rfl rfl) ?_
  refine wv (fun W hm => rv_load Try.underlying3 rfl rfl (hm.boxCell (n := 4) (o := 4) rfl rfl)) ?_
  refine wv (fun W hm => rv_field Try.underlying136 rfl Try.type3 (by decide) rfl rfl) ?_
  refine WM_storeBox (p := p27) (o := 4) (cs := [.int .i64 ((laws_toQuery_m x0.Query).Id), .int .i64 ((laws_toQuery_m x0.Query).Tenant), .slice A31 ((laws_toQuery_m x0.Query).Conds).length c32, .slice A35 ((laws_toQuery_m x0.Query).Out).length c36, .int .i64 0, .int .i64 0, .slice none 0 0]) (cs' := [.int .i64 ((laws_toQuery_m x0.Query).Id), .int .i64 ((laws_toQuery_m x0.Query).Tenant), .slice A31 ((laws_toQuery_m x0.Query).Conds).length c32, .slice A35 ((laws_toQuery_m x0.Query).Out).length c36, .int .i64 x0.Time, .int .i64 0, .slice none 0 0]) (js := [iOwn (tSl tyCond 183) [.slice A31 ((laws_toQuery_m x0.Query).Conds).length c32] ((laws_toQuery_m x0.Query).Conds), iOwn (tSl tInt 3) [.slice A35 ((laws_toQuery_m x0.Query).Out).length c36] ((laws_toQuery_m x0.Query).Out), iBox p26 136 [.int .i64 0, .int .i64 0, .slice none 0 0, .slice none 0 0, .int .i64 0, .int .i64 0, .slice none 0 0], iBox p25 175 [.int .i64 x0.Query.Id, .int .i64 x0.Query.Tenant, .slice A8 x0.Query.Conds.length c9, .slice A13 x0.Query.Out.length c14, .int .i64 x0.Time, .int .i64 x0.Steps, .slice A18 x0.Rows.length c19]]) (fun W hm => hm) Try.type3 rfl (Nat.le_of_ble_eq_true rfl) rfl rfl rfl rfl (Wd_none rfl) ?_
  refine nt' ?_
  refine sr ?_
  refine wv (fun W hm => rv_field Try.underlying175 rfl Try.type3 (by decide) rfl rfl) ?_
  refine wv (fun W hm => rv_load Try.underlying3 rfl rfl (hm.boxCell (n := 4) (o := 5) rfl rfl)) ?_
  refine wv (fun W hm => rv_field Try.underlying136 rfl Try.type3 (by decide) rfl rfl) ?_
  refine WM_storeBox (p := p27) (o := 5) (cs := [.int .i64 ((laws_toQuery_m x0.Query).Id), .int .i64 ((laws_toQuery_m x0.Query).Tenant), .slice A31 ((laws_toQuery_m x0.Query).Conds).length c32, .slice A35 ((laws_toQuery_m x0.Query).Out).length c36, .int .i64 x0.Time, .int .i64 0, .slice none 0 0]) (cs' := [.int .i64 ((laws_toQuery_m x0.Query).Id), .int .i64 ((laws_toQuery_m x0.Query).Tenant), .slice A31 ((laws_toQuery_m x0.Query).Conds).length c32, .slice A35 ((laws_toQuery_m x0.Query).Out).length c36, .int .i64 x0.Time, .int .i64 x0.Steps, .slice none 0 0]) (js := [iOwn (tSl tyCond 183) [.slice A31 ((laws_toQuery_m x0.Query).Conds).length c32] ((laws_toQuery_m x0.Query).Conds), iOwn (tSl tInt 3) [.slice A35 ((laws_toQuery_m x0.Query).Out).length c36] ((laws_toQuery_m x0.Query).Out), iBox p26 136 [.int .i64 0, .int .i64 0, .slice none 0 0, .slice none 0 0, .int .i64 0, .int .i64 0, .slice none 0 0], iBox p25 175 [.int .i64 x0.Query.Id, .int .i64 x0.Query.Tenant, .slice A8 x0.Query.Conds.length c9, .slice A13 x0.Query.Out.length c14, .int .i64 x0.Time, .int .i64 x0.Steps, .slice A18 x0.Rows.length c19]]) (fun W hm => hm) Try.type3 rfl (Nat.le_of_ble_eq_true rfl) rfl rfl rfl rfl (Wd_none rfl) ?_
  refine nt' ?_
  refine sr ?_
  refine wv (fun W hm => rv_field Try.underlying175 rfl Try.type170 (by decide) rfl rfl) ?_
  refine wv (fun W hm => rv_load Try.underlying170 rfl rfl (hm.boxCell (n := 4) (o := 6) rfl rfl)) ?_
  refine WM_call (χ := Value) (val := fun x => x) (js := fun x => [iOwn (tSl tyRow 29) [x] (laws_toRowS_m x0.Rows)]) (cl_fn cb202 rfl) (fun W hm => laws_toRowS_c W _ x0.Rows (hm.rdS0 r21) s_0.2) (Wd_none rfl) (by decide) (fun z39 => ?_)
  refine WM_form (n := 0) rfl ?_
  rintro A40 c41 rfl m42
  refine wv (fun W hm => rv_field Try.underlying136 rfl Try.type39 (by decide) rfl rfl) ?_
  refine WM_storeBox (p := p27) (o := 6) (cs := [.int .i64 ((laws_toQuery_m x0.Query).Id), .int .i64 ((laws_toQuery_m x0.Query).Tenant), .slice A31 ((laws_toQuery_m x0.Query).Conds).length c32, .slice A35 ((laws_toQuery_m x0.Query).Out).length c36, .int .i64 x0.Time, .int .i64 x0.Steps, .slice none 0 0]) (cs' := [.int .i64 ((laws_toQuery_m x0.Query).Id), .int .i64 ((laws_toQuery_m x0.Query).Tenant), .slice A31 ((laws_toQuery_m x0.Query).Conds).length c32, .slice A35 ((laws_toQuery_m x0.Query).Out).length c36, .int .i64 x0.Time, .int .i64 x0.Steps, .slice A40 (laws_toRowS_m x0.Rows).length c41]) (js := [iOwn (tSl tyRow 29) [.slice A40 (laws_toRowS_m x0.Rows).length c41] (laws_toRowS_m x0.Rows), iOwn (tSl tyCond 183) [.slice A31 ((laws_toQuery_m x0.Query).Conds).length c32] ((laws_toQuery_m x0.Query).Conds), iOwn (tSl tInt 3) [.slice A35 ((laws_toQuery_m x0.Query).Out).length c36] ((laws_toQuery_m x0.Query).Out), iBox p26 136 [.int .i64 0, .int .i64 0, .slice none 0 0, .slice none 0 0, .int .i64 0, .int .i64 0, .slice none 0 0], iBox p25 175 [.int .i64 x0.Query.Id, .int .i64 x0.Query.Tenant, .slice A8 x0.Query.Conds.length c9, .slice A13 x0.Query.Out.length c14, .int .i64 x0.Time, .int .i64 x0.Steps, .slice A18 x0.Rows.length c19]]) (fun W hm => (hm.pick [1, 0, 2, 3, 4, 5] (by decide))) Try.type39 rfl (Nat.le_of_ble_eq_true rfl) rfl rfl rfl rfl (Wd_none rfl) ?_
  refine nt' ?_
  refine sr ?_
  refine wv (fun W hm => rv_loadN (cs := [.int .i64 ((laws_toQuery_m x0.Query).Id), .int .i64 ((laws_toQuery_m x0.Query).Tenant), .slice A31 ((laws_toQuery_m x0.Query).Conds).length c32, .slice A35 ((laws_toQuery_m x0.Query).Out).length c36, .int .i64 x0.Time, .int .i64 x0.Steps, .slice A40 (laws_toRowS_m x0.Rows).length c41]) Try.underlying136 Try.type136 rfl rfl (hm.boxCells (n := 0) rfl)) ?_
  refine WM_storeBox (p := p26) (o := 0) (cs := [.int .i64 0, .int .i64 0, .slice none 0 0, .slice none 0 0, .int .i64 0, .int .i64 0, .slice none 0 0]) (cs' := [.int .i64 ((laws_toQuery_m x0.Query).Id), .int .i64 ((laws_toQuery_m x0.Query).Tenant), .slice A31 ((laws_toQuery_m x0.Query).Conds).length c32, .slice A35 ((laws_toQuery_m x0.Query).Out).length c36, .int .i64 x0.Time, .int .i64 x0.Steps, .slice A40 (laws_toRowS_m x0.Rows).length c41]) (js := [iBox p27 136 [.int .i64 ((laws_toQuery_m x0.Query).Id), .int .i64 ((laws_toQuery_m x0.Query).Tenant), .slice A31 ((laws_toQuery_m x0.Query).Conds).length c32, .slice A35 ((laws_toQuery_m x0.Query).Out).length c36, .int .i64 x0.Time, .int .i64 x0.Steps, .slice A40 (laws_toRowS_m x0.Rows).length c41], iOwn (tSl tyRow 29) [.slice A40 (laws_toRowS_m x0.Rows).length c41] (laws_toRowS_m x0.Rows), iOwn (tSl tyCond 183) [.slice A31 ((laws_toQuery_m x0.Query).Conds).length c32] ((laws_toQuery_m x0.Query).Conds), iOwn (tSl tInt 3) [.slice A35 ((laws_toQuery_m x0.Query).Out).length c36] ((laws_toQuery_m x0.Query).Out), iBox p25 175 [.int .i64 x0.Query.Id, .int .i64 x0.Query.Tenant, .slice A8 x0.Query.Conds.length c9, .slice A13 x0.Query.Out.length c14, .int .i64 x0.Time, .int .i64 x0.Steps, .slice A18 x0.Rows.length c19]]) (fun W hm => (hm.pick [4, 0, 1, 2, 3, 5] (by decide))) Try.type136 rfl (Nat.le_of_ble_eq_true rfl) rfl rfl rfl rfl (Wd_none rfl) ?_
  refine nt' ?_
  refine CM_ret ?_
  refine QM_r1 rfl (RR_cell (n := 0) rfl rfl Try.underlying136 Try.type136 rfl) (fun W hm => ⟨[.int .i64 ((laws_toQuery_m x0.Query).Id), .int .i64 ((laws_toQuery_m x0.Query).Tenant), .slice A31 ((laws_toQuery_m x0.Query).Conds).length c32, .slice A35 ((laws_toQuery_m x0.Query).Out).length c36, .int .i64 x0.Time, .int .i64 x0.Steps, .slice A40 (laws_toRowS_m x0.Rows).length c41], ?_, ?_⟩)
  · first | rw [(show laws_toFinished_m x0 = (⟨(laws_toQuery_m x0.Query), x0.Time, x0.Steps, (laws_toRowS_m x0.Rows)⟩ : DFinished) from by unfold laws_toFinished_m; exact rfl)] | rfl
  · rw [(show laws_toFinished_m x0 = (⟨(laws_toQuery_m x0.Query), x0.Time, x0.Steps, (laws_toRowS_m x0.Rows)⟩ : DFinished) from by unfold laws_toFinished_m; exact rfl)]; exact Mem.join (is := [iOwn (tSl tyCond 183) [.slice A31 ((laws_toQuery_m x0.Query).Conds).length c32] ((laws_toQuery_m x0.Query).Conds), iOwn (tSl tInt 3) [.slice A35 ((laws_toQuery_m x0.Query).Out).length c36] ((laws_toQuery_m x0.Query).Out), iOwn (tSl tyRow 29) [.slice A40 (laws_toRowS_m x0.Rows).length c41] (laws_toRowS_m x0.Rows)]) (js := []) (fun _ _ hs => tyFinished_join (x := (⟨(laws_toQuery_m x0.Query), x0.Time, x0.Steps, (laws_toRowS_m x0.Rows)⟩ : DFinished)) hs) (hm.pick [3, 4, 2] (by decide))

def laws_toFinishedS_b1 (x0 : (List DFinished)) (k9 : Nat) (d10 : (List DFinished)) : (List DFinished) ⊕ ((List DFinished)) :=
  Sum.inr (d10.set k9 (laws_toFinished_m (gt x0 k9)))
def laws_toFinishedS_m (x0 : (List DFinished)) : (List DFinished) :=
  Sum.elim id (fun (s : (List DFinished)) => s) (rng (R := (List DFinished)) (fun k (s : (List DFinished)) => laws_toFinishedS_b1 x0 k s) (x0.length - 0) 0 (List.replicate x0.length (⟨(⟨(0 : Int), (0 : Int), [], []⟩ : DQuery), (0 : Int), (0 : Int), []⟩ : DFinished)))
set_option maxRecDepth 100000 in
theorem cb111 : Cb Try.prog 111 := ⟨Try.f111, _, Try.func111, rfl, by decide⟩
set_option maxRecDepth 10000 in
set_option maxHeartbeats 4000000 in
theorem laws_toFinishedS_c (w : World) (z0 : Value) (x0 : (List DFinished)) (r_0 : rdS tyLFinished w w.heap.size z0 x0) (s_0 : (x0.length ≤ 68719476736 ∧ ∀ y ∈ x0, smFinished 68719476736 y)) :
    Calls Try.prog 111 #[z0] w fun e w' => ∃ v : Value, e = .returned (v) ∧ Mem w.heap.size w [iOwn (tSl tyFinished 136) [v] (laws_toFinishedS_m x0)] w' := by
  have r5 := r_0
  obtain ⟨m1, A2, c3, rfl, q4⟩ := r_0
  have l6 : x0.length ≤ 68719476736 := s_0.1
  refine call_enterM (L := [(0, .slice A2 x0.length c3)]) (N := 23) Try.func111 rfl rfl (Nat.le_of_ble_eq_true rfl) (argsL_cons rfl argsL_nil) ?_
  refine sr ?_
  refine wa ?_
  refine nt' ?_
  refine sr ?_
  refine wm ?_
  refine wv (fun W hm => rv_len Try.underlying67 rfl) ?_
  refine WM_make (E := tyFinished) (n := x0.length) (x0 := (⟨(⟨(0 : Int), (0 : Int), [], []⟩ : DQuery), (0 : Int), (0 : Int), []⟩ : DFinished)) Try.underlying74 Try.type136 rfl rfl rfl (fun _ => ⟨[], [], _, _, rfl, rfl, ⟨[], [], _, _, rfl, rfl, tInt_own, ⟨[], [], _, _, rfl, rfl, tInt_own, ⟨[], [], _, _, rfl, rfl, own_nil, own_nil⟩⟩⟩, ⟨[], [], _, _, rfl, rfl, tInt_own, ⟨[], [], _, _, rfl, rfl, tInt_own, own_nil⟩⟩⟩) rfl rfl (show x0.length * 104 ≤ 281474976710656 from by omega) (by omega) (Wd_none rfl) (by decide) (fun p7 => ?_)
  refine wa ?_
  refine nt' ?_
  refine CM_seq ?_
  refine sr ?_
  refine wa ?_
  refine nt' ?_
  refine CM_block ?_
  refine CM_loop (σ := Nat × ((List DFinished)) × (Unit)) (fun s => [(0, .slice A2 x0.length c3), (3, .slice (some ⟨p7, 0, none⟩) x0.length x0.length), (4, .int .i64 ((s.1 : Nat) : Int))]) (fun s => [iOwn (tSl tyFinished 136) [.slice (some ⟨p7, 0, none⟩) x0.length x0.length] s.2.1]) (fun s => s.1 ≤ x0.length ∧ rng (R := (List DFinished)) (fun k (s : (List DFinished)) => laws_toFinishedS_b1 x0 k s) (x0.length - s.1) s.1 s.2.1 = rng (R := (List DFinished)) (fun k (s : (List DFinished)) => laws_toFinishedS_b1 x0 k s) (x0.length - 0) 0 (List.replicate x0.length (⟨(⟨(0 : Int), (0 : Int), [], []⟩ : DQuery), (0 : Int), (0 : Int), []⟩ : DFinished))) (fun s => x0.length - s.1) (0, (List.replicate x0.length (⟨(⟨(0 : Int), (0 : Int), [], []⟩ : DQuery), (0 : Int), (0 : Int), []⟩ : DFinished)), ()) (subL_cons rfl (subL_cons rfl (subL_cons rfl subL_nil))) (fun W hm => hm) ⟨(by omega), rfl⟩ ?_
  rintro ⟨k9, d10, ⟨⟩⟩ H13
  obtain ⟨hk11, hF12⟩ : k9 ≤ x0.length ∧ rng (R := (List DFinished)) (fun k (s : (List DFinished)) => laws_toFinishedS_b1 x0 k s) (x0.length - k9) k9 d10 = rng (R := (List DFinished)) (fun k (s : (List DFinished)) => laws_toFinishedS_b1 x0 k s) (x0.length - 0) 0 (List.replicate x0.length (⟨(⟨(0 : Int), (0 : Int), [], []⟩ : DQuery), (0 : Int), (0 : Int), []⟩ : DFinished)) := H13
  show CM Try.prog 23 _ _ _ _ [(0, .slice A2 x0.length c3), (3, .slice (some ⟨p7, 0, none⟩) x0.length x0.length), (4, .int .i64 ((k9 : Nat) : Int))] [iOwn (tSl tyFinished 136) [.slice (some ⟨p7, 0, none⟩) x0.length x0.length] d10]
  refine CM_seq ?_
  refine sr ?_
  refine wm ?_
  refine wm ?_
  refine wv (fun W hm => rv_len Try.underlying67 rfl) ?_
  refine wv (fun W hm => rv_lss rfl rfl) ?_
  refine nt' ?_
  by_cases hl14 : k9 < x0.length
  · have g15 : (decide (((k9 : Nat) : Int) < ((x0.length : Nat) : Int))) = true := decide_eq_true (by omega)
    refine CM_condT rfl g15 ?_
    refine CM_skip ?_
    refine QM_then ?_
    refine CM_seq ?_
    refine CM_block ?_
    refine CM_region ?_
    refine wm ?_
    refine wm ?_
    refine wm ?_
    refine wm ?_
    obtain ⟨a16, rfl, hb17, he18⟩ := q4 (by omega)
    refine wv (fun W hm => rv_index (sz := 7) (k := k9) Try.underlying67 Try.type175 rfl rfl rfl (by omega)) ?_
    obtain ⟨_, e26, hc19⟩ := he18 k9 _ (gt_some (show k9 < x0.length from by omega))
    obtain ⟨v20, v22, v24, rfl, r21, r23, r25⟩ := tyLFinished_rd e26
    have l27 : ((gt x0 k9).Query.Conds).length ≤ 68719476736 := (s_0.2 _ (gt_mem (show k9 < x0.length from by omega))).1.1
    have l28 : ((gt x0 k9).Query.Out).length ≤ 68719476736 := (s_0.2 _ (gt_mem (show k9 < x0.length from by omega))).1.2
    have l29 : ((gt x0 k9).Rows).length ≤ 68719476736 := (s_0.2 _ (gt_mem (show k9 < x0.length from by omega))).2.1
    have r34 := r21
    obtain ⟨m30, A31, c32, rfl, q33⟩ := r21
    have r39 := r23
    obtain ⟨m35, A36, c37, rfl, q38⟩ := r23
    have r44 := r25
    obtain ⟨m40, A41, c42, rfl, q43⟩ := r25
    refine wv (fun W hm => rv_loadN (cs := [.int .i64 ((gt x0 k9).Query.Id), .int .i64 ((gt x0 k9).Query.Tenant), .slice A31 ((gt x0 k9).Query.Conds).length c32, .slice A36 ((gt x0 k9).Query.Out).length c37, .int .i64 ((gt x0 k9).Time), .int .i64 ((gt x0 k9).Steps), .slice A41 ((gt x0 k9).Rows).length c42]) Try.underlying175 Try.type175 rfl rfl (hm.elCells (show (a16.add (k9 * 7)).block < w.heap.size from by rw [add_block]; exact hb17.1) hc19)) ?_
    refine WM_call (χ := List Value) (val := fun x => .agg x.toArray) (js := fun x => [iOwn tyFinished x (laws_toFinished_m (gt x0 k9))]) (cl_fn cb169 rfl) (fun W hm => laws_toFinished_c W _ (gt x0 k9) (tyLFinished_mk (x := (gt x0 k9)) (hm.rdS0 r34) (hm.rdS0 r39) (hm.rdS0 r44)) (s_0.2 _ (gt_mem (show k9 < x0.length from by omega)))) (Wd_none rfl) (by decide) (fun z45 => ?_)
    refine WM_split (γ := Value × Value × Value) (js := fun g => [iOwn (tSl tyCond 183) [g.1] ((laws_toFinished_m (gt x0 k9)).Query.Conds), iOwn (tSl tInt 3) [g.2.1] ((laws_toFinished_m (gt x0 k9)).Query.Out), iOwn (tSl tyRow 29) [g.2.2] ((laws_toFinished_m (gt x0 k9)).Rows)]) (C := fun g => z45 = [.int .i64 ((laws_toFinished_m (gt x0 k9)).Query.Id), .int .i64 ((laws_toFinished_m (gt x0 k9)).Query.Tenant), g.1, g.2.1, .int .i64 ((laws_toFinished_m (gt x0 k9)).Time), .int .i64 ((laws_toFinished_m (gt x0 k9)).Steps), g.2.2]) (fun _ _ h => tyFinished_split h) ?_
    rintro ⟨v46, v47, v48⟩ rfl
    refine WM_form (n := 0) rfl ?_
    rintro A49 c50 rfl m51
    refine WM_form (n := 1) rfl ?_
    rintro A53 c54 rfl m55
    refine WM_form (n := 2) rfl ?_
    rintro A57 c58 rfl m59
    refine wv (fun W hm => rv_index (sz := 7) (k := k9) Try.underlying74 Try.type136 rfl rfl rfl (by omega)) ?_
    refine WM_setEl (E := tyFinished) (e := 136) (u := .agg #[.int .i64 ((laws_toFinished_m (gt x0 k9)).Query.Id), .int .i64 ((laws_toFinished_m (gt x0 k9)).Query.Tenant), .slice A49 ((laws_toFinished_m (gt x0 k9)).Query.Conds).length c50, .slice A53 ((laws_toFinished_m (gt x0 k9)).Query.Out).length c54, .int .i64 ((laws_toFinished_m (gt x0 k9)).Time), .int .i64 ((laws_toFinished_m (gt x0 k9)).Steps), .slice A57 ((laws_toFinished_m (gt x0 k9)).Rows).length c58]) (k := k9) (p := p7) (n := x0.length) (xs := d10) (eis := [iOwn (tSl tyCond 183) [.slice A49 ((laws_toFinished_m (gt x0 k9)).Query.Conds).length c50] ((laws_toFinished_m (gt x0 k9)).Query.Conds), iOwn (tSl tInt 3) [.slice A53 ((laws_toFinished_m (gt x0 k9)).Query.Out).length c54] ((laws_toFinished_m (gt x0 k9)).Query.Out), iOwn (tSl tyRow 29) [.slice A57 ((laws_toFinished_m (gt x0 k9)).Rows).length c58] ((laws_toFinished_m (gt x0 k9)).Rows)]) (js := []) (yv := (laws_toFinished_m (gt x0 k9))) (fun W hm => (hm.pick [3, 0, 1, 2] (by decide))) (fun _ _ hs => (tyFinished_join (x := (laws_toFinished_m (gt x0 k9))) hs)) rfl Try.type136 rfl (by omega) rfl rfl (Wd_none rfl) ?_
    refine WM_nil ?_
    refine QM_block_normal ?_
    refine QM_then ?_
    refine CM_region ?_
    refine wm ?_
    refine wv (fun W hm => rv_addN (p := k9) (q := 1) rfl rfl (by omega)) ?_
    refine wa ?_
    refine WM_nil ?_
    have hn61 := rng_next (R := (List DFinished)) (body := (fun k (s : (List DFinished)) => laws_toFinishedS_b1 x0 k s)) (k := k9) (s := d10) (s' := (d10.set k9 (laws_toFinished_m (gt x0 k9)))) (show k9 < x0.length from by omega) (show laws_toFinishedS_b1 x0 k9 d10 = Sum.inr (d10.set k9 (laws_toFinished_m (gt x0 k9))) from by unfold laws_toFinishedS_b1; exact rfl) hF12
    exact QM_round (k9 + 1, (d10.set k9 (laws_toFinished_m (gt x0 k9))), ()) (subL_cons rfl (subL_cons rfl (subL_cons rfl subL_nil))) (fun W hm => hm) ⟨(by omega), hn61⟩ (show x0.length - (k9 + 1) < x0.length - k9 from by omega)
  · have g15 : (decide (((k9 : Nat) : Int) < ((x0.length : Nat) : Int))) = false := decide_eq_false (by omega)
    refine CM_condF rfl g15 ?_
    refine CM_exit ?_
    refine QM_then_exit ?_
    refine QM_then_exit ?_
    have hE62 : rng (R := (List DFinished)) (fun k (s : (List DFinished)) => laws_toFinishedS_b1 x0 k s) (x0.length - 0) 0 (List.replicate x0.length (⟨(⟨(0 : Int), (0 : Int), [], []⟩ : DQuery), (0 : Int), (0 : Int), []⟩ : DFinished)) = Sum.inr d10 := rng_end hl14 hF12
    refine QM_block_hit ?_
    refine QM_then ?_
    refine sr ?_
    refine wm ?_
    refine wa ?_
    refine nt' ?_
    refine CM_ret ?_
    refine QM_r1 rfl (RR_tmp rfl) (fun W hm => ⟨.slice (some ⟨p7, 0, none⟩) x0.length x0.length, ?_, ?_⟩)
    · first | rw [(show laws_toFinishedS_m x0 = d10 from by unfold laws_toFinishedS_m; exact fin_inr hE62 (rfl))] | rfl
    · rw [(show laws_toFinishedS_m x0 = d10 from by unfold laws_toFinishedS_m; exact fin_inr hE62 (rfl))]; exact hm

def laws_toCharge_m (x0 : DCharge) : DCharge :=
  (⟨x0.Segment, x0.Base, (laws_toIntS_m x0.Ids), (laws_toIntS_m x0.Tenants), (laws_toIntS_m x0.Rows)⟩ : DCharge)
set_option maxRecDepth 100000 in
theorem cb170 : Cb Try.prog 170 := ⟨Try.f170, _, Try.func170, rfl, by decide⟩
set_option maxRecDepth 10000 in
set_option maxHeartbeats 4000000 in
theorem laws_toCharge_c (w : World) (z0 : List Value) (x0 : DCharge) (r_0 : tyLCharge.rd w w.heap.size z0 x0) (s_0 : smCharge 68719476736 x0) :
    Calls Try.prog 170 #[.agg z0.toArray] w fun e w' => ∃ v : List Value, e = .returned (.agg v.toArray) ∧ Mem w.heap.size w [iOwn tyCharge v (laws_toCharge_m x0)] w' := by
  obtain ⟨v1, v3, v5, rfl, r2, r4, r6⟩ := tyLCharge_rd r_0
  have r11 := r2
  obtain ⟨m7, A8, c9, rfl, q10⟩ := r2
  have r16 := r4
  obtain ⟨m12, A13, c14, rfl, q15⟩ := r4
  have r21 := r6
  obtain ⟨m17, A18, c19, rfl, q20⟩ := r6
  have l22 : x0.Ids.length ≤ 68719476736 := s_0.1
  have l23 : x0.Tenants.length ≤ 68719476736 := s_0.2.1
  have l24 : x0.Rows.length ≤ 68719476736 := s_0.2.2
  refine call_enterM (L := [(0, .agg #[.int .i64 x0.Segment, .int .i64 x0.Base, .slice A8 x0.Ids.length c9, .slice A13 x0.Tenants.length c14, .slice A18 x0.Rows.length c19])]) (N := 23) Try.func170 rfl rfl (Nat.le_of_ble_eq_true rfl) (argsL_cons rfl argsL_nil) ?_
  refine sr ?_
  refine WM_box rfl (Wd_none rfl) (by decide) (fun p25 => ?_)
  refine WM_alloc Try.type140 rfl (Wd_none rfl) (by decide) (fun p26 => ?_)
  refine nt' ?_
  refine sr ?_
  refine WM_alloc Try.type140 rfl (Wd_none rfl) (by decide) (fun p27 => ?_)
  refine nt' ?_
  refine sr ?_
  refine wv (fun W hm => rv_field Try.underlying177 rfl Try.type3 (by decide) rfl rfl) ?_
  refine wv (fun W hm => rv_load Try.underlying3 rfl rfl (hm.boxCell (n := 2) (o := 0) rfl rfl)) ?_
  refine wv (fun W hm => rv_field Try.underlying140 rfl Try.type3 (by decide) rfl rfl) ?_
  refine WM_storeBox (p := p27) (o := 0) (cs := [.int .i64 0, .int .i64 0, .slice none 0 0, .slice none 0 0, .slice none 0 0]) (cs' := [.int .i64 x0.Segment, .int .i64 0, .slice none 0 0, .slice none 0 0, .slice none 0 0]) (js := [iBox p26 140 [.int .i64 0, .int .i64 0, .slice none 0 0, .slice none 0 0, .slice none 0 0], iBox p25 177 [.int .i64 x0.Segment, .int .i64 x0.Base, .slice A8 x0.Ids.length c9, .slice A13 x0.Tenants.length c14, .slice A18 x0.Rows.length c19]]) (fun W hm => hm) Try.type3 rfl (Nat.le_of_ble_eq_true rfl) rfl rfl rfl rfl (Wd_none rfl) ?_
  refine nt' ?_
  refine sr ?_
  refine wv (fun W hm => rv_field Try.underlying177 rfl Try.type3 (by decide) rfl rfl) ?_
  refine wv (fun W hm => rv_load Try.underlying3 rfl rfl (hm.boxCell (n := 2) (o := 1) rfl rfl)) ?_
  refine wv (fun W hm => rv_field Try.underlying140 rfl Try.type3 (by decide) rfl rfl) ?_
  refine WM_storeBox (p := p27) (o := 1) (cs := [.int .i64 x0.Segment, .int .i64 0, .slice none 0 0, .slice none 0 0, .slice none 0 0]) (cs' := [.int .i64 x0.Segment, .int .i64 x0.Base, .slice none 0 0, .slice none 0 0, .slice none 0 0]) (js := [iBox p26 140 [.int .i64 0, .int .i64 0, .slice none 0 0, .slice none 0 0, .slice none 0 0], iBox p25 177 [.int .i64 x0.Segment, .int .i64 x0.Base, .slice A8 x0.Ids.length c9, .slice A13 x0.Tenants.length c14, .slice A18 x0.Rows.length c19]]) (fun W hm => hm) Try.type3 rfl (Nat.le_of_ble_eq_true rfl) rfl rfl rfl rfl (Wd_none rfl) ?_
  refine nt' ?_
  refine sr ?_
  refine wv (fun W hm => rv_field Try.underlying177 rfl Try.type27 (by decide) rfl rfl) ?_
  refine wv (fun W hm => rv_load Try.underlying27 rfl rfl (hm.boxCell (n := 2) (o := 2) rfl rfl)) ?_
  refine WM_call (χ := Value) (val := fun x => x) (js := fun x => [iOwn (tSl tInt 3) [x] (laws_toIntS_m x0.Ids)]) (cl_fn cb109 rfl) (fun W hm => laws_toIntS_c W _ x0.Ids (hm.rdS0 r11) s_0.1) (Wd_none rfl) (by decide) (fun z28 => ?_)
  refine WM_form (n := 0) rfl ?_
  rintro A29 c30 rfl m31
  refine wv (fun W hm => rv_field Try.underlying140 rfl Try.type27 (by decide) rfl rfl) ?_
  refine WM_storeBox (p := p27) (o := 2) (cs := [.int .i64 x0.Segment, .int .i64 x0.Base, .slice none 0 0, .slice none 0 0, .slice none 0 0]) (cs' := [.int .i64 x0.Segment, .int .i64 x0.Base, .slice A29 (laws_toIntS_m x0.Ids).length c30, .slice none 0 0, .slice none 0 0]) (js := [iOwn (tSl tInt 3) [.slice A29 (laws_toIntS_m x0.Ids).length c30] (laws_toIntS_m x0.Ids), iBox p26 140 [.int .i64 0, .int .i64 0, .slice none 0 0, .slice none 0 0, .slice none 0 0], iBox p25 177 [.int .i64 x0.Segment, .int .i64 x0.Base, .slice A8 x0.Ids.length c9, .slice A13 x0.Tenants.length c14, .slice A18 x0.Rows.length c19]]) (fun W hm => (hm.pick [1, 0, 2, 3] (by decide))) Try.type27 rfl (Nat.le_of_ble_eq_true rfl) rfl rfl rfl rfl (Wd_none rfl) ?_
  refine nt' ?_
  refine sr ?_
  refine wv (fun W hm => rv_field Try.underlying177 rfl Try.type27 (by decide) rfl rfl) ?_
  refine wv (fun W hm => rv_load Try.underlying27 rfl rfl (hm.boxCell (n := 3) (o := 3) rfl rfl)) ?_
  refine WM_call (χ := Value) (val := fun x => x) (js := fun x => [iOwn (tSl tInt 3) [x] (laws_toIntS_m x0.Tenants)]) (cl_fn cb109 rfl) (fun W hm => laws_toIntS_c W _ x0.Tenants (hm.rdS0 r16) s_0.2.1) (Wd_none rfl) (by decide) (fun z33 => ?_)
  refine WM_form (n := 0) rfl ?_
  rintro A34 c35 rfl m36
  refine wv (fun W hm => rv_field Try.underlying140 rfl Try.type27 (by decide) rfl rfl) ?_
  refine WM_storeBox (p := p27) (o := 3) (cs := [.int .i64 x0.Segment, .int .i64 x0.Base, .slice A29 (laws_toIntS_m x0.Ids).length c30, .slice none 0 0, .slice none 0 0]) (cs' := [.int .i64 x0.Segment, .int .i64 x0.Base, .slice A29 (laws_toIntS_m x0.Ids).length c30, .slice A34 (laws_toIntS_m x0.Tenants).length c35, .slice none 0 0]) (js := [iOwn (tSl tInt 3) [.slice A34 (laws_toIntS_m x0.Tenants).length c35] (laws_toIntS_m x0.Tenants), iOwn (tSl tInt 3) [.slice A29 (laws_toIntS_m x0.Ids).length c30] (laws_toIntS_m x0.Ids), iBox p26 140 [.int .i64 0, .int .i64 0, .slice none 0 0, .slice none 0 0, .slice none 0 0], iBox p25 177 [.int .i64 x0.Segment, .int .i64 x0.Base, .slice A8 x0.Ids.length c9, .slice A13 x0.Tenants.length c14, .slice A18 x0.Rows.length c19]]) (fun W hm => (hm.pick [1, 0, 2, 3, 4] (by decide))) Try.type27 rfl (Nat.le_of_ble_eq_true rfl) rfl rfl rfl rfl (Wd_none rfl) ?_
  refine nt' ?_
  refine sr ?_
  refine wv (fun W hm => rv_field Try.underlying177 rfl Try.type27 (by decide) rfl rfl) ?_
  refine wv (fun W hm => rv_load Try.underlying27 rfl rfl (hm.boxCell (n := 4) (o := 4) rfl rfl)) ?_
  refine WM_call (χ := Value) (val := fun x => x) (js := fun x => [iOwn (tSl tInt 3) [x] (laws_toIntS_m x0.Rows)]) (cl_fn cb109 rfl) (fun W hm => laws_toIntS_c W _ x0.Rows (hm.rdS0 r21) s_0.2.2) (Wd_none rfl) (by decide) (fun z38 => ?_)
  refine WM_form (n := 0) rfl ?_
  rintro A39 c40 rfl m41
  refine wv (fun W hm => rv_field Try.underlying140 rfl Try.type27 (by decide) rfl rfl) ?_
  refine WM_storeBox (p := p27) (o := 4) (cs := [.int .i64 x0.Segment, .int .i64 x0.Base, .slice A29 (laws_toIntS_m x0.Ids).length c30, .slice A34 (laws_toIntS_m x0.Tenants).length c35, .slice none 0 0]) (cs' := [.int .i64 x0.Segment, .int .i64 x0.Base, .slice A29 (laws_toIntS_m x0.Ids).length c30, .slice A34 (laws_toIntS_m x0.Tenants).length c35, .slice A39 (laws_toIntS_m x0.Rows).length c40]) (js := [iOwn (tSl tInt 3) [.slice A39 (laws_toIntS_m x0.Rows).length c40] (laws_toIntS_m x0.Rows), iOwn (tSl tInt 3) [.slice A34 (laws_toIntS_m x0.Tenants).length c35] (laws_toIntS_m x0.Tenants), iOwn (tSl tInt 3) [.slice A29 (laws_toIntS_m x0.Ids).length c30] (laws_toIntS_m x0.Ids), iBox p26 140 [.int .i64 0, .int .i64 0, .slice none 0 0, .slice none 0 0, .slice none 0 0], iBox p25 177 [.int .i64 x0.Segment, .int .i64 x0.Base, .slice A8 x0.Ids.length c9, .slice A13 x0.Tenants.length c14, .slice A18 x0.Rows.length c19]]) (fun W hm => (hm.pick [1, 0, 2, 3, 4, 5] (by decide))) Try.type27 rfl (Nat.le_of_ble_eq_true rfl) rfl rfl rfl rfl (Wd_none rfl) ?_
  refine nt' ?_
  refine sr ?_
  refine wv (fun W hm => rv_loadN (cs := [.int .i64 x0.Segment, .int .i64 x0.Base, .slice A29 (laws_toIntS_m x0.Ids).length c30, .slice A34 (laws_toIntS_m x0.Tenants).length c35, .slice A39 (laws_toIntS_m x0.Rows).length c40]) Try.underlying140 Try.type140 rfl rfl (hm.boxCells (n := 0) rfl)) ?_
  refine WM_storeBox (p := p26) (o := 0) (cs := [.int .i64 0, .int .i64 0, .slice none 0 0, .slice none 0 0, .slice none 0 0]) (cs' := [.int .i64 x0.Segment, .int .i64 x0.Base, .slice A29 (laws_toIntS_m x0.Ids).length c30, .slice A34 (laws_toIntS_m x0.Tenants).length c35, .slice A39 (laws_toIntS_m x0.Rows).length c40]) (js := [iBox p27 140 [.int .i64 x0.Segment, .int .i64 x0.Base, .slice A29 (laws_toIntS_m x0.Ids).length c30, .slice A34 (laws_toIntS_m x0.Tenants).length c35, .slice A39 (laws_toIntS_m x0.Rows).length c40], iOwn (tSl tInt 3) [.slice A39 (laws_toIntS_m x0.Rows).length c40] (laws_toIntS_m x0.Rows), iOwn (tSl tInt 3) [.slice A34 (laws_toIntS_m x0.Tenants).length c35] (laws_toIntS_m x0.Tenants), iOwn (tSl tInt 3) [.slice A29 (laws_toIntS_m x0.Ids).length c30] (laws_toIntS_m x0.Ids), iBox p25 177 [.int .i64 x0.Segment, .int .i64 x0.Base, .slice A8 x0.Ids.length c9, .slice A13 x0.Tenants.length c14, .slice A18 x0.Rows.length c19]]) (fun W hm => (hm.pick [4, 0, 1, 2, 3, 5] (by decide))) Try.type140 rfl (Nat.le_of_ble_eq_true rfl) rfl rfl rfl rfl (Wd_none rfl) ?_
  refine nt' ?_
  refine CM_ret ?_
  refine QM_r1 rfl (RR_cell (n := 0) rfl rfl Try.underlying140 Try.type140 rfl) (fun W hm => ⟨[.int .i64 x0.Segment, .int .i64 x0.Base, .slice A29 (laws_toIntS_m x0.Ids).length c30, .slice A34 (laws_toIntS_m x0.Tenants).length c35, .slice A39 (laws_toIntS_m x0.Rows).length c40], ?_, ?_⟩)
  · first | rw [(show laws_toCharge_m x0 = (⟨x0.Segment, x0.Base, (laws_toIntS_m x0.Ids), (laws_toIntS_m x0.Tenants), (laws_toIntS_m x0.Rows)⟩ : DCharge) from by unfold laws_toCharge_m; exact rfl)] | rfl
  · rw [(show laws_toCharge_m x0 = (⟨x0.Segment, x0.Base, (laws_toIntS_m x0.Ids), (laws_toIntS_m x0.Tenants), (laws_toIntS_m x0.Rows)⟩ : DCharge) from by unfold laws_toCharge_m; exact rfl)]; exact Mem.join (is := [iOwn (tSl tInt 3) [.slice A29 (laws_toIntS_m x0.Ids).length c30] (laws_toIntS_m x0.Ids), iOwn (tSl tInt 3) [.slice A34 (laws_toIntS_m x0.Tenants).length c35] (laws_toIntS_m x0.Tenants), iOwn (tSl tInt 3) [.slice A39 (laws_toIntS_m x0.Rows).length c40] (laws_toIntS_m x0.Rows)]) (js := []) (fun _ _ hs => tyCharge_join (x := (⟨x0.Segment, x0.Base, (laws_toIntS_m x0.Ids), (laws_toIntS_m x0.Tenants), (laws_toIntS_m x0.Rows)⟩ : DCharge)) hs) (hm.pick [4, 3, 2] (by decide))

def laws_toChargeS_b1 (x0 : (List DCharge)) (k9 : Nat) (d10 : (List DCharge)) : (List DCharge) ⊕ ((List DCharge)) :=
  Sum.inr (d10.set k9 (laws_toCharge_m (gt x0 k9)))
def laws_toChargeS_m (x0 : (List DCharge)) : (List DCharge) :=
  Sum.elim id (fun (s : (List DCharge)) => s) (rng (R := (List DCharge)) (fun k (s : (List DCharge)) => laws_toChargeS_b1 x0 k s) (x0.length - 0) 0 (List.replicate x0.length (⟨(0 : Int), (0 : Int), [], [], []⟩ : DCharge)))
set_option maxRecDepth 100000 in
theorem cb112 : Cb Try.prog 112 := ⟨Try.f112, _, Try.func112, rfl, by decide⟩
set_option maxRecDepth 10000 in
set_option maxHeartbeats 4000000 in
theorem laws_toChargeS_c (w : World) (z0 : Value) (x0 : (List DCharge)) (r_0 : rdS tyLCharge w w.heap.size z0 x0) (s_0 : (x0.length ≤ 68719476736 ∧ ∀ y ∈ x0, smCharge 68719476736 y)) :
    Calls Try.prog 112 #[z0] w fun e w' => ∃ v : Value, e = .returned (v) ∧ Mem w.heap.size w [iOwn (tSl tyCharge 140) [v] (laws_toChargeS_m x0)] w' := by
  have r5 := r_0
  obtain ⟨m1, A2, c3, rfl, q4⟩ := r_0
  have l6 : x0.length ≤ 68719476736 := s_0.1
  refine call_enterM (L := [(0, .slice A2 x0.length c3)]) (N := 23) Try.func112 rfl rfl (Nat.le_of_ble_eq_true rfl) (argsL_cons rfl argsL_nil) ?_
  refine sr ?_
  refine wa ?_
  refine nt' ?_
  refine sr ?_
  refine wm ?_
  refine wv (fun W hm => rv_len Try.underlying68 rfl) ?_
  refine WM_make (E := tyCharge) (n := x0.length) (x0 := (⟨(0 : Int), (0 : Int), [], [], []⟩ : DCharge)) Try.underlying75 Try.type140 rfl rfl rfl (fun _ => ⟨[], [], _, _, rfl, rfl, tInt_own, ⟨[], [], _, _, rfl, rfl, tInt_own, ⟨[], [], _, _, rfl, rfl, own_nil, ⟨[], [], _, _, rfl, rfl, own_nil, own_nil⟩⟩⟩⟩) rfl rfl (show x0.length * 88 ≤ 281474976710656 from by omega) (by omega) (Wd_none rfl) (by decide) (fun p7 => ?_)
  refine wa ?_
  refine nt' ?_
  refine CM_seq ?_
  refine sr ?_
  refine wa ?_
  refine nt' ?_
  refine CM_block ?_
  refine CM_loop (σ := Nat × ((List DCharge)) × (Unit)) (fun s => [(0, .slice A2 x0.length c3), (3, .slice (some ⟨p7, 0, none⟩) x0.length x0.length), (4, .int .i64 ((s.1 : Nat) : Int))]) (fun s => [iOwn (tSl tyCharge 140) [.slice (some ⟨p7, 0, none⟩) x0.length x0.length] s.2.1]) (fun s => s.1 ≤ x0.length ∧ rng (R := (List DCharge)) (fun k (s : (List DCharge)) => laws_toChargeS_b1 x0 k s) (x0.length - s.1) s.1 s.2.1 = rng (R := (List DCharge)) (fun k (s : (List DCharge)) => laws_toChargeS_b1 x0 k s) (x0.length - 0) 0 (List.replicate x0.length (⟨(0 : Int), (0 : Int), [], [], []⟩ : DCharge))) (fun s => x0.length - s.1) (0, (List.replicate x0.length (⟨(0 : Int), (0 : Int), [], [], []⟩ : DCharge)), ()) (subL_cons rfl (subL_cons rfl (subL_cons rfl subL_nil))) (fun W hm => hm) ⟨(by omega), rfl⟩ ?_
  rintro ⟨k9, d10, ⟨⟩⟩ H13
  obtain ⟨hk11, hF12⟩ : k9 ≤ x0.length ∧ rng (R := (List DCharge)) (fun k (s : (List DCharge)) => laws_toChargeS_b1 x0 k s) (x0.length - k9) k9 d10 = rng (R := (List DCharge)) (fun k (s : (List DCharge)) => laws_toChargeS_b1 x0 k s) (x0.length - 0) 0 (List.replicate x0.length (⟨(0 : Int), (0 : Int), [], [], []⟩ : DCharge)) := H13
  show CM Try.prog 23 _ _ _ _ [(0, .slice A2 x0.length c3), (3, .slice (some ⟨p7, 0, none⟩) x0.length x0.length), (4, .int .i64 ((k9 : Nat) : Int))] [iOwn (tSl tyCharge 140) [.slice (some ⟨p7, 0, none⟩) x0.length x0.length] d10]
  refine CM_seq ?_
  refine sr ?_
  refine wm ?_
  refine wm ?_
  refine wv (fun W hm => rv_len Try.underlying68 rfl) ?_
  refine wv (fun W hm => rv_lss rfl rfl) ?_
  refine nt' ?_
  by_cases hl14 : k9 < x0.length
  · have g15 : (decide (((k9 : Nat) : Int) < ((x0.length : Nat) : Int))) = true := decide_eq_true (by omega)
    refine CM_condT rfl g15 ?_
    refine CM_skip ?_
    refine QM_then ?_
    refine CM_seq ?_
    refine CM_block ?_
    refine CM_region ?_
    refine wm ?_
    refine wm ?_
    refine wm ?_
    refine wm ?_
    obtain ⟨a16, rfl, hb17, he18⟩ := q4 (by omega)
    refine wv (fun W hm => rv_index (sz := 5) (k := k9) Try.underlying68 Try.type177 rfl rfl rfl (by omega)) ?_
    obtain ⟨_, e26, hc19⟩ := he18 k9 _ (gt_some (show k9 < x0.length from by omega))
    obtain ⟨v20, v22, v24, rfl, r21, r23, r25⟩ := tyLCharge_rd e26
    have l27 : ((gt x0 k9).Ids).length ≤ 68719476736 := (s_0.2 _ (gt_mem (show k9 < x0.length from by omega))).1
    have l28 : ((gt x0 k9).Tenants).length ≤ 68719476736 := (s_0.2 _ (gt_mem (show k9 < x0.length from by omega))).2.1
    have l29 : ((gt x0 k9).Rows).length ≤ 68719476736 := (s_0.2 _ (gt_mem (show k9 < x0.length from by omega))).2.2
    have r34 := r21
    obtain ⟨m30, A31, c32, rfl, q33⟩ := r21
    have r39 := r23
    obtain ⟨m35, A36, c37, rfl, q38⟩ := r23
    have r44 := r25
    obtain ⟨m40, A41, c42, rfl, q43⟩ := r25
    refine wv (fun W hm => rv_loadN (cs := [.int .i64 ((gt x0 k9).Segment), .int .i64 ((gt x0 k9).Base), .slice A31 ((gt x0 k9).Ids).length c32, .slice A36 ((gt x0 k9).Tenants).length c37, .slice A41 ((gt x0 k9).Rows).length c42]) Try.underlying177 Try.type177 rfl rfl (hm.elCells (show (a16.add (k9 * 5)).block < w.heap.size from by rw [add_block]; exact hb17.1) hc19)) ?_
    refine WM_call (χ := List Value) (val := fun x => .agg x.toArray) (js := fun x => [iOwn tyCharge x (laws_toCharge_m (gt x0 k9))]) (cl_fn cb170 rfl) (fun W hm => laws_toCharge_c W _ (gt x0 k9) (tyLCharge_mk (x := (gt x0 k9)) (hm.rdS0 r34) (hm.rdS0 r39) (hm.rdS0 r44)) (s_0.2 _ (gt_mem (show k9 < x0.length from by omega)))) (Wd_none rfl) (by decide) (fun z45 => ?_)
    refine WM_split (γ := Value × Value × Value) (js := fun g => [iOwn (tSl tInt 3) [g.1] ((laws_toCharge_m (gt x0 k9)).Ids), iOwn (tSl tInt 3) [g.2.1] ((laws_toCharge_m (gt x0 k9)).Tenants), iOwn (tSl tInt 3) [g.2.2] ((laws_toCharge_m (gt x0 k9)).Rows)]) (C := fun g => z45 = [.int .i64 ((laws_toCharge_m (gt x0 k9)).Segment), .int .i64 ((laws_toCharge_m (gt x0 k9)).Base), g.1, g.2.1, g.2.2]) (fun _ _ h => tyCharge_split h) ?_
    rintro ⟨v46, v47, v48⟩ rfl
    refine WM_form (n := 0) rfl ?_
    rintro A49 c50 rfl m51
    refine WM_form (n := 1) rfl ?_
    rintro A53 c54 rfl m55
    refine WM_form (n := 2) rfl ?_
    rintro A57 c58 rfl m59
    refine wv (fun W hm => rv_index (sz := 5) (k := k9) Try.underlying75 Try.type140 rfl rfl rfl (by omega)) ?_
    refine WM_setEl (E := tyCharge) (e := 140) (u := .agg #[.int .i64 ((laws_toCharge_m (gt x0 k9)).Segment), .int .i64 ((laws_toCharge_m (gt x0 k9)).Base), .slice A49 ((laws_toCharge_m (gt x0 k9)).Ids).length c50, .slice A53 ((laws_toCharge_m (gt x0 k9)).Tenants).length c54, .slice A57 ((laws_toCharge_m (gt x0 k9)).Rows).length c58]) (k := k9) (p := p7) (n := x0.length) (xs := d10) (eis := [iOwn (tSl tInt 3) [.slice A49 ((laws_toCharge_m (gt x0 k9)).Ids).length c50] ((laws_toCharge_m (gt x0 k9)).Ids), iOwn (tSl tInt 3) [.slice A53 ((laws_toCharge_m (gt x0 k9)).Tenants).length c54] ((laws_toCharge_m (gt x0 k9)).Tenants), iOwn (tSl tInt 3) [.slice A57 ((laws_toCharge_m (gt x0 k9)).Rows).length c58] ((laws_toCharge_m (gt x0 k9)).Rows)]) (js := []) (yv := (laws_toCharge_m (gt x0 k9))) (fun W hm => (hm.pick [3, 0, 1, 2] (by decide))) (fun _ _ hs => (tyCharge_join (x := (laws_toCharge_m (gt x0 k9))) hs)) rfl Try.type140 rfl (by omega) rfl rfl (Wd_none rfl) ?_
    refine WM_nil ?_
    refine QM_block_normal ?_
    refine QM_then ?_
    refine CM_region ?_
    refine wm ?_
    refine wv (fun W hm => rv_addN (p := k9) (q := 1) rfl rfl (by omega)) ?_
    refine wa ?_
    refine WM_nil ?_
    have hn61 := rng_next (R := (List DCharge)) (body := (fun k (s : (List DCharge)) => laws_toChargeS_b1 x0 k s)) (k := k9) (s := d10) (s' := (d10.set k9 (laws_toCharge_m (gt x0 k9)))) (show k9 < x0.length from by omega) (show laws_toChargeS_b1 x0 k9 d10 = Sum.inr (d10.set k9 (laws_toCharge_m (gt x0 k9))) from by unfold laws_toChargeS_b1; exact rfl) hF12
    exact QM_round (k9 + 1, (d10.set k9 (laws_toCharge_m (gt x0 k9))), ()) (subL_cons rfl (subL_cons rfl (subL_cons rfl subL_nil))) (fun W hm => hm) ⟨(by omega), hn61⟩ (show x0.length - (k9 + 1) < x0.length - k9 from by omega)
  · have g15 : (decide (((k9 : Nat) : Int) < ((x0.length : Nat) : Int))) = false := decide_eq_false (by omega)
    refine CM_condF rfl g15 ?_
    refine CM_exit ?_
    refine QM_then_exit ?_
    refine QM_then_exit ?_
    have hE62 : rng (R := (List DCharge)) (fun k (s : (List DCharge)) => laws_toChargeS_b1 x0 k s) (x0.length - 0) 0 (List.replicate x0.length (⟨(0 : Int), (0 : Int), [], [], []⟩ : DCharge)) = Sum.inr d10 := rng_end hl14 hF12
    refine QM_block_hit ?_
    refine QM_then ?_
    refine sr ?_
    refine wm ?_
    refine wa ?_
    refine nt' ?_
    refine CM_ret ?_
    refine QM_r1 rfl (RR_tmp rfl) (fun W hm => ⟨.slice (some ⟨p7, 0, none⟩) x0.length x0.length, ?_, ?_⟩)
    · first | rw [(show laws_toChargeS_m x0 = d10 from by unfold laws_toChargeS_m; exact fin_inr hE62 (rfl))] | rfl
    · rw [(show laws_toChargeS_m x0 = d10 from by unfold laws_toChargeS_m; exact fin_inr hE62 (rfl))]; exact hm

end Go.Proofs.Ytfjhiegahdknmaa
