/-
  Contracts of functions, printed by a program of ours.
-/
import Derived.Test.YtjcdginailhfmaaDat
namespace Go.Proofs.Ytjcdginailhfmaa
open Go.RowKit
def laws_szIntS_m (x0 : (List Int)) (x1 : Int) : Int :=
 cond (decide ((IntKind.i64.wrap (x1 - ((x0.length : Nat) : Int))) < 0)) (-1) (IntKind.i64.wrap (x1 - ((x0.length : Nat) : Int)))
set_option maxRecDepth 100000 in
theorem cb102 : Cb Try.prog 102 := ⟨Try.f102, _, Try.func102, rfl, by decide⟩
set_option maxRecDepth 10000 in
set_option maxHeartbeats 4000000 in
theorem laws_szIntS_c (w : World) (z0 : Value) (x0 : (List Int)) (x1 : Int) (r_0 : rdS tInt w w.heap.size z0 x0) :
  Calls Try.prog 102 #[z0, .int .i64 x1] w fun e w' => e = .returned (.int .i64 (laws_szIntS_m x0 x1)) ∧ Below w.heap.size w w' := by
 have r5 := r_0
 obtain ⟨m1, A2, c3, rfl, q4⟩ := r_0
 refine call_enterM (L := [(0, .slice A2 x0.length c3), (1, .int .i64 x1)]) (N := 12) Try.func102 rfl rfl (Nat.le_of_ble_eq_true rfl) (argsL_cons rfl (argsL_cons rfl argsL_nil)) ?_
 refine sr ?_
 refine wa ?_
 refine nt' ?_
 refine sr ?_
 refine wm ?_
 refine wm ?_
 refine wv (fun W hm => rv_len Try.underlying33 rfl) ?_
 refine wv (fun W hm => rv_sub rfl rfl) ?_
 refine wa ?_
 refine nt' ?_
 refine CM_seq ?_
 refine sr ?_
 refine wm ?_
 refine wv (fun W hm => rv_lss rfl rfl) ?_
 refine nt' ?_
 by_cases h6 : (IntKind.i64.wrap (x1 - ((x0.length : Nat) : Int))) < 0
 ·have g7 : (decide ((IntKind.i64.wrap (x1 - ((x0.length : Nat) : Int))) < 0)) = true := decide_eq_true h6
  refine CM_condT rfl g7 ?_
  refine sr ?_
  refine wa ?_
  refine nt' ?_
  refine CM_ret ?_
  refine QM_then_ret ?_
  exact QM_ret1 rfl rfl (fun W hm => ⟨ret_i (show laws_szIntS_m x0 x1 = (-1) from by unfold laws_szIntS_m; exact cond_t g7 (rfl)), hm.below⟩)
 ·have g7 : (decide ((IntKind.i64.wrap (x1 - ((x0.length : Nat) : Int))) < 0)) = false := decide_eq_false h6
  refine CM_condF rfl g7 ?_
  refine CM_skip ?_
  refine QM_then ?_
  refine sr ?_
  refine wm ?_
  refine wa ?_
  refine nt' ?_
  refine CM_ret ?_
  exact QM_ret1 rfl rfl (fun W hm => ⟨ret_i (show laws_szIntS_m x0 x1 = (IntKind.i64.wrap (x1 - ((x0.length : Nat) : Int))) from by unfold laws_szIntS_m; exact cond_f g7 (rfl)), hm.below⟩)

def laws_szVersion_m (x0 : DVersion) (x1 : Int) : Int :=
 cond (decide ((laws_szIntS_m x0.Values x1) < 0)) (-1) (laws_szIntS_m x0.Values x1)
set_option maxRecDepth 100000 in
theorem cb128 : Cb Try.prog 128 := ⟨Try.f128, _, Try.func128, rfl, by decide⟩
set_option maxRecDepth 10000 in
set_option maxHeartbeats 4000000 in
theorem laws_szVersion_c (w : World) (z0 : List Value) (x0 : DVersion) (x1 : Int) (r_0 : tyLVersion.rd w w.heap.size z0 x0) :
  Calls Try.prog 128 #[.agg z0.toArray, .int .i64 x1] w fun e w' => e = .returned (.int .i64 (laws_szVersion_m x0 x1)) ∧ Below w.heap.size w w' := by
 obtain ⟨v1, rfl, r2⟩ := tyLVersion_rd r_0
 have r7 := r2
 obtain ⟨m3, A4, c5, rfl, q6⟩ := r2
 refine call_enterM (L := [(0, .agg #[.int .i64 x0.Id, .slice A4 x0.Values.length c5, .int .i64 x0.Born, .int .i64 x0.Died]), (1, .int .i64 x1)]) (N := 12) Try.func128 rfl rfl (Nat.le_of_ble_eq_true rfl) (argsL_cons rfl (argsL_cons rfl argsL_nil)) ?_
 refine sr ?_
 refine WM_box rfl (Wd_none rfl) (by decide) (fun p8 => ?_)
 refine wa ?_
 refine nt' ?_
 refine sr ?_
 refine wv (fun W hm => rv_field Try.underlying146 rfl Try.type33 (by decide) rfl rfl) ?_
 refine wv (fun W hm => rv_load Try.underlying33 rfl rfl (hm.boxCell (n := 0) (o := 1) rfl rfl)) ?_
 refine wm ?_
 refine WM_callV (cl_fn cb102 rfl) (fun W hm => laws_szIntS_c W _ x0.Values x1 (hm.rdS0 r7)) (Wd_none rfl) (by decide) ?_
 refine wa ?_
 refine nt' ?_
 refine CM_seq ?_
 refine sr ?_
 refine wm ?_
 refine wv (fun W hm => rv_lss rfl rfl) ?_
 refine nt' ?_
 by_cases h9 : (laws_szIntS_m x0.Values x1) < 0
 ·have g10 : (decide ((laws_szIntS_m x0.Values x1) < 0)) = true := decide_eq_true h9
  refine CM_condT rfl g10 ?_
  refine sr ?_
  refine wa ?_
  refine nt' ?_
  refine CM_ret ?_
  refine QM_then_ret ?_
  exact QM_ret1 rfl rfl (fun W hm => ⟨ret_i (show laws_szVersion_m x0 x1 = (-1) from by unfold laws_szVersion_m; exact cond_t g10 (rfl)), hm.below⟩)
 ·have g10 : (decide ((laws_szIntS_m x0.Values x1) < 0)) = false := decide_eq_false h9
  refine CM_condF rfl g10 ?_
  refine CM_skip ?_
  refine QM_then ?_
  refine sr ?_
  refine wm ?_
  refine wa ?_
  refine nt' ?_
  refine CM_ret ?_
  exact QM_ret1 rfl rfl (fun W hm => ⟨ret_i (show laws_szVersion_m x0 x1 = (laws_szIntS_m x0.Values x1) from by unfold laws_szVersion_m; exact cond_f g10 (rfl)), hm.below⟩)

def laws_szVersionS_b1 (x0 : (List DVersion)) (k8 : Nat) (s9 : Int) : Int ⊕ (Int) :=
 cond (decide ((laws_szVersion_m (gt x0 k8) s9) < 0)) (Sum.inl (-1)) (Sum.inr (laws_szVersion_m (gt x0 k8) s9))
def laws_szVersionS_m (x0 : (List DVersion)) (x1 : Int) : Int :=
 cond (decide ((IntKind.i64.wrap (x1 - ((x0.length : Nat) : Int))) < 0)) (-1) (Sum.elim id (fun (s : Int) => s) (rng (R := Int) (fun k (s : Int) => laws_szVersionS_b1 x0 k s) (x0.length - 0) 0 (IntKind.i64.wrap (x1 - ((x0.length : Nat) : Int)))))
set_option maxRecDepth 100000 in
theorem cb108 : Cb Try.prog 108 := ⟨Try.f108, _, Try.func108, rfl, by decide⟩
set_option maxRecDepth 10000 in
set_option maxHeartbeats 4000000 in
theorem laws_szVersionS_c (w : World) (z0 : Value) (x0 : (List DVersion)) (x1 : Int) (r_0 : rdS tyLVersion w w.heap.size z0 x0) :
  Calls Try.prog 108 #[z0, .int .i64 x1] w fun e w' => e = .returned (.int .i64 (laws_szVersionS_m x0 x1)) ∧ Below w.heap.size w w' := by
 have r5 := r_0
 obtain ⟨m1, A2, c3, rfl, q4⟩ := r_0
 refine call_enterM (L := [(0, .slice A2 x0.length c3), (1, .int .i64 x1)]) (N := 27) Try.func108 rfl rfl (Nat.le_of_ble_eq_true rfl) (argsL_cons rfl (argsL_cons rfl argsL_nil)) ?_
 refine sr ?_
 refine wa ?_
 refine nt' ?_
 refine sr ?_
 refine wm ?_
 refine wm ?_
 refine wv (fun W hm => rv_len Try.underlying132 rfl) ?_
 refine wv (fun W hm => rv_sub rfl rfl) ?_
 refine wa ?_
 refine nt' ?_
 refine CM_seq ?_
 refine sr ?_
 refine wm ?_
 refine wv (fun W hm => rv_lss rfl rfl) ?_
 refine nt' ?_
 by_cases h6 : (IntKind.i64.wrap (x1 - ((x0.length : Nat) : Int))) < 0
 ·have g7 : (decide ((IntKind.i64.wrap (x1 - ((x0.length : Nat) : Int))) < 0)) = true := decide_eq_true h6
  refine CM_condT rfl g7 ?_
  refine sr ?_
  refine wa ?_
  refine nt' ?_
  refine CM_ret ?_
  refine QM_then_ret ?_
  exact QM_ret1 rfl rfl (fun W hm => ⟨ret_i (show laws_szVersionS_m x0 x1 = (-1) from by unfold laws_szVersionS_m; exact cond_t g7 (rfl)), hm.below⟩)
 ·have g7 : (decide ((IntKind.i64.wrap (x1 - ((x0.length : Nat) : Int))) < 0)) = false := decide_eq_false h6
  refine CM_condF rfl g7 ?_
  refine CM_skip ?_
  refine QM_then ?_
  refine CM_seq ?_
  refine sr ?_
  refine wa ?_
  refine nt' ?_
  refine CM_block ?_
  refine CM_loop (σ := Nat × (Int) × (Unit)) (fun s => [(0, .slice A2 x0.length c3), (1, .int .i64 s.2.1), (5, .int .i64 ((s.1 : Nat) : Int))]) (fun s => []) (fun s => s.1 ≤ x0.length ∧ rng (R := Int) (fun k (s : Int) => laws_szVersionS_b1 x0 k s) (x0.length - s.1) s.1 s.2.1 = rng (R := Int) (fun k (s : Int) => laws_szVersionS_b1 x0 k s) (x0.length - 0) 0 (IntKind.i64.wrap (x1 - ((x0.length : Nat) : Int)))) (fun s => x0.length - s.1) (0, (IntKind.i64.wrap (x1 - ((x0.length : Nat) : Int))), ()) (subL_cons rfl (subL_cons rfl (subL_cons rfl subL_nil))) (fun W hm => hm) ⟨(by omega), rfl⟩ ?_
  rintro ⟨k8, s9, ⟨⟩⟩ H12
  obtain ⟨hk10, hF11⟩ : k8 ≤ x0.length ∧ rng (R := Int) (fun k (s : Int) => laws_szVersionS_b1 x0 k s) (x0.length - k8) k8 s9 = rng (R := Int) (fun k (s : Int) => laws_szVersionS_b1 x0 k s) (x0.length - 0) 0 (IntKind.i64.wrap (x1 - ((x0.length : Nat) : Int))) := H12
  show CM Try.prog 27 _ _ _ _ [(0, .slice A2 x0.length c3), (1, .int .i64 s9), (5, .int .i64 ((k8 : Nat) : Int))] []
  refine CM_seq ?_
  refine sr ?_
  refine wm ?_
  refine wm ?_
  refine wv (fun W hm => rv_len Try.underlying132 rfl) ?_
  refine wv (fun W hm => rv_lss rfl rfl) ?_
  refine nt' ?_
  by_cases hl13 : k8 < x0.length
  ·have g14 : (decide (((k8 : Nat) : Int) < ((x0.length : Nat) : Int))) = true := decide_eq_true (by omega)
   refine CM_condT rfl g14 ?_
   refine CM_skip ?_
   refine QM_then ?_
   refine CM_seq ?_
   refine CM_block ?_
   refine sr ?_
   refine wm ?_
   refine wm ?_
   obtain ⟨a15, rfl, hb16, he17⟩ := q4 (by omega)
   refine wv (fun W hm => rv_index (sz := 4) (k := k8) Try.underlying132 Try.type146 rfl rfl rfl (by omega)) ?_
   obtain ⟨_, e21, hc18⟩ := he17 k8 _ (gt_some (show k8 < x0.length from by omega))
   obtain ⟨v19, rfl, r20⟩ := tyLVersion_rd e21
   have r26 := r20
   obtain ⟨m22, A23, c24, rfl, q25⟩ := r20
   refine wv (fun W hm => rv_loadN (cs := [.int .i64 ((gt x0 k8).Id), .slice A23 ((gt x0 k8).Values).length c24, .int .i64 ((gt x0 k8).Born), .int .i64 ((gt x0 k8).Died)]) Try.underlying146 Try.type146 rfl rfl (hm.elCells (show (a15.add (k8 * 4)).block < w.heap.size from by rw [add_block]; exact hb16.1) hc18)) ?_
   refine wm ?_
   refine WM_callV (cl_fn cb128 rfl) (fun W hm => laws_szVersion_c W _ (gt x0 k8) s9 (tyLVersion_mk (x := (gt x0 k8)) (hm.rdS0 r26))) (Wd_none rfl) (by decide) ?_
   refine wa ?_
   refine nt' ?_
   refine sr ?_
   refine wm ?_
   refine wv (fun W hm => rv_lss rfl rfl) ?_
   refine nt' ?_
   by_cases h27 : (laws_szVersion_m (gt x0 k8) s9) < 0
   ·have g28 : (decide ((laws_szVersion_m (gt x0 k8) s9) < 0)) = true := decide_eq_true h27
    refine CM_condT rfl g28 ?_
    refine sr ?_
    refine wa ?_
    refine nt' ?_
    refine CM_ret ?_
    refine QM_block_ret ?_
    refine QM_then_ret ?_
    refine QM_then_ret ?_
    refine QM_block_ret ?_
    refine QM_then_ret ?_
    exact QM_ret1 rfl rfl (fun W hm => ⟨ret_i (show laws_szVersionS_m x0 x1 = (-1) from by unfold laws_szVersionS_m; exact cond_f g7 (fin_inl (rng_ret (body := (fun k (s : Int) => laws_szVersionS_b1 x0 k s)) (k := k8) (s := s9) (show k8 < x0.length from by omega) (show laws_szVersionS_b1 x0 k8 s9 = Sum.inl (-1) from by unfold laws_szVersionS_b1; exact cond_t g28 (rfl)) hF11) rfl)), hm.below⟩)
   ·have g28 : (decide ((laws_szVersion_m (gt x0 k8) s9) < 0)) = false := decide_eq_false h27
    refine CM_condF rfl g28 ?_
    refine CM_skip ?_
    refine QM_block_normal ?_
    refine QM_then ?_
    refine CM_region ?_
    refine wm ?_
    refine wv (fun W hm => rv_addN (p := k8) (q := 1) rfl rfl (by omega)) ?_
    refine wa ?_
    refine WM_nil ?_
    have hn29 := rng_next (R := Int) (body := (fun k (s : Int) => laws_szVersionS_b1 x0 k s)) (k := k8) (s := s9) (s' := (laws_szVersion_m (gt x0 k8) s9)) (show k8 < x0.length from by omega) (show laws_szVersionS_b1 x0 k8 s9 = Sum.inr (laws_szVersion_m (gt x0 k8) s9) from by unfold laws_szVersionS_b1; exact cond_f g28 (rfl)) hF11
    exact QM_round (k8 + 1, (laws_szVersion_m (gt x0 k8) s9), ()) (subL_cons rfl (subL_cons rfl (subL_cons rfl subL_nil))) (fun W hm => hm) ⟨(by omega), hn29⟩ (show x0.length - (k8 + 1) < x0.length - k8 from by omega)
  ·have g14 : (decide (((k8 : Nat) : Int) < ((x0.length : Nat) : Int))) = false := decide_eq_false (by omega)
   refine CM_condF rfl g14 ?_
   refine CM_exit ?_
   refine QM_then_exit ?_
   refine QM_then_exit ?_
   have hE30 : rng (R := Int) (fun k (s : Int) => laws_szVersionS_b1 x0 k s) (x0.length - 0) 0 (IntKind.i64.wrap (x1 - ((x0.length : Nat) : Int))) = Sum.inr s9 := rng_end hl13 hF11
   refine QM_block_hit ?_
   refine QM_then ?_
   refine sr ?_
   refine wm ?_
   refine wa ?_
   refine nt' ?_
   refine CM_ret ?_
   exact QM_ret1 rfl rfl (fun W hm => ⟨ret_i (show laws_szVersionS_m x0 x1 = s9 from by unfold laws_szVersionS_m; exact cond_f g7 (fin_inr hE30 (rfl))), hm.below⟩)

def laws_szVersionSS_b1 (x0 : (List (List DVersion))) (k8 : Nat) (s9 : Int) : Int ⊕ (Int) :=
 cond (decide ((laws_szVersionS_m (gt x0 k8) s9) < 0)) (Sum.inl (-1)) (Sum.inr (laws_szVersionS_m (gt x0 k8) s9))
def laws_szVersionSS_m (x0 : (List (List DVersion))) (x1 : Int) : Int :=
 cond (decide ((IntKind.i64.wrap (x1 - ((x0.length : Nat) : Int))) < 0)) (-1) (Sum.elim id (fun (s : Int) => s) (rng (R := Int) (fun k (s : Int) => laws_szVersionSS_b1 x0 k s) (x0.length - 0) 0 (IntKind.i64.wrap (x1 - ((x0.length : Nat) : Int)))))
set_option maxRecDepth 100000 in
theorem cb67 : Cb Try.prog 67 := ⟨Try.f67, _, Try.func67, rfl, by decide⟩
set_option maxRecDepth 10000 in
set_option maxHeartbeats 4000000 in
theorem laws_szVersionSS_c (w : World) (z0 : Value) (x0 : (List (List DVersion))) (x1 : Int) (r_0 : rdS (tSl tyLVersion 146) w w.heap.size z0 x0) :
  Calls Try.prog 67 #[z0, .int .i64 x1] w fun e w' => e = .returned (.int .i64 (laws_szVersionSS_m x0 x1)) ∧ Below w.heap.size w w' := by
 have r5 := r_0
 obtain ⟨m1, A2, c3, rfl, q4⟩ := r_0
 refine call_enterM (L := [(0, .slice A2 x0.length c3), (1, .int .i64 x1)]) (N := 27) Try.func67 rfl rfl (Nat.le_of_ble_eq_true rfl) (argsL_cons rfl (argsL_cons rfl argsL_nil)) ?_
 refine sr ?_
 refine wa ?_
 refine nt' ?_
 refine sr ?_
 refine wm ?_
 refine wm ?_
 refine wv (fun W hm => rv_len Try.underlying39 rfl) ?_
 refine wv (fun W hm => rv_sub rfl rfl) ?_
 refine wa ?_
 refine nt' ?_
 refine CM_seq ?_
 refine sr ?_
 refine wm ?_
 refine wv (fun W hm => rv_lss rfl rfl) ?_
 refine nt' ?_
 by_cases h6 : (IntKind.i64.wrap (x1 - ((x0.length : Nat) : Int))) < 0
 ·have g7 : (decide ((IntKind.i64.wrap (x1 - ((x0.length : Nat) : Int))) < 0)) = true := decide_eq_true h6
  refine CM_condT rfl g7 ?_
  refine sr ?_
  refine wa ?_
  refine nt' ?_
  refine CM_ret ?_
  refine QM_then_ret ?_
  exact QM_ret1 rfl rfl (fun W hm => ⟨ret_i (show laws_szVersionSS_m x0 x1 = (-1) from by unfold laws_szVersionSS_m; exact cond_t g7 (rfl)), hm.below⟩)
 ·have g7 : (decide ((IntKind.i64.wrap (x1 - ((x0.length : Nat) : Int))) < 0)) = false := decide_eq_false h6
  refine CM_condF rfl g7 ?_
  refine CM_skip ?_
  refine QM_then ?_
  refine CM_seq ?_
  refine sr ?_
  refine wa ?_
  refine nt' ?_
  refine CM_block ?_
  refine CM_loop (σ := Nat × (Int) × (Unit)) (fun s => [(0, .slice A2 x0.length c3), (1, .int .i64 s.2.1), (5, .int .i64 ((s.1 : Nat) : Int))]) (fun s => []) (fun s => s.1 ≤ x0.length ∧ rng (R := Int) (fun k (s : Int) => laws_szVersionSS_b1 x0 k s) (x0.length - s.1) s.1 s.2.1 = rng (R := Int) (fun k (s : Int) => laws_szVersionSS_b1 x0 k s) (x0.length - 0) 0 (IntKind.i64.wrap (x1 - ((x0.length : Nat) : Int)))) (fun s => x0.length - s.1) (0, (IntKind.i64.wrap (x1 - ((x0.length : Nat) : Int))), ()) (subL_cons rfl (subL_cons rfl (subL_cons rfl subL_nil))) (fun W hm => hm) ⟨(by omega), rfl⟩ ?_
  rintro ⟨k8, s9, ⟨⟩⟩ H12
  obtain ⟨hk10, hF11⟩ : k8 ≤ x0.length ∧ rng (R := Int) (fun k (s : Int) => laws_szVersionSS_b1 x0 k s) (x0.length - k8) k8 s9 = rng (R := Int) (fun k (s : Int) => laws_szVersionSS_b1 x0 k s) (x0.length - 0) 0 (IntKind.i64.wrap (x1 - ((x0.length : Nat) : Int))) := H12
  show CM Try.prog 27 _ _ _ _ [(0, .slice A2 x0.length c3), (1, .int .i64 s9), (5, .int .i64 ((k8 : Nat) : Int))] []
  refine CM_seq ?_
  refine sr ?_
  refine wm ?_
  refine wm ?_
  refine wv (fun W hm => rv_len Try.underlying39 rfl) ?_
  refine wv (fun W hm => rv_lss rfl rfl) ?_
  refine nt' ?_
  by_cases hl13 : k8 < x0.length
  ·have g14 : (decide (((k8 : Nat) : Int) < ((x0.length : Nat) : Int))) = true := decide_eq_true (by omega)
   refine CM_condT rfl g14 ?_
   refine CM_skip ?_
   refine QM_then ?_
   refine CM_seq ?_
   refine CM_block ?_
   refine sr ?_
   refine wm ?_
   refine wm ?_
   obtain ⟨a15, rfl, hb16, he17⟩ := q4 (by omega)
   refine wv (fun W hm => rv_index (sz := 1) (k := k8) Try.underlying39 Try.type132 rfl rfl rfl (by omega)) ?_
   obtain ⟨_, e19, hc18⟩ := he17 k8 _ (gt_some (show k8 < x0.length from by omega))
   obtain ⟨v20, rfl, r21⟩ := e19
   have r26 := r21
   obtain ⟨m22, A23, c24, rfl, q25⟩ := r21
   refine wv (fun W hm => rv_load Try.underlying132 rfl rfl ((hm.cell0 (show (a15.add (k8 * 1)).block < w.heap.size from by rw [add_block]; exact hb16.1)).trans (hc18 0 _ rfl))) ?_
   refine wm ?_
   refine WM_callV (cl_fn cb108 rfl) (fun W hm => laws_szVersionS_c W _ (gt x0 k8) s9 (hm.rdS0 r26)) (Wd_none rfl) (by decide) ?_
   refine wa ?_
   refine nt' ?_
   refine sr ?_
   refine wm ?_
   refine wv (fun W hm => rv_lss rfl rfl) ?_
   refine nt' ?_
   by_cases h27 : (laws_szVersionS_m (gt x0 k8) s9) < 0
   ·have g28 : (decide ((laws_szVersionS_m (gt x0 k8) s9) < 0)) = true := decide_eq_true h27
    refine CM_condT rfl g28 ?_
    refine sr ?_
    refine wa ?_
    refine nt' ?_
    refine CM_ret ?_
    refine QM_block_ret ?_
    refine QM_then_ret ?_
    refine QM_then_ret ?_
    refine QM_block_ret ?_
    refine QM_then_ret ?_
    exact QM_ret1 rfl rfl (fun W hm => ⟨ret_i (show laws_szVersionSS_m x0 x1 = (-1) from by unfold laws_szVersionSS_m; exact cond_f g7 (fin_inl (rng_ret (body := (fun k (s : Int) => laws_szVersionSS_b1 x0 k s)) (k := k8) (s := s9) (show k8 < x0.length from by omega) (show laws_szVersionSS_b1 x0 k8 s9 = Sum.inl (-1) from by unfold laws_szVersionSS_b1; exact cond_t g28 (rfl)) hF11) rfl)), hm.below⟩)
   ·have g28 : (decide ((laws_szVersionS_m (gt x0 k8) s9) < 0)) = false := decide_eq_false h27
    refine CM_condF rfl g28 ?_
    refine CM_skip ?_
    refine QM_block_normal ?_
    refine QM_then ?_
    refine CM_region ?_
    refine wm ?_
    refine wv (fun W hm => rv_addN (p := k8) (q := 1) rfl rfl (by omega)) ?_
    refine wa ?_
    refine WM_nil ?_
    have hn29 := rng_next (R := Int) (body := (fun k (s : Int) => laws_szVersionSS_b1 x0 k s)) (k := k8) (s := s9) (s' := (laws_szVersionS_m (gt x0 k8) s9)) (show k8 < x0.length from by omega) (show laws_szVersionSS_b1 x0 k8 s9 = Sum.inr (laws_szVersionS_m (gt x0 k8) s9) from by unfold laws_szVersionSS_b1; exact cond_f g28 (rfl)) hF11
    exact QM_round (k8 + 1, (laws_szVersionS_m (gt x0 k8) s9), ()) (subL_cons rfl (subL_cons rfl (subL_cons rfl subL_nil))) (fun W hm => hm) ⟨(by omega), hn29⟩ (show x0.length - (k8 + 1) < x0.length - k8 from by omega)
  ·have g14 : (decide (((k8 : Nat) : Int) < ((x0.length : Nat) : Int))) = false := decide_eq_false (by omega)
   refine CM_condF rfl g14 ?_
   refine CM_exit ?_
   refine QM_then_exit ?_
   refine QM_then_exit ?_
   have hE30 : rng (R := Int) (fun k (s : Int) => laws_szVersionSS_b1 x0 k s) (x0.length - 0) 0 (IntKind.i64.wrap (x1 - ((x0.length : Nat) : Int))) = Sum.inr s9 := rng_end hl13 hF11
   refine QM_block_hit ?_
   refine QM_then ?_
   refine sr ?_
   refine wm ?_
   refine wa ?_
   refine nt' ?_
   refine CM_ret ?_
   exact QM_ret1 rfl rfl (fun W hm => ⟨ret_i (show laws_szVersionSS_m x0 x1 = s9 from by unfold laws_szVersionSS_m; exact cond_f g7 (fin_inr hE30 (rfl))), hm.below⟩)

def laws_szStore_m (x0 : DStore) (x1 : Int) : Int :=
 cond (decide ((laws_szVersionSS_m x0.Segments x1) < 0)) (-1) (laws_szVersionSS_m x0.Segments x1)
set_option maxRecDepth 100000 in
theorem cb26 : Cb Try.prog 26 := ⟨Try.f26, _, Try.func26, rfl, by decide⟩
set_option maxRecDepth 10000 in
set_option maxHeartbeats 4000000 in
theorem laws_szStore_c (w : World) (z0 : List Value) (x0 : DStore) (x1 : Int) (r_0 : tyLStore.rd w w.heap.size z0 x0) :
  Calls Try.prog 26 #[.agg z0.toArray, .int .i64 x1] w fun e w' => e = .returned (.int .i64 (laws_szStore_m x0 x1)) ∧ Below w.heap.size w w' := by
 obtain ⟨v1, rfl, r2⟩ := tyLStore_rd r_0
 have r7 := r2
 obtain ⟨m3, A4, c5, rfl, q6⟩ := r2
 refine call_enterM (L := [(0, .agg #[.slice A4 x0.Segments.length c5, .int .i64 x0.Now]), (1, .int .i64 x1)]) (N := 12) Try.func26 rfl rfl (Nat.le_of_ble_eq_true rfl) (argsL_cons rfl (argsL_cons rfl argsL_nil)) ?_
 refine sr ?_
 refine WM_box rfl (Wd_none rfl) (by decide) (fun p8 => ?_)
 refine wa ?_
 refine nt' ?_
 refine sr ?_
 refine wv (fun W hm => rv_field Try.underlying41 rfl Try.type39 (by decide) rfl rfl) ?_
 refine wv (fun W hm => rv_load Try.underlying39 rfl rfl (hm.boxCell (n := 0) (o := 0) rfl rfl)) ?_
 refine wm ?_
 refine WM_callV (cl_fn cb67 rfl) (fun W hm => laws_szVersionSS_c W _ x0.Segments x1 (hm.rdS0 r7)) (Wd_none rfl) (by decide) ?_
 refine wa ?_
 refine nt' ?_
 refine CM_seq ?_
 refine sr ?_
 refine wm ?_
 refine wv (fun W hm => rv_lss rfl rfl) ?_
 refine nt' ?_
 by_cases h9 : (laws_szVersionSS_m x0.Segments x1) < 0
 ·have g10 : (decide ((laws_szVersionSS_m x0.Segments x1) < 0)) = true := decide_eq_true h9
  refine CM_condT rfl g10 ?_
  refine sr ?_
  refine wa ?_
  refine nt' ?_
  refine CM_ret ?_
  refine QM_then_ret ?_
  exact QM_ret1 rfl rfl (fun W hm => ⟨ret_i (show laws_szStore_m x0 x1 = (-1) from by unfold laws_szStore_m; exact cond_t g10 (rfl)), hm.below⟩)
 ·have g10 : (decide ((laws_szVersionSS_m x0.Segments x1) < 0)) = false := decide_eq_false h9
  refine CM_condF rfl g10 ?_
  refine CM_skip ?_
  refine QM_then ?_
  refine sr ?_
  refine wm ?_
  refine wa ?_
  refine nt' ?_
  refine CM_ret ?_
  exact QM_ret1 rfl rfl (fun W hm => ⟨ret_i (show laws_szStore_m x0 x1 = (laws_szVersionSS_m x0.Segments x1) from by unfold laws_szStore_m; exact cond_f g10 (rfl)), hm.below⟩)

def laws_toIntS_b1 (x0 : (List Int)) (k9 : Nat) (d10 : (List Int)) : (List Int) ⊕ ((List Int)) :=
 Sum.inr (d10.set k9 (gt x0 k9))
def laws_toIntS_m (x0 : (List Int)) : (List Int) :=
 Sum.elim id (fun (s : (List Int)) => s) (rng (R := (List Int)) (fun k (s : (List Int)) => laws_toIntS_b1 x0 k s) (x0.length - 0) 0 (List.replicate x0.length (0 : Int)))
set_option maxRecDepth 100000 in
theorem cb21 : Cb Try.prog 21 := ⟨Try.f21, _, Try.func21, rfl, by decide⟩
set_option maxRecDepth 10000 in
set_option maxHeartbeats 4000000 in
theorem laws_toIntS_c (w : World) (z0 : Value) (x0 : (List Int)) (r_0 : rdS tInt w w.heap.size z0 x0) (s_0 : x0.length ≤ 68719476736) :
  Calls Try.prog 21 #[z0] w fun e w' => ∃ v : Value, e = .returned (v) ∧ Mem w.heap.size w [iOwn (tSl tInt 3) [v] (laws_toIntS_m x0)] w' := by
 have r5 := r_0
 obtain ⟨m1, A2, c3, rfl, q4⟩ := r_0
 have l6 : x0.length ≤ 68719476736 := s_0
 refine call_enterM (L := [(0, .slice A2 x0.length c3)]) (N := 22) Try.func21 rfl rfl (Nat.le_of_ble_eq_true rfl) (argsL_cons rfl argsL_nil) ?_
 refine sr ?_
 refine wa ?_
 refine nt' ?_
 refine sr ?_
 refine wm ?_
 refine wv (fun W hm => rv_len Try.underlying33 rfl) ?_
 refine WM_make (E := tInt) (n := x0.length) (x0 := (0 : Int)) Try.underlying33 Try.type3 rfl rfl rfl (fun _ => tInt_own) rfl rfl (show x0.length * 8 ≤ 281474976710656 from by omega) (by omega) (Wd_none rfl) (by decide) (fun p7 => ?_)
 refine wa ?_
 refine nt' ?_
 refine CM_seq ?_
 refine sr ?_
 refine wa ?_
 refine nt' ?_
 refine CM_block ?_
 refine CM_loop (σ := Nat × ((List Int)) × (Unit)) (fun s => [(0, .slice A2 x0.length c3), (3, .slice (some ⟨p7, 0, none⟩) x0.length x0.length), (4, .int .i64 ((s.1 : Nat) : Int))]) (fun s => [iOwn (tSl tInt 3) [.slice (some ⟨p7, 0, none⟩) x0.length x0.length] s.2.1]) (fun s => s.1 ≤ x0.length ∧ rng (R := (List Int)) (fun k (s : (List Int)) => laws_toIntS_b1 x0 k s) (x0.length - s.1) s.1 s.2.1 = rng (R := (List Int)) (fun k (s : (List Int)) => laws_toIntS_b1 x0 k s) (x0.length - 0) 0 (List.replicate x0.length (0 : Int))) (fun s => x0.length - s.1) (0, (List.replicate x0.length (0 : Int)), ()) (subL_cons rfl (subL_cons rfl (subL_cons rfl subL_nil))) (fun W hm => hm) ⟨(by omega), rfl⟩ ?_
 rintro ⟨k9, d10, ⟨⟩⟩ H13
 obtain ⟨hk11, hF12⟩ : k9 ≤ x0.length ∧ rng (R := (List Int)) (fun k (s : (List Int)) => laws_toIntS_b1 x0 k s) (x0.length - k9) k9 d10 = rng (R := (List Int)) (fun k (s : (List Int)) => laws_toIntS_b1 x0 k s) (x0.length - 0) 0 (List.replicate x0.length (0 : Int)) := H13
 show CM Try.prog 22 _ _ _ _ [(0, .slice A2 x0.length c3), (3, .slice (some ⟨p7, 0, none⟩) x0.length x0.length), (4, .int .i64 ((k9 : Nat) : Int))] [iOwn (tSl tInt 3) [.slice (some ⟨p7, 0, none⟩) x0.length x0.length] d10]
 refine CM_seq ?_
 refine sr ?_
 refine wm ?_
 refine wm ?_
 refine wv (fun W hm => rv_len Try.underlying33 rfl) ?_
 refine wv (fun W hm => rv_lss rfl rfl) ?_
 refine nt' ?_
 by_cases hl14 : k9 < x0.length
 ·have g15 : (decide (((k9 : Nat) : Int) < ((x0.length : Nat) : Int))) = true := decide_eq_true (by omega)
  refine CM_condT rfl g15 ?_
  refine CM_skip ?_
  refine QM_then ?_
  refine CM_seq ?_
  refine CM_block ?_
  refine CM_region ?_
  refine wm ?_
  refine wm ?_
  refine wm ?_
  refine wm ?_
  obtain ⟨a16, rfl, hb17, he18⟩ := q4 (by omega)
  refine wv (fun W hm => rv_index (sz := 1) (k := k9) Try.underlying33 Try.type3 rfl rfl rfl (by omega)) ?_
  refine wv (fun W hm => rv_load Try.underlying3 rfl rfl ((hm.cell0 (show (a16.add (k9 * 1)).block < w.heap.size from by rw [add_block]; exact hb17.1)).trans (rdS_int he18 k9 (by omega)))) ?_
  refine wv (fun W hm => rv_index (sz := 1) (k := k9) Try.underlying33 Try.type3 rfl rfl rfl (by omega)) ?_
  refine WM_setEl (E := tInt) (e := 3) (u := .int .i64 (gt x0 k9)) (k := k9) (p := p7) (n := x0.length) (xs := d10) (eis := []) (js := []) (yv := (gt x0 k9)) (fun W hm => hm) (fun _ _ hs => (Sep.nil hs ▸ tInt_own)) rfl Try.type3 rfl (by omega) rfl rfl (Wd_none rfl) ?_
  refine WM_nil ?_
  refine QM_block_normal ?_
  refine QM_then ?_
  refine CM_region ?_
  refine wm ?_
  refine wv (fun W hm => rv_addN (p := k9) (q := 1) rfl rfl (by omega)) ?_
  refine wa ?_
  refine WM_nil ?_
  have hn19 := rng_next (R := (List Int)) (body := (fun k (s : (List Int)) => laws_toIntS_b1 x0 k s)) (k := k9) (s := d10) (s' := (d10.set k9 (gt x0 k9))) (show k9 < x0.length from by omega) (show laws_toIntS_b1 x0 k9 d10 = Sum.inr (d10.set k9 (gt x0 k9)) from by unfold laws_toIntS_b1; exact rfl) hF12
  exact QM_round (k9 + 1, (d10.set k9 (gt x0 k9)), ()) (subL_cons rfl (subL_cons rfl (subL_cons rfl subL_nil))) (fun W hm => hm) ⟨(by omega), hn19⟩ (show x0.length - (k9 + 1) < x0.length - k9 from by omega)
 ·have g15 : (decide (((k9 : Nat) : Int) < ((x0.length : Nat) : Int))) = false := decide_eq_false (by omega)
  refine CM_condF rfl g15 ?_
  refine CM_exit ?_
  refine QM_then_exit ?_
  refine QM_then_exit ?_
  have hE20 : rng (R := (List Int)) (fun k (s : (List Int)) => laws_toIntS_b1 x0 k s) (x0.length - 0) 0 (List.replicate x0.length (0 : Int)) = Sum.inr d10 := rng_end hl14 hF12
  refine QM_block_hit ?_
  refine QM_then ?_
  refine sr ?_
  refine wm ?_
  refine wa ?_
  refine nt' ?_
  refine CM_ret ?_
  refine QM_r1 rfl (RR_tmp rfl) (fun W hm => ⟨.slice (some ⟨p7, 0, none⟩) x0.length x0.length, ?_, ?_⟩)
  ·first | rw [(show laws_toIntS_m x0 = d10 from by unfold laws_toIntS_m; exact fin_inr hE20 (rfl))] | rfl
  ·rw [(show laws_toIntS_m x0 = d10 from by unfold laws_toIntS_m; exact fin_inr hE20 (rfl))]; exact hm

def laws_toVersion_m (x0 : DVersion) : DVersion :=
 (⟨x0.Id, (laws_toIntS_m x0.Values), x0.Born, x0.Died⟩ : DVersion)
set_option maxRecDepth 100000 in
theorem cb130 : Cb Try.prog 130 := ⟨Try.f130, _, Try.func130, rfl, by decide⟩
set_option maxRecDepth 10000 in
set_option maxHeartbeats 4000000 in
theorem laws_toVersion_c (w : World) (z0 : List Value) (x0 : DVersion) (r_0 : tyLVersion.rd w w.heap.size z0 x0) (s_0 : smVersion 68719476736 x0) :
  Calls Try.prog 130 #[.agg z0.toArray] w fun e w' => ∃ v : List Value, e = .returned (.agg v.toArray) ∧ Mem w.heap.size w [iOwn tyVersion v (laws_toVersion_m x0)] w' := by
 obtain ⟨v1, rfl, r2⟩ := tyLVersion_rd r_0
 have r7 := r2
 obtain ⟨m3, A4, c5, rfl, q6⟩ := r2
 have l8 : x0.Values.length ≤ 68719476736 := s_0
 refine call_enterM (L := [(0, .agg #[.int .i64 x0.Id, .slice A4 x0.Values.length c5, .int .i64 x0.Born, .int .i64 x0.Died])]) (N := 18) Try.func130 rfl rfl (Nat.le_of_ble_eq_true rfl) (argsL_cons rfl argsL_nil) ?_
 refine sr ?_
 refine WM_box rfl (Wd_none rfl) (by decide) (fun p9 => ?_)
 refine WM_alloc Try.type102 rfl (Wd_none rfl) (by decide) (fun p10 => ?_)
 refine nt' ?_
 refine sr ?_
 refine WM_alloc Try.type102 rfl (Wd_none rfl) (by decide) (fun p11 => ?_)
 refine nt' ?_
 refine sr ?_
 refine wv (fun W hm => rv_field Try.underlying146 rfl Try.type3 (by decide) rfl rfl) ?_
 refine wv (fun W hm => rv_load Try.underlying3 rfl rfl (hm.boxCell (n := 2) (o := 0) rfl rfl)) ?_
 refine wv (fun W hm => rv_field Try.underlying102 rfl Try.type3 (by decide) rfl rfl) ?_
 refine WM_storeBox (p := p11) (o := 0) (cs' := [.int .i64 x0.Id, .slice none 0 0, .int .i64 0, .int .i64 0]) (js := [iBox p10 102 [.int .i64 0, .slice none 0 0, .int .i64 0, .int .i64 0], iBox p9 146 [.int .i64 x0.Id, .slice A4 x0.Values.length c5, .int .i64 x0.Born, .int .i64 x0.Died]]) (fun W hm => hm) Try.type3 rfl (Nat.le_of_ble_eq_true rfl) rfl rfl rfl rfl (Wd_none rfl) ?_
 refine nt' ?_
 refine sr ?_
 refine wv (fun W hm => rv_field Try.underlying146 rfl Try.type33 (by decide) rfl rfl) ?_
 refine wv (fun W hm => rv_load Try.underlying33 rfl rfl (hm.boxCell (n := 2) (o := 1) rfl rfl)) ?_
 refine WM_call (χ := Value) (val := fun x => x) (js := fun x => [iOwn (tSl tInt 3) [x] (laws_toIntS_m x0.Values)]) (cl_fn cb21 rfl) (fun W hm => laws_toIntS_c W _ x0.Values (hm.rdS0 r7) s_0) (Wd_none rfl) (by decide) (fun z12 => ?_)
 refine WM_form (n := 0) rfl ?_
 rintro A13 c14 rfl m15
 refine wv (fun W hm => rv_field Try.underlying102 rfl Try.type33 (by decide) rfl rfl) ?_
 refine WM_storeBox (p := p11) (o := 1) (cs' := [.int .i64 x0.Id, .slice A13 (laws_toIntS_m x0.Values).length c14, .int .i64 0, .int .i64 0]) (js := [iOwn (tSl tInt 3) [.slice A13 (laws_toIntS_m x0.Values).length c14] (laws_toIntS_m x0.Values), iBox p10 102 [.int .i64 0, .slice none 0 0, .int .i64 0, .int .i64 0], iBox p9 146 [.int .i64 x0.Id, .slice A4 x0.Values.length c5, .int .i64 x0.Born, .int .i64 x0.Died]]) (fun W hm => (hm.pick [1, 0, 2, 3] (by decide))) Try.type33 rfl (Nat.le_of_ble_eq_true rfl) rfl rfl rfl rfl (Wd_none rfl) ?_
 refine nt' ?_
 refine sr ?_
 refine wv (fun W hm => rv_field Try.underlying146 rfl Try.type3 (by decide) rfl rfl) ?_
 refine wv (fun W hm => rv_load Try.underlying3 rfl rfl (hm.boxCell (n := 3) (o := 2) rfl rfl)) ?_
 refine wv (fun W hm => rv_field Try.underlying102 rfl Try.type3 (by decide) rfl rfl) ?_
 refine WM_storeBox (p := p11) (o := 2) (cs' := [.int .i64 x0.Id, .slice A13 (laws_toIntS_m x0.Values).length c14, .int .i64 x0.Born, .int .i64 0]) (js := [iOwn (tSl tInt 3) [.slice A13 (laws_toIntS_m x0.Values).length c14] (laws_toIntS_m x0.Values), iBox p10 102 [.int .i64 0, .slice none 0 0, .int .i64 0, .int .i64 0], iBox p9 146 [.int .i64 x0.Id, .slice A4 x0.Values.length c5, .int .i64 x0.Born, .int .i64 x0.Died]]) (fun W hm => hm) Try.type3 rfl (Nat.le_of_ble_eq_true rfl) rfl rfl rfl rfl (Wd_none rfl) ?_
 refine nt' ?_
 refine sr ?_
 refine wv (fun W hm => rv_field Try.underlying146 rfl Try.type3 (by decide) rfl rfl) ?_
 refine wv (fun W hm => rv_load Try.underlying3 rfl rfl (hm.boxCell (n := 3) (o := 3) rfl rfl)) ?_
 refine wv (fun W hm => rv_field Try.underlying102 rfl Try.type3 (by decide) rfl rfl) ?_
 refine WM_storeBox (p := p11) (o := 3) (cs' := [.int .i64 x0.Id, .slice A13 (laws_toIntS_m x0.Values).length c14, .int .i64 x0.Born, .int .i64 x0.Died]) (js := [iOwn (tSl tInt 3) [.slice A13 (laws_toIntS_m x0.Values).length c14] (laws_toIntS_m x0.Values), iBox p10 102 [.int .i64 0, .slice none 0 0, .int .i64 0, .int .i64 0], iBox p9 146 [.int .i64 x0.Id, .slice A4 x0.Values.length c5, .int .i64 x0.Born, .int .i64 x0.Died]]) (fun W hm => hm) Try.type3 rfl (Nat.le_of_ble_eq_true rfl) rfl rfl rfl rfl (Wd_none rfl) ?_
 refine nt' ?_
 refine sr ?_
 refine wv (fun W hm => rv_loadN (cs := [.int .i64 x0.Id, .slice A13 (laws_toIntS_m x0.Values).length c14, .int .i64 x0.Born, .int .i64 x0.Died]) Try.underlying102 Try.type102 rfl rfl (hm.boxCells (n := 0) rfl)) ?_
 refine WM_storeBox (p := p10) (o := 0) (cs' := [.int .i64 x0.Id, .slice A13 (laws_toIntS_m x0.Values).length c14, .int .i64 x0.Born, .int .i64 x0.Died]) (js := [iBox p11 102 [.int .i64 x0.Id, .slice A13 (laws_toIntS_m x0.Values).length c14, .int .i64 x0.Born, .int .i64 x0.Died], iOwn (tSl tInt 3) [.slice A13 (laws_toIntS_m x0.Values).length c14] (laws_toIntS_m x0.Values), iBox p9 146 [.int .i64 x0.Id, .slice A4 x0.Values.length c5, .int .i64 x0.Born, .int .i64 x0.Died]]) (fun W hm => (hm.pick [2, 0, 1, 3] (by decide))) Try.type102 rfl (Nat.le_of_ble_eq_true rfl) rfl rfl rfl rfl (Wd_none rfl) ?_
 refine nt' ?_
 refine CM_ret ?_
 refine QM_r1 rfl (RR_cell (n := 0) rfl rfl Try.underlying102 Try.type102 rfl) (fun W hm => ⟨[.int .i64 x0.Id, .slice A13 (laws_toIntS_m x0.Values).length c14, .int .i64 x0.Born, .int .i64 x0.Died], ?_, ?_⟩)
 ·first | rw [(show laws_toVersion_m x0 = (⟨x0.Id, (laws_toIntS_m x0.Values), x0.Born, x0.Died⟩ : DVersion) from by unfold laws_toVersion_m; exact rfl)] | rfl
 ·rw [(show laws_toVersion_m x0 = (⟨x0.Id, (laws_toIntS_m x0.Values), x0.Born, x0.Died⟩ : DVersion) from by unfold laws_toVersion_m; exact rfl)]; exact Mem.join (is := [iOwn (tSl tInt 3) [.slice A13 (laws_toIntS_m x0.Values).length c14] (laws_toIntS_m x0.Values)]) (js := []) (fun _ _ hs => tyVersion_join (x := (⟨x0.Id, (laws_toIntS_m x0.Values), x0.Born, x0.Died⟩ : DVersion)) hs) (hm.pick [2] (by decide))

def laws_toVersionS_b1 (x0 : (List DVersion)) (k9 : Nat) (d10 : (List DVersion)) : (List DVersion) ⊕ ((List DVersion)) :=
 Sum.inr (d10.set k9 (laws_toVersion_m (gt x0 k9)))
def laws_toVersionS_m (x0 : (List DVersion)) : (List DVersion) :=
 Sum.elim id (fun (s : (List DVersion)) => s) (rng (R := (List DVersion)) (fun k (s : (List DVersion)) => laws_toVersionS_b1 x0 k s) (x0.length - 0) 0 (List.replicate x0.length (⟨(0 : Int), [], (0 : Int), (0 : Int)⟩ : DVersion)))
set_option maxRecDepth 100000 in
theorem cb113 : Cb Try.prog 113 := ⟨Try.f113, _, Try.func113, rfl, by decide⟩
set_option maxRecDepth 10000 in
set_option maxHeartbeats 4000000 in
theorem laws_toVersionS_c (w : World) (z0 : Value) (x0 : (List DVersion)) (r_0 : rdS tyLVersion w w.heap.size z0 x0) (s_0 : (x0.length ≤ 68719476736 ∧ ∀ y ∈ x0, smVersion 68719476736 y)) :
  Calls Try.prog 113 #[z0] w fun e w' => ∃ v : Value, e = .returned (v) ∧ Mem w.heap.size w [iOwn (tSl tyVersion 102) [v] (laws_toVersionS_m x0)] w' := by
 have r5 := r_0
 obtain ⟨m1, A2, c3, rfl, q4⟩ := r_0
 have l6 : x0.length ≤ 68719476736 := s_0.1
 refine call_enterM (L := [(0, .slice A2 x0.length c3)]) (N := 23) Try.func113 rfl rfl (Nat.le_of_ble_eq_true rfl) (argsL_cons rfl argsL_nil) ?_
 refine sr ?_
 refine wa ?_
 refine nt' ?_
 refine sr ?_
 refine wm ?_
 refine wv (fun W hm => rv_len Try.underlying132 rfl) ?_
 refine WM_make (E := tyVersion) (n := x0.length) (x0 := (⟨(0 : Int), [], (0 : Int), (0 : Int)⟩ : DVersion)) Try.underlying100 Try.type102 rfl rfl rfl (fun _ => ⟨[], [], _, _, rfl, rfl, tInt_own, ⟨[], [], _, _, rfl, rfl, own_nil, ⟨[], [], _, _, rfl, rfl, tInt_own, tInt_own⟩⟩⟩) rfl rfl (show x0.length * 48 ≤ 281474976710656 from by omega) (by omega) (Wd_none rfl) (by decide) (fun p7 => ?_)
 refine wa ?_
 refine nt' ?_
 refine CM_seq ?_
 refine sr ?_
 refine wa ?_
 refine nt' ?_
 refine CM_block ?_
 refine CM_loop (σ := Nat × ((List DVersion)) × (Unit)) (fun s => [(0, .slice A2 x0.length c3), (3, .slice (some ⟨p7, 0, none⟩) x0.length x0.length), (4, .int .i64 ((s.1 : Nat) : Int))]) (fun s => [iOwn (tSl tyVersion 102) [.slice (some ⟨p7, 0, none⟩) x0.length x0.length] s.2.1]) (fun s => s.1 ≤ x0.length ∧ rng (R := (List DVersion)) (fun k (s : (List DVersion)) => laws_toVersionS_b1 x0 k s) (x0.length - s.1) s.1 s.2.1 = rng (R := (List DVersion)) (fun k (s : (List DVersion)) => laws_toVersionS_b1 x0 k s) (x0.length - 0) 0 (List.replicate x0.length (⟨(0 : Int), [], (0 : Int), (0 : Int)⟩ : DVersion))) (fun s => x0.length - s.1) (0, (List.replicate x0.length (⟨(0 : Int), [], (0 : Int), (0 : Int)⟩ : DVersion)), ()) (subL_cons rfl (subL_cons rfl (subL_cons rfl subL_nil))) (fun W hm => hm) ⟨(by omega), rfl⟩ ?_
 rintro ⟨k9, d10, ⟨⟩⟩ H13
 obtain ⟨hk11, hF12⟩ : k9 ≤ x0.length ∧ rng (R := (List DVersion)) (fun k (s : (List DVersion)) => laws_toVersionS_b1 x0 k s) (x0.length - k9) k9 d10 = rng (R := (List DVersion)) (fun k (s : (List DVersion)) => laws_toVersionS_b1 x0 k s) (x0.length - 0) 0 (List.replicate x0.length (⟨(0 : Int), [], (0 : Int), (0 : Int)⟩ : DVersion)) := H13
 show CM Try.prog 23 _ _ _ _ [(0, .slice A2 x0.length c3), (3, .slice (some ⟨p7, 0, none⟩) x0.length x0.length), (4, .int .i64 ((k9 : Nat) : Int))] [iOwn (tSl tyVersion 102) [.slice (some ⟨p7, 0, none⟩) x0.length x0.length] d10]
 refine CM_seq ?_
 refine sr ?_
 refine wm ?_
 refine wm ?_
 refine wv (fun W hm => rv_len Try.underlying132 rfl) ?_
 refine wv (fun W hm => rv_lss rfl rfl) ?_
 refine nt' ?_
 by_cases hl14 : k9 < x0.length
 ·have g15 : (decide (((k9 : Nat) : Int) < ((x0.length : Nat) : Int))) = true := decide_eq_true (by omega)
  refine CM_condT rfl g15 ?_
  refine CM_skip ?_
  refine QM_then ?_
  refine CM_seq ?_
  refine CM_block ?_
  refine CM_region ?_
  refine wm ?_
  refine wm ?_
  refine wm ?_
  refine wm ?_
  obtain ⟨a16, rfl, hb17, he18⟩ := q4 (by omega)
  refine wv (fun W hm => rv_index (sz := 4) (k := k9) Try.underlying132 Try.type146 rfl rfl rfl (by omega)) ?_
  obtain ⟨_, e22, hc19⟩ := he18 k9 _ (gt_some (show k9 < x0.length from by omega))
  obtain ⟨v20, rfl, r21⟩ := tyLVersion_rd e22
  have l23 : ((gt x0 k9).Values).length ≤ 68719476736 := (s_0.2 _ (gt_mem (show k9 < x0.length from by omega)))
  have r28 := r21
  obtain ⟨m24, A25, c26, rfl, q27⟩ := r21
  refine wv (fun W hm => rv_loadN (cs := [.int .i64 ((gt x0 k9).Id), .slice A25 ((gt x0 k9).Values).length c26, .int .i64 ((gt x0 k9).Born), .int .i64 ((gt x0 k9).Died)]) Try.underlying146 Try.type146 rfl rfl (hm.elCells (show (a16.add (k9 * 4)).block < w.heap.size from by rw [add_block]; exact hb17.1) hc19)) ?_
  refine WM_call (χ := List Value) (val := fun x => .agg x.toArray) (js := fun x => [iOwn tyVersion x (laws_toVersion_m (gt x0 k9))]) (cl_fn cb130 rfl) (fun W hm => laws_toVersion_c W _ (gt x0 k9) (tyLVersion_mk (x := (gt x0 k9)) (hm.rdS0 r28)) (s_0.2 _ (gt_mem (show k9 < x0.length from by omega)))) (Wd_none rfl) (by decide) (fun z29 => ?_)
  refine WM_split (γ := Value) (js := fun g => [iOwn (tSl tInt 3) [g] ((laws_toVersion_m (gt x0 k9)).Values)]) (C := fun g => z29 = [.int .i64 ((laws_toVersion_m (gt x0 k9)).Id), g, .int .i64 ((laws_toVersion_m (gt x0 k9)).Born), .int .i64 ((laws_toVersion_m (gt x0 k9)).Died)]) (fun _ _ h => tyVersion_split h) ?_
  rintro v30 rfl
  refine WM_form (n := 0) rfl ?_
  rintro A31 c32 rfl m33
  refine wv (fun W hm => rv_index (sz := 4) (k := k9) Try.underlying100 Try.type102 rfl rfl rfl (by omega)) ?_
  refine WM_setEl (E := tyVersion) (e := 102) (u := .agg #[.int .i64 ((laws_toVersion_m (gt x0 k9)).Id), .slice A31 ((laws_toVersion_m (gt x0 k9)).Values).length c32, .int .i64 ((laws_toVersion_m (gt x0 k9)).Born), .int .i64 ((laws_toVersion_m (gt x0 k9)).Died)]) (k := k9) (p := p7) (n := x0.length) (xs := d10) (eis := [iOwn (tSl tInt 3) [.slice A31 ((laws_toVersion_m (gt x0 k9)).Values).length c32] ((laws_toVersion_m (gt x0 k9)).Values)]) (js := []) (yv := (laws_toVersion_m (gt x0 k9))) (fun W hm => (hm.pick [1, 0] (by decide))) (fun _ _ hs => (tyVersion_join (x := (laws_toVersion_m (gt x0 k9))) hs)) rfl Try.type102 rfl (by omega) rfl rfl (Wd_none rfl) ?_
  refine WM_nil ?_
  refine QM_block_normal ?_
  refine QM_then ?_
  refine CM_region ?_
  refine wm ?_
  refine wv (fun W hm => rv_addN (p := k9) (q := 1) rfl rfl (by omega)) ?_
  refine wa ?_
  refine WM_nil ?_
  have hn35 := rng_next (R := (List DVersion)) (body := (fun k (s : (List DVersion)) => laws_toVersionS_b1 x0 k s)) (k := k9) (s := d10) (s' := (d10.set k9 (laws_toVersion_m (gt x0 k9)))) (show k9 < x0.length from by omega) (show laws_toVersionS_b1 x0 k9 d10 = Sum.inr (d10.set k9 (laws_toVersion_m (gt x0 k9))) from by unfold laws_toVersionS_b1; exact rfl) hF12
  exact QM_round (k9 + 1, (d10.set k9 (laws_toVersion_m (gt x0 k9))), ()) (subL_cons rfl (subL_cons rfl (subL_cons rfl subL_nil))) (fun W hm => hm) ⟨(by omega), hn35⟩ (show x0.length - (k9 + 1) < x0.length - k9 from by omega)
 ·have g15 : (decide (((k9 : Nat) : Int) < ((x0.length : Nat) : Int))) = false := decide_eq_false (by omega)
  refine CM_condF rfl g15 ?_
  refine CM_exit ?_
  refine QM_then_exit ?_
  refine QM_then_exit ?_
  have hE36 : rng (R := (List DVersion)) (fun k (s : (List DVersion)) => laws_toVersionS_b1 x0 k s) (x0.length - 0) 0 (List.replicate x0.length (⟨(0 : Int), [], (0 : Int), (0 : Int)⟩ : DVersion)) = Sum.inr d10 := rng_end hl14 hF12
  refine QM_block_hit ?_
  refine QM_then ?_
  refine sr ?_
  refine wm ?_
  refine wa ?_
  refine nt' ?_
  refine CM_ret ?_
  refine QM_r1 rfl (RR_tmp rfl) (fun W hm => ⟨.slice (some ⟨p7, 0, none⟩) x0.length x0.length, ?_, ?_⟩)
  ·first | rw [(show laws_toVersionS_m x0 = d10 from by unfold laws_toVersionS_m; exact fin_inr hE36 (rfl))] | rfl
  ·rw [(show laws_toVersionS_m x0 = d10 from by unfold laws_toVersionS_m; exact fin_inr hE36 (rfl))]; exact hm

def laws_toVersionSS_b1 (x0 : (List (List DVersion))) (k9 : Nat) (d10 : (List (List DVersion))) : (List (List DVersion)) ⊕ ((List (List DVersion))) :=
 Sum.inr (d10.set k9 (laws_toVersionS_m (gt x0 k9)))
def laws_toVersionSS_m (x0 : (List (List DVersion))) : (List (List DVersion)) :=
 Sum.elim id (fun (s : (List (List DVersion))) => s) (rng (R := (List (List DVersion))) (fun k (s : (List (List DVersion))) => laws_toVersionSS_b1 x0 k s) (x0.length - 0) 0 (List.replicate x0.length []))
set_option maxRecDepth 100000 in
theorem cb71 : Cb Try.prog 71 := ⟨Try.f71, _, Try.func71, rfl, by decide⟩
set_option maxRecDepth 10000 in
set_option maxHeartbeats 4000000 in
theorem laws_toVersionSS_c (w : World) (z0 : Value) (x0 : (List (List DVersion))) (r_0 : rdS (tSl tyLVersion 146) w w.heap.size z0 x0) (s_0 : (x0.length ≤ 68719476736 ∧ ∀ y ∈ x0, (y.length ≤ 68719476736 ∧ ∀ y1 ∈ y, smVersion 68719476736 y1))) :
  Calls Try.prog 71 #[z0] w fun e w' => ∃ v : Value, e = .returned (v) ∧ Mem w.heap.size w [iOwn (tSl (tSl tyVersion 102) 100) [v] (laws_toVersionSS_m x0)] w' := by
 have r5 := r_0
 obtain ⟨m1, A2, c3, rfl, q4⟩ := r_0
 have l6 : x0.length ≤ 68719476736 := s_0.1
 refine call_enterM (L := [(0, .slice A2 x0.length c3)]) (N := 23) Try.func71 rfl rfl (Nat.le_of_ble_eq_true rfl) (argsL_cons rfl argsL_nil) ?_
 refine sr ?_
 refine wa ?_
 refine nt' ?_
 refine sr ?_
 refine wm ?_
 refine wv (fun W hm => rv_len Try.underlying39 rfl) ?_
 refine WM_make (E := (tSl tyVersion 102)) (n := x0.length) (x0 := []) Try.underlying43 Try.type100 rfl rfl rfl (fun _ => own_nil) rfl rfl (show x0.length * 24 ≤ 281474976710656 from by omega) (by omega) (Wd_none rfl) (by decide) (fun p7 => ?_)
 refine wa ?_
 refine nt' ?_
 refine CM_seq ?_
 refine sr ?_
 refine wa ?_
 refine nt' ?_
 refine CM_block ?_
 refine CM_loop (σ := Nat × ((List (List DVersion))) × (Unit)) (fun s => [(0, .slice A2 x0.length c3), (3, .slice (some ⟨p7, 0, none⟩) x0.length x0.length), (4, .int .i64 ((s.1 : Nat) : Int))]) (fun s => [iOwn (tSl (tSl tyVersion 102) 100) [.slice (some ⟨p7, 0, none⟩) x0.length x0.length] s.2.1]) (fun s => s.1 ≤ x0.length ∧ rng (R := (List (List DVersion))) (fun k (s : (List (List DVersion))) => laws_toVersionSS_b1 x0 k s) (x0.length - s.1) s.1 s.2.1 = rng (R := (List (List DVersion))) (fun k (s : (List (List DVersion))) => laws_toVersionSS_b1 x0 k s) (x0.length - 0) 0 (List.replicate x0.length [])) (fun s => x0.length - s.1) (0, (List.replicate x0.length []), ()) (subL_cons rfl (subL_cons rfl (subL_cons rfl subL_nil))) (fun W hm => hm) ⟨(by omega), rfl⟩ ?_
 rintro ⟨k9, d10, ⟨⟩⟩ H13
 obtain ⟨hk11, hF12⟩ : k9 ≤ x0.length ∧ rng (R := (List (List DVersion))) (fun k (s : (List (List DVersion))) => laws_toVersionSS_b1 x0 k s) (x0.length - k9) k9 d10 = rng (R := (List (List DVersion))) (fun k (s : (List (List DVersion))) => laws_toVersionSS_b1 x0 k s) (x0.length - 0) 0 (List.replicate x0.length []) := H13
 show CM Try.prog 23 _ _ _ _ [(0, .slice A2 x0.length c3), (3, .slice (some ⟨p7, 0, none⟩) x0.length x0.length), (4, .int .i64 ((k9 : Nat) : Int))] [iOwn (tSl (tSl tyVersion 102) 100) [.slice (some ⟨p7, 0, none⟩) x0.length x0.length] d10]
 refine CM_seq ?_
 refine sr ?_
 refine wm ?_
 refine wm ?_
 refine wv (fun W hm => rv_len Try.underlying39 rfl) ?_
 refine wv (fun W hm => rv_lss rfl rfl) ?_
 refine nt' ?_
 by_cases hl14 : k9 < x0.length
 ·have g15 : (decide (((k9 : Nat) : Int) < ((x0.length : Nat) : Int))) = true := decide_eq_true (by omega)
  refine CM_condT rfl g15 ?_
  refine CM_skip ?_
  refine QM_then ?_
  refine CM_seq ?_
  refine CM_block ?_
  refine CM_region ?_
  refine wm ?_
  refine wm ?_
  refine wm ?_
  refine wm ?_
  obtain ⟨a16, rfl, hb17, he18⟩ := q4 (by omega)
  refine wv (fun W hm => rv_index (sz := 1) (k := k9) Try.underlying39 Try.type132 rfl rfl rfl (by omega)) ?_
  obtain ⟨_, e20, hc19⟩ := he18 k9 _ (gt_some (show k9 < x0.length from by omega))
  have l21 : (gt x0 k9).length ≤ 68719476736 := (s_0.2 _ (gt_mem (show k9 < x0.length from by omega))).1
  obtain ⟨v22, rfl, r23⟩ := e20
  have r28 := r23
  obtain ⟨m24, A25, c26, rfl, q27⟩ := r23
  refine wv (fun W hm => rv_load Try.underlying132 rfl rfl ((hm.cell0 (show (a16.add (k9 * 1)).block < w.heap.size from by rw [add_block]; exact hb17.1)).trans (hc19 0 _ rfl))) ?_
  refine WM_call (χ := Value) (val := fun x => x) (js := fun x => [iOwn (tSl tyVersion 102) [x] (laws_toVersionS_m (gt x0 k9))]) (cl_fn cb113 rfl) (fun W hm => laws_toVersionS_c W _ (gt x0 k9) (hm.rdS0 r28) (s_0.2 _ (gt_mem (show k9 < x0.length from by omega)))) (Wd_none rfl) (by decide) (fun z29 => ?_)
  refine WM_form (n := 0) rfl ?_
  rintro A30 c31 rfl m32
  refine wv (fun W hm => rv_index (sz := 1) (k := k9) Try.underlying43 Try.type100 rfl rfl rfl (by omega)) ?_
  refine WM_setEl (E := (tSl tyVersion 102)) (e := 100) (u := .slice A30 (laws_toVersionS_m (gt x0 k9)).length c31) (k := k9) (p := p7) (n := x0.length) (xs := d10) (eis := [iOwn (tSl tyVersion 102) [.slice A30 (laws_toVersionS_m (gt x0 k9)).length c31] (laws_toVersionS_m (gt x0 k9))]) (js := []) (yv := (laws_toVersionS_m (gt x0 k9))) (fun W hm => (hm.pick [1, 0] (by decide))) (fun _ _ hs => (Sep.one hs)) rfl Try.type100 rfl (by omega) rfl rfl (Wd_none rfl) ?_
  refine WM_nil ?_
  refine QM_block_normal ?_
  refine QM_then ?_
  refine CM_region ?_
  refine wm ?_
  refine wv (fun W hm => rv_addN (p := k9) (q := 1) rfl rfl (by omega)) ?_
  refine wa ?_
  refine WM_nil ?_
  have hn34 := rng_next (R := (List (List DVersion))) (body := (fun k (s : (List (List DVersion))) => laws_toVersionSS_b1 x0 k s)) (k := k9) (s := d10) (s' := (d10.set k9 (laws_toVersionS_m (gt x0 k9)))) (show k9 < x0.length from by omega) (show laws_toVersionSS_b1 x0 k9 d10 = Sum.inr (d10.set k9 (laws_toVersionS_m (gt x0 k9))) from by unfold laws_toVersionSS_b1; exact rfl) hF12
  exact QM_round (k9 + 1, (d10.set k9 (laws_toVersionS_m (gt x0 k9))), ()) (subL_cons rfl (subL_cons rfl (subL_cons rfl subL_nil))) (fun W hm => hm) ⟨(by omega), hn34⟩ (show x0.length - (k9 + 1) < x0.length - k9 from by omega)
 ·have g15 : (decide (((k9 : Nat) : Int) < ((x0.length : Nat) : Int))) = false := decide_eq_false (by omega)
  refine CM_condF rfl g15 ?_
  refine CM_exit ?_
  refine QM_then_exit ?_
  refine QM_then_exit ?_
  have hE35 : rng (R := (List (List DVersion))) (fun k (s : (List (List DVersion))) => laws_toVersionSS_b1 x0 k s) (x0.length - 0) 0 (List.replicate x0.length []) = Sum.inr d10 := rng_end hl14 hF12
  refine QM_block_hit ?_
  refine QM_then ?_
  refine sr ?_
  refine wm ?_
  refine wa ?_
  refine nt' ?_
  refine CM_ret ?_
  refine QM_r1 rfl (RR_tmp rfl) (fun W hm => ⟨.slice (some ⟨p7, 0, none⟩) x0.length x0.length, ?_, ?_⟩)
  ·first | rw [(show laws_toVersionSS_m x0 = d10 from by unfold laws_toVersionSS_m; exact fin_inr hE35 (rfl))] | rfl
  ·rw [(show laws_toVersionSS_m x0 = d10 from by unfold laws_toVersionSS_m; exact fin_inr hE35 (rfl))]; exact hm

def laws_toStore_m (x0 : DStore) : DStore :=
 (⟨(laws_toVersionSS_m x0.Segments), x0.Now⟩ : DStore)
set_option maxRecDepth 100000 in
theorem cb28 : Cb Try.prog 28 := ⟨Try.f28, _, Try.func28, rfl, by decide⟩
set_option maxRecDepth 10000 in
set_option maxHeartbeats 4000000 in
theorem laws_toStore_c (w : World) (z0 : List Value) (x0 : DStore) (r_0 : tyLStore.rd w w.heap.size z0 x0) (s_0 : smStore 68719476736 x0) :
  Calls Try.prog 28 #[.agg z0.toArray] w fun e w' => ∃ v : List Value, e = .returned (.agg v.toArray) ∧ Mem w.heap.size w [iOwn tyStore v (laws_toStore_m x0)] w' := by
 obtain ⟨v1, rfl, r2⟩ := tyLStore_rd r_0
 have r7 := r2
 obtain ⟨m3, A4, c5, rfl, q6⟩ := r2
 have l8 : x0.Segments.length ≤ 68719476736 := s_0.1
 refine call_enterM (L := [(0, .agg #[.slice A4 x0.Segments.length c5, .int .i64 x0.Now])]) (N := 12) Try.func28 rfl rfl (Nat.le_of_ble_eq_true rfl) (argsL_cons rfl argsL_nil) ?_
 refine sr ?_
 refine WM_box rfl (Wd_none rfl) (by decide) (fun p9 => ?_)
 refine WM_alloc Try.type45 rfl (Wd_none rfl) (by decide) (fun p10 => ?_)
 refine nt' ?_
 refine sr ?_
 refine WM_alloc Try.type45 rfl (Wd_none rfl) (by decide) (fun p11 => ?_)
 refine nt' ?_
 refine sr ?_
 refine wv (fun W hm => rv_field Try.underlying41 rfl Try.type39 (by decide) rfl rfl) ?_
 refine wv (fun W hm => rv_load Try.underlying39 rfl rfl (hm.boxCell (n := 2) (o := 0) rfl rfl)) ?_
 refine WM_call (χ := Value) (val := fun x => x) (js := fun x => [iOwn (tSl (tSl tyVersion 102) 100) [x] (laws_toVersionSS_m x0.Segments)]) (cl_fn cb71 rfl) (fun W hm => laws_toVersionSS_c W _ x0.Segments (hm.rdS0 r7) s_0) (Wd_none rfl) (by decide) (fun z12 => ?_)
 refine WM_form (n := 0) rfl ?_
 rintro A13 c14 rfl m15
 refine wv (fun W hm => rv_field Try.underlying45 rfl Try.type43 (by decide) rfl rfl) ?_
 refine WM_storeBox (p := p11) (o := 0) (cs' := [.slice A13 (laws_toVersionSS_m x0.Segments).length c14, .int .i64 0]) (js := [iOwn (tSl (tSl tyVersion 102) 100) [.slice A13 (laws_toVersionSS_m x0.Segments).length c14] (laws_toVersionSS_m x0.Segments), iBox p10 45 [.slice none 0 0, .int .i64 0], iBox p9 41 [.slice A4 x0.Segments.length c5, .int .i64 x0.Now]]) (fun W hm => (hm.pick [1, 0, 2, 3] (by decide))) Try.type43 rfl (Nat.le_of_ble_eq_true rfl) rfl rfl rfl rfl (Wd_none rfl) ?_
 refine nt' ?_
 refine sr ?_
 refine wv (fun W hm => rv_field Try.underlying41 rfl Try.type3 (by decide) rfl rfl) ?_
 refine wv (fun W hm => rv_load Try.underlying3 rfl rfl (hm.boxCell (n := 3) (o := 1) rfl rfl)) ?_
 refine wv (fun W hm => rv_field Try.underlying45 rfl Try.type3 (by decide) rfl rfl) ?_
 refine WM_storeBox (p := p11) (o := 1) (cs' := [.slice A13 (laws_toVersionSS_m x0.Segments).length c14, .int .i64 x0.Now]) (js := [iOwn (tSl (tSl tyVersion 102) 100) [.slice A13 (laws_toVersionSS_m x0.Segments).length c14] (laws_toVersionSS_m x0.Segments), iBox p10 45 [.slice none 0 0, .int .i64 0], iBox p9 41 [.slice A4 x0.Segments.length c5, .int .i64 x0.Now]]) (fun W hm => hm) Try.type3 rfl (Nat.le_of_ble_eq_true rfl) rfl rfl rfl rfl (Wd_none rfl) ?_
 refine nt' ?_
 refine sr ?_
 refine wv (fun W hm => rv_loadN (cs := [.slice A13 (laws_toVersionSS_m x0.Segments).length c14, .int .i64 x0.Now]) Try.underlying45 Try.type45 rfl rfl (hm.boxCells (n := 0) rfl)) ?_
 refine WM_storeBox (p := p10) (o := 0) (cs' := [.slice A13 (laws_toVersionSS_m x0.Segments).length c14, .int .i64 x0.Now]) (js := [iBox p11 45 [.slice A13 (laws_toVersionSS_m x0.Segments).length c14, .int .i64 x0.Now], iOwn (tSl (tSl tyVersion 102) 100) [.slice A13 (laws_toVersionSS_m x0.Segments).length c14] (laws_toVersionSS_m x0.Segments), iBox p9 41 [.slice A4 x0.Segments.length c5, .int .i64 x0.Now]]) (fun W hm => (hm.pick [2, 0, 1, 3] (by decide))) Try.type45 rfl (Nat.le_of_ble_eq_true rfl) rfl rfl rfl rfl (Wd_none rfl) ?_
 refine nt' ?_
 refine CM_ret ?_
 refine QM_r1 rfl (RR_cell (n := 0) rfl rfl Try.underlying45 Try.type45 rfl) (fun W hm => ⟨[.slice A13 (laws_toVersionSS_m x0.Segments).length c14, .int .i64 x0.Now], ?_, ?_⟩)
 ·first | rw [(show laws_toStore_m x0 = (⟨(laws_toVersionSS_m x0.Segments), x0.Now⟩ : DStore) from by unfold laws_toStore_m; exact rfl)] | rfl
 ·rw [(show laws_toStore_m x0 = (⟨(laws_toVersionSS_m x0.Segments), x0.Now⟩ : DStore) from by unfold laws_toStore_m; exact rfl)]; exact Mem.join (is := [iOwn (tSl (tSl tyVersion 102) 100) [.slice A13 (laws_toVersionSS_m x0.Segments).length c14] (laws_toVersionSS_m x0.Segments)]) (js := []) (fun _ _ hs => tyStore_join (x := (⟨(laws_toVersionSS_m x0.Segments), x0.Now⟩ : DStore)) hs) (hm.pick [2] (by decide))

def spec_l1In_m (x0 : Int) (x1 : Int) (x2 : Int) : Bool :=
 cond (decide (x1 ≤ x0)) (decide (x0 ≤ x2)) false
set_option maxRecDepth 100000 in
theorem cb110 : Cb Try.prog 110 := ⟨Try.f110, _, Try.func110, rfl, by decide⟩
set_option maxRecDepth 10000 in
set_option maxHeartbeats 4000000 in
theorem spec_l1In_c (w : World) (x0 : Int) (x1 : Int) (x2 : Int) :
  Calls Try.prog 110 #[.int .i64 x0, .int .i64 x1, .int .i64 x2] w fun e w' => e = .returned (.bool (spec_l1In_m x0 x1 x2)) ∧ Below w.heap.size w w' := by
 refine call_enterM (L := [(0, .int .i64 x0), (1, .int .i64 x1), (2, .int .i64 x2)]) (N := 15) Try.func110 rfl rfl (Nat.le_of_ble_eq_true rfl) (argsL_cons rfl (argsL_cons rfl (argsL_cons rfl argsL_nil))) ?_
 refine sr ?_
 refine wa ?_
 refine nt' ?_
 refine sr ?_
 refine wm ?_
 refine wm ?_
 refine wv (fun W hm => rv_geq rfl rfl) ?_
 refine wm ?_
 by_cases h1 : x1 ≤ x0
 ·have g2 : (decide (x1 ≤ x0)) = true := decide_eq_true h1
  refine wg (fun W hm => rv_move rfl) g2 ?_
  refine wg (fun W hm => rv_move rfl) g2 ?_
  refine wg (fun W hm => rv_leq rfl rfl) g2 ?_
  refine wv (fun W hm => rv_pickT rfl g2 rfl) ?_
  refine wa ?_
  refine nt' ?_
  refine CM_ret ?_
  exact QM_ret1 rfl rfl (fun W hm => ⟨ret_b (show spec_l1In_m x0 x1 x2 = (decide (x0 ≤ x2)) from by unfold spec_l1In_m; exact cond_t g2 (rfl)), hm.below⟩)
 ·have g2 : (decide (x1 ≤ x0)) = false := decide_eq_false h1
  refine ws g2 ?_
  refine ws g2 ?_
  refine ws g2 ?_
  refine wv (fun W hm => rv_pickF rfl g2 rfl) ?_
  refine wa ?_
  refine nt' ?_
  refine CM_ret ?_
  exact QM_ret1 rfl rfl (fun W hm => ⟨ret_b (show spec_l1In_m x0 x1 x2 = false from by unfold spec_l1In_m; exact cond_f g2 (rfl)), hm.below⟩)

theorem spec_l1In_fact {x a b : Int} (h : spec_l1In_m x a b = true) : a ≤ x ∧ x ≤ b := by
  unfold spec_l1In_m at h
  by_cases h1 : a ≤ x
  · rw [decide_eq_true h1] at h
    exact ⟨h1, of_decide_eq_true h⟩
  · rw [decide_eq_false h1] at h
    cases h
theorem spec_l1In_iff (x a b : Int) : spec_l1In_m x a b = decide (a ≤ x ∧ x ≤ b) := by
  unfold spec_l1In_m
  by_cases h1 : a ≤ x
  · by_cases h2 : x ≤ b
    · simp [h1, h2]
    · simp [h1, h2]
  · simp [h1]

def spec_l7All_b1 (x0 : DStore) (k12 : Nat) (d13 : (List DVersion)) : (List DVersion) ⊕ ((List DVersion)) :=
 Sum.inr (d13 ++ (gt x0.Segments k12))
def spec_l7All_m (x0 : DStore) : (List DVersion) :=
 Sum.elim id (fun (s : (List DVersion)) => s) (rng (R := (List DVersion)) (fun k (s : (List DVersion)) => spec_l7All_b1 x0 k s) (x0.Segments.length - 0) 0 [])
set_option maxRecDepth 100000 in
theorem cb99 : Cb Try.prog 99 := ⟨Try.f99, _, Try.func99, rfl, by decide⟩
set_option maxRecDepth 10000 in
set_option maxHeartbeats 4000000 in
theorem spec_l7All_c (B : Nat) (w0 : World) (is : List It) (w : World) (z0 : List Value) (x0 : DStore) (r_0 : tyStore.rd w0 B z0 x0) (s_0 : smStore 68719476736 x0) (hq : (x0.Segments.map List.length).sum ≤ 68719476736) (hm : Mem B w0 is w) :
  Calls Try.prog 99 #[.agg z0.toArray] w fun e w' => ∃ v : Value, e = .returned (v) ∧ Mem B w0 (iOwn (tSl (tBor tyVersion w0 B) 102) [v] (spec_l7All_m x0) :: is) w' := by
 obtain ⟨v1, rfl, r2⟩ := tyStore_rd r_0
 have r7 := r2
 obtain ⟨m3, A4, c5, rfl, q6⟩ := r2
 have l8 : x0.Segments.length ≤ 68719476736 := s_0.1
 refine call_enterW (L := [(0, .agg #[.slice A4 x0.Segments.length c5, .int .i64 x0.Now])]) (N := 21) Try.func99 rfl rfl (Nat.le_of_ble_eq_true rfl) (argsL_cons rfl argsL_nil) hm ?_
 refine sr ?_
 refine WM_box rfl (Wd_none rfl) (by decide) (fun p9 => ?_)
 refine wa ?_
 refine nt' ?_
 refine sr ?_
 refine WM_build0 (E := (tBor tyVersion w0 B)) Try.underlying100 Try.type102 (Wd_none rfl) (by decide) (fun p10 => ?_)
 refine wa ?_
 refine nt' ?_
 refine CM_seq ?_
 refine sr ?_
 refine wa ?_
 refine nt' ?_
 refine CM_block ?_
 refine CM_loop (σ := Nat × ((List DVersion)) × (Option Addr × Nat)) (fun s => [(1, .pointer (some (⟨p9, 0, none⟩ : Addr))), (3, .slice s.2.2.1 s.2.1.length s.2.2.2), (4, .int .i64 ((s.1 : Nat) : Int))]) (fun s => (iOwn (tSl (tBor tyVersion w0 B) 102) [.slice s.2.2.1 s.2.1.length s.2.2.2] s.2.1 :: iBox p9 45 [.slice A4 x0.Segments.length c5, .int .i64 x0.Now] :: is)) (fun s => s.1 ≤ x0.Segments.length ∧ rng (R := (List DVersion)) (fun k (s : (List DVersion)) => spec_l7All_b1 x0 k s) (x0.Segments.length - s.1) s.1 s.2.1 = rng (R := (List DVersion)) (fun k (s : (List DVersion)) => spec_l7All_b1 x0 k s) (x0.Segments.length - 0) 0 [] ∧ s.2.1.length ≤ ((x0.Segments.take s.1).map List.length).sum) (fun s => x0.Segments.length - s.1) (0, [], ((some ⟨p10, 0, none⟩), 0)) (subL_cons rfl (subL_cons rfl (subL_cons rfl subL_nil))) (fun W hm => hm) ⟨(by omega), rfl, Nat.zero_le _⟩ ?_
 rintro ⟨k12, d13, ⟨A14, c15⟩⟩ H18
 obtain ⟨hk16, hF17, hi19⟩ : k12 ≤ x0.Segments.length ∧ rng (R := (List DVersion)) (fun k (s : (List DVersion)) => spec_l7All_b1 x0 k s) (x0.Segments.length - k12) k12 d13 = rng (R := (List DVersion)) (fun k (s : (List DVersion)) => spec_l7All_b1 x0 k s) (x0.Segments.length - 0) 0 [] ∧ d13.length ≤ ((x0.Segments.take k12).map List.length).sum := H18
 show CM Try.prog 21 _ _ _ _ [(1, .pointer (some (⟨p9, 0, none⟩ : Addr))), (3, .slice A14 d13.length c15), (4, .int .i64 ((k12 : Nat) : Int))] (iOwn (tSl (tBor tyVersion w0 B) 102) [.slice A14 d13.length c15] d13 :: iBox p9 45 [.slice A4 x0.Segments.length c5, .int .i64 x0.Now] :: is)
 refine CM_seq ?_
 refine sr ?_
 refine wm ?_
 refine wv (fun W hm => rv_field Try.underlying45 rfl Try.type43 (by decide) rfl rfl) ?_
 refine wv (fun W hm => rv_load Try.underlying43 rfl rfl (hm.boxCell (n := 1) (o := 0) rfl rfl)) ?_
 refine wv (fun W hm => rv_len Try.underlying43 rfl) ?_
 refine wv (fun W hm => rv_lss rfl rfl) ?_
 refine nt' ?_
 by_cases hl20 : k12 < x0.Segments.length
 ·have g21 : (decide (((k12 : Nat) : Int) < ((x0.Segments.length : Nat) : Int))) = true := decide_eq_true (by omega)
  refine CM_condT rfl g21 ?_
  refine CM_skip ?_
  refine QM_then ?_
  refine CM_seq ?_
  refine CM_block ?_
  refine CM_region ?_
  refine wm ?_
  refine wv (fun W hm => rv_field Try.underlying45 rfl Try.type43 (by decide) rfl rfl) ?_
  refine wv (fun W hm => rv_load Try.underlying43 rfl rfl (hm.boxCell (n := 1) (o := 0) rfl rfl)) ?_
  refine wm ?_
  obtain ⟨a22, rfl, hb23, he24⟩ := q6 (by omega)
  refine wv (fun W hm => rv_index (sz := 1) (k := k12) Try.underlying43 Try.type100 rfl rfl rfl (by omega)) ?_
  obtain ⟨_, e26, hc25⟩ := he24 k12 _ (gt_some (show k12 < x0.Segments.length from by omega))
  have l27 : (gt x0.Segments k12).length ≤ 68719476736 := (s_0.2 _ (gt_mem (show k12 < x0.Segments.length from by omega))).1
  obtain ⟨v28, rfl, r29⟩ := e26
  have r34 := r29
  obtain ⟨m30, A31, c32, rfl, q33⟩ := r29
  refine wv (fun W hm => rv_load Try.underlying100 rfl rfl ((hm.cell0 (show (a22.add (k12 * 1)).block < B from by rw [add_block]; exact hb23.1)).trans (hc25 0 _ rfl))) ?_
  refine WM_appendR (F := (tBor tyVersion w0 B)) (E := tyVersion) (e := 102) (v := .slice A14 d13.length c15) (xs := d13) (ys := (gt x0.Segments k12)) (js := (iBox p9 45 [.slice (some a22) x0.Segments.length c5, .int .i64 x0.Now] :: is)) (fun W hm => (hm.front (n := 0) rfl)) (fun W hm => src_bor hm r34) Try.underlying100 Try.type102 rfl rfl rfl (Nat.le_of_ble_eq_true rfl) rfl rfl (show (d13.length + (gt x0.Segments k12).length) * 48 ≤ 140737488355328 from by have h1 := sum_take_succ (w := List.length) (xs := x0.Segments) (j := k12) (by omega); have h2 := sum_take_le (w := List.length) (xs := x0.Segments) (k12 + 1); omega) (show d13.length + (gt x0.Segments k12).length ≤ 9223372036854775807 from by have h1 := sum_take_succ (w := List.length) (xs := x0.Segments) (j := k12) (by omega); have h2 := sum_take_le (w := List.length) (xs := x0.Segments) (k12 + 1); omega) (Wd_none rfl) (by decide) (fun v35 => ?_)
  refine WM_form (n := 0) rfl ?_
  rintro A36 c37 rfl m38
  refine wa ?_
  refine WM_nil ?_
  refine QM_block_normal ?_
  refine QM_then ?_
  refine CM_region ?_
  refine wm ?_
  refine wv (fun W hm => rv_addN (p := k12) (q := 1) rfl rfl (by omega)) ?_
  refine wa ?_
  refine WM_nil ?_
  have hn40 := rng_next (R := (List DVersion)) (body := (fun k (s : (List DVersion)) => spec_l7All_b1 x0 k s)) (k := k12) (s := d13) (s' := (d13 ++ (gt x0.Segments k12))) (show k12 < x0.Segments.length from by omega) (show spec_l7All_b1 x0 k12 d13 = Sum.inr (d13 ++ (gt x0.Segments k12)) from by unfold spec_l7All_b1; exact rfl) hF17
  exact QM_round (k12 + 1, (d13 ++ (gt x0.Segments k12)), (A36, c37)) (subL_cons rfl (subL_cons rfl (subL_cons rfl subL_nil))) (fun W hm => hm) ⟨(by omega), hn40, (show (d13 ++ (gt x0.Segments k12)).length ≤ ((x0.Segments.take (k12 + 1)).map List.length).sum from by rw [List.length_append, sum_take_succ (by omega)]; omega)⟩ (show x0.Segments.length - (k12 + 1) < x0.Segments.length - k12 from by omega)
 ·have g21 : (decide (((k12 : Nat) : Int) < ((x0.Segments.length : Nat) : Int))) = false := decide_eq_false (by omega)
  refine CM_condF rfl g21 ?_
  refine CM_exit ?_
  refine QM_then_exit ?_
  refine QM_then_exit ?_
  have hE41 : rng (R := (List DVersion)) (fun k (s : (List DVersion)) => spec_l7All_b1 x0 k s) (x0.Segments.length - 0) 0 [] = Sum.inr d13 := rng_end hl20 hF17
  refine QM_block_hit ?_
  refine QM_then ?_
  refine sr ?_
  refine wm ?_
  refine wa ?_
  refine nt' ?_
  refine CM_ret ?_
  refine QM_r1 rfl (RR_tmp rfl) (fun W hm => ⟨.slice A14 d13.length c15, ?_, ?_⟩)
  ·first | rw [(show spec_l7All_m x0 = d13 from by unfold spec_l7All_m; exact fin_inr hE41 (rfl))] | rfl
  ·rw [(show spec_l7All_m x0 = d13 from by unfold spec_l7All_m; exact fin_inr hE41 (rfl))]; exact ((hm.front (n := 0) rfl).front (n := 1) rfl).tail

def spec_IsRow_b1 (x0 : DRow) (k9 : Nat) : Bool ⊕ (Unit) :=
 cond (spec_l1In_m (gt x0.Values k9) 0 99) (Sum.inr ()) (Sum.inl false)
def spec_IsRow_m (x0 : DRow) : Bool :=
 Sum.elim id (fun (s : Unit) => cond (spec_l1In_m x0.Id 0 999) (((x0.Values.length : Nat) : Int) == 3) false) (rng (R := Bool) (fun k (_ : Unit) => spec_IsRow_b1 x0 k) (x0.Values.length - 0) 0 ())
set_option maxRecDepth 100000 in
theorem cb81 : Cb Try.prog 81 := ⟨Try.f81, _, Try.func81, rfl, by decide⟩
set_option maxRecDepth 10000 in
set_option maxHeartbeats 4000000 in
theorem spec_IsRow_c (w : World) (z0 : List Value) (x0 : DRow) (r_0 : tyRow.rd w w.heap.size z0 x0) :
  Calls Try.prog 81 #[.agg z0.toArray] w fun e w' => e = .returned (.bool (spec_IsRow_m x0)) ∧ Below w.heap.size w w' := by
 obtain ⟨v1, rfl, r2⟩ := tyRow_rd r_0
 have r7 := r2
 obtain ⟨m3, A4, c5, rfl, q6⟩ := r2
 refine call_enterM (L := [(0, .agg #[.int .i64 x0.Id, .slice A4 x0.Values.length c5])]) (N := 27) Try.func81 rfl rfl (Nat.le_of_ble_eq_true rfl) (argsL_cons rfl argsL_nil) ?_
 refine sr ?_
 refine WM_box rfl (Wd_none rfl) (by decide) (fun p8 => ?_)
 refine wa ?_
 refine nt' ?_
 refine CM_seq ?_
 refine sr ?_
 refine wa ?_
 refine nt' ?_
 refine CM_block ?_
 refine CM_loop (σ := Nat × (Unit) × (Unit)) (fun s => [(1, .pointer (some (⟨p8, 0, none⟩ : Addr))), (3, .int .i64 ((s.1 : Nat) : Int))]) (fun s => [iBox p8 69 [.int .i64 x0.Id, .slice A4 x0.Values.length c5]]) (fun s => s.1 ≤ x0.Values.length ∧ rng (R := Bool) (fun k (_ : Unit) => spec_IsRow_b1 x0 k) (x0.Values.length - s.1) s.1 s.2.1 = rng (R := Bool) (fun k (_ : Unit) => spec_IsRow_b1 x0 k) (x0.Values.length - 0) 0 ()) (fun s => x0.Values.length - s.1) (0, (), ()) (subL_cons rfl (subL_cons rfl subL_nil)) (fun W hm => hm) ⟨(by omega), rfl⟩ ?_
 rintro ⟨k9, ⟨⟩, ⟨⟩⟩ H12
 obtain ⟨hk10, hF11⟩ : k9 ≤ x0.Values.length ∧ rng (R := Bool) (fun k (_ : Unit) => spec_IsRow_b1 x0 k) (x0.Values.length - k9) k9 () = rng (R := Bool) (fun k (_ : Unit) => spec_IsRow_b1 x0 k) (x0.Values.length - 0) 0 () := H12
 show CM Try.prog 27 _ _ _ _ [(1, .pointer (some (⟨p8, 0, none⟩ : Addr))), (3, .int .i64 ((k9 : Nat) : Int))] [iBox p8 69 [.int .i64 x0.Id, .slice A4 x0.Values.length c5]]
 refine CM_seq ?_
 refine sr ?_
 refine wm ?_
 refine wv (fun W hm => rv_field Try.underlying69 rfl Try.type33 (by decide) rfl rfl) ?_
 refine wv (fun W hm => rv_load Try.underlying33 rfl rfl (hm.boxCell (n := 0) (o := 1) rfl rfl)) ?_
 refine wv (fun W hm => rv_len Try.underlying33 rfl) ?_
 refine wv (fun W hm => rv_lss rfl rfl) ?_
 refine nt' ?_
 by_cases hl13 : k9 < x0.Values.length
 ·have g14 : (decide (((k9 : Nat) : Int) < ((x0.Values.length : Nat) : Int))) = true := decide_eq_true (by omega)
  refine CM_condT rfl g14 ?_
  refine CM_skip ?_
  refine QM_then ?_
  refine CM_seq ?_
  refine CM_block ?_
  refine sr ?_
  refine wv (fun W hm => rv_field Try.underlying69 rfl Try.type33 (by decide) rfl rfl) ?_
  refine wv (fun W hm => rv_load Try.underlying33 rfl rfl (hm.boxCell (n := 0) (o := 1) rfl rfl)) ?_
  refine wm ?_
  obtain ⟨a15, rfl, hb16, he17⟩ := q6 (by omega)
  refine wv (fun W hm => rv_index (sz := 1) (k := k9) Try.underlying33 Try.type3 rfl rfl rfl (by omega)) ?_
  refine wv (fun W hm => rv_load Try.underlying3 rfl rfl ((hm.cell0 (show (a15.add (k9 * 1)).block < w.heap.size from by rw [add_block]; exact hb16.1)).trans (rdS_int he17 k9 (by omega)))) ?_
  refine WM_callV (cl_fn cb110 rfl) (fun W hm => spec_l1In_c W (gt x0.Values k9) 0 99) (Wd_none rfl) (by decide) ?_
  refine wv (fun W hm => rv_not rfl) ?_
  refine nt' ?_
  rcases Bool.eq_false_or_eq_true (spec_l1In_m (gt x0.Values k9) 0 99) with g19 | g19
  ·
   have hw := spec_l1In_fact g19
   refine CM_condF rfl (nt g19) ?_
   refine CM_skip ?_
   refine QM_block_normal ?_
   refine QM_then ?_
   refine CM_region ?_
   refine wm ?_
   refine wv (fun W hm => rv_addN (p := k9) (q := 1) rfl rfl (by omega)) ?_
   refine wa ?_
   refine WM_nil ?_
   have hn20 := rng_next (R := Bool) (body := (fun k (_ : Unit) => spec_IsRow_b1 x0 k)) (k := k9) (s := ()) (s' := ()) (show k9 < x0.Values.length from by omega) (show spec_IsRow_b1 x0 k9 = Sum.inr () from by unfold spec_IsRow_b1; exact cond_t g19 (rfl)) hF11
   exact QM_round (k9 + 1, (), ()) (subL_cons rfl (subL_cons rfl subL_nil)) (fun W hm => hm) ⟨(by omega), hn20⟩ (show x0.Values.length - (k9 + 1) < x0.Values.length - k9 from by omega)
  ·
   refine CM_condT rfl (nf g19) ?_
   refine sr ?_
   refine wa ?_
   refine nt' ?_
   refine CM_ret ?_
   refine QM_block_ret ?_
   refine QM_then_ret ?_
   refine QM_then_ret ?_
   refine QM_block_ret ?_
   refine QM_then_ret ?_
   exact QM_ret1 rfl rfl (fun W hm => ⟨ret_b (show spec_IsRow_m x0 = false from by unfold spec_IsRow_m; exact fin_inl (rng_ret (body := (fun k (_ : Unit) => spec_IsRow_b1 x0 k)) (k := k9) (s := ()) (show k9 < x0.Values.length from by omega) (show spec_IsRow_b1 x0 k9 = Sum.inl false from by unfold spec_IsRow_b1; exact cond_f g19 (rfl)) hF11) rfl), hm.below⟩)
 ·have g14 : (decide (((k9 : Nat) : Int) < ((x0.Values.length : Nat) : Int))) = false := decide_eq_false (by omega)
  refine CM_condF rfl g14 ?_
  refine CM_exit ?_
  refine QM_then_exit ?_
  refine QM_then_exit ?_
  have hE21 : rng (R := Bool) (fun k (_ : Unit) => spec_IsRow_b1 x0 k) (x0.Values.length - 0) 0 () = Sum.inr () := rng_end hl13 hF11
  refine QM_block_hit ?_
  refine QM_then ?_
  refine sr ?_
  refine wv (fun W hm => rv_field Try.underlying69 rfl Try.type3 (by decide) rfl rfl) ?_
  refine wv (fun W hm => rv_load Try.underlying3 rfl rfl (hm.boxCell (n := 0) (o := 0) rfl rfl)) ?_
  refine WM_callV (cl_fn cb110 rfl) (fun W hm => spec_l1In_c W x0.Id 0 999) (Wd_none rfl) (by decide) ?_
  refine wm ?_
  rcases Bool.eq_false_or_eq_true (spec_l1In_m x0.Id 0 999) with g23 | g23
  ·
   have hw := spec_l1In_fact g23
   refine wg (fun W hm => rv_field Try.underlying69 rfl Try.type33 (by decide) rfl rfl) g23 ?_
   refine wg (fun W hm => rv_load Try.underlying33 rfl rfl (hm.boxCell (n := 0) (o := 1) rfl rfl)) g23 ?_
   refine wg (fun W hm => rv_len Try.underlying33 rfl) g23 ?_
   refine wg (fun W hm => rv_eql rfl rfl) g23 ?_
   refine wv (fun W hm => rv_pickT rfl g23 rfl) ?_
   refine wa ?_
   refine nt' ?_
   refine CM_ret ?_
   exact QM_ret1 rfl rfl (fun W hm => ⟨ret_b (show spec_IsRow_m x0 = (((x0.Values.length : Nat) : Int) == 3) from by unfold spec_IsRow_m; exact fin_inr hE21 (cond_t g23 (rfl))), hm.below⟩)
  ·
   refine ws g23 ?_
   refine ws g23 ?_
   refine ws g23 ?_
   refine ws g23 ?_
   refine wv (fun W hm => rv_pickF rfl g23 rfl) ?_
   refine wa ?_
   refine nt' ?_
   refine CM_ret ?_
   exact QM_ret1 rfl rfl (fun W hm => ⟨ret_b (show spec_IsRow_m x0 = false from by unfold spec_IsRow_m; exact fin_inr hE21 (cond_f g23 (rfl))), hm.below⟩)

def spec_l7Version_m (x0 : DVersion) (x1 : Int) : Bool :=
 cond (spec_IsRow_m (⟨x0.Id, x0.Values⟩ : DRow)) (cond (spec_l1In_m x0.Born 0 x1) (cond (x0.Died == (-1)) true (spec_l1In_m x0.Died (IntKind.i64.wrap (x0.Born + 1)) x1)) false) false
set_option maxRecDepth 100000 in
theorem cb111 : Cb Try.prog 111 := ⟨Try.f111, _, Try.func111, rfl, by decide⟩
set_option maxRecDepth 10000 in
set_option maxHeartbeats 4000000 in
theorem spec_l7Version_c (w : World) (z0 : List Value) (x0 : DVersion) (x1 : Int) (r_0 : tyVersion.rd w w.heap.size z0 x0) :
  Calls Try.prog 111 #[.agg z0.toArray, .int .i64 x1] w fun e w' => e = .returned (.bool (spec_l7Version_m x0 x1)) ∧ Below w.heap.size w w' := by
 obtain ⟨v1, rfl, r2⟩ := tyVersion_rd r_0
 have r7 := r2
 obtain ⟨m3, A4, c5, rfl, q6⟩ := r2
 refine call_enterM (L := [(0, .agg #[.int .i64 x0.Id, .slice A4 x0.Values.length c5, .int .i64 x0.Born, .int .i64 x0.Died]), (1, .int .i64 x1)]) (N := 31) Try.func111 rfl rfl (Nat.le_of_ble_eq_true rfl) (argsL_cons rfl (argsL_cons rfl argsL_nil)) ?_
 refine sr ?_
 refine WM_box rfl (Wd_none rfl) (by decide) (fun p8 => ?_)
 refine wa ?_
 refine nt' ?_
 refine sr ?_
 refine wv (fun W hm => rv_field Try.underlying102 rfl Try.type3 (by decide) rfl rfl) ?_
 refine wv (fun W hm => rv_load Try.underlying3 rfl rfl (hm.boxCell (n := 0) (o := 0) rfl rfl)) ?_
 refine wv (fun W hm => rv_field Try.underlying102 rfl Try.type33 (by decide) rfl rfl) ?_
 refine wv (fun W hm => rv_load Try.underlying33 rfl rfl (hm.boxCell (n := 0) (o := 1) rfl rfl)) ?_
 refine wv (fun W hm => rv_build (cs := [.int .i64 x0.Id, .slice A4 x0.Values.length c5]) rfl (by kernel_rfl)) ?_
 refine WM_callV (cl_fn cb81 rfl) (fun W hm => spec_IsRow_c W _ (⟨x0.Id, x0.Values⟩ : DRow) (tyRow_mk (x := (⟨x0.Id, x0.Values⟩ : DRow)) (hm.rdS0 r7))) (Wd_none rfl) (by decide) ?_
 refine wm ?_
 rcases Bool.eq_false_or_eq_true (spec_IsRow_m (⟨x0.Id, x0.Values⟩ : DRow)) with g10 | g10
 ·
  refine wg (fun W hm => rv_field Try.underlying102 rfl Try.type3 (by decide) rfl rfl) g10 ?_
  refine wg (fun W hm => rv_load Try.underlying3 rfl rfl (hm.boxCell (n := 0) (o := 2) rfl rfl)) g10 ?_
  refine wg (fun W hm => rv_move rfl) g10 ?_
  refine WM_callV (cl_fn cb110 rfl) (fun W hm => spec_l1In_c W x0.Born 0 x1) (Wd_some rfl rfl rfl (bw g10 rfl)) (by decide) ?_
  refine wv (fun W hm => rv_pickT rfl g10 rfl) ?_
  refine wm ?_
  rcases Bool.eq_false_or_eq_true (spec_l1In_m x0.Born 0 x1) with g12 | g12
  ·
   have hw := spec_l1In_fact g12
   refine wg (fun W hm => rv_field Try.underlying102 rfl Try.type3 (by decide) rfl rfl) g12 ?_
   refine wg (fun W hm => rv_load Try.underlying3 rfl rfl (hm.boxCell (n := 0) (o := 3) rfl rfl)) g12 ?_
   refine wg (fun W hm => rv_eql rfl rfl) g12 ?_
   refine wg (fun W hm => rv_move rfl) g12 ?_
   by_cases h13 : x0.Died = (-1)
   ·have g14 : (x0.Died == (-1)) = true := beq_iff_eq.2 h13
    refine ws g14 ?_
    refine ws g14 ?_
    refine ws g14 ?_
    refine ws g14 ?_
    refine ws g14 ?_
    refine ws g14 ?_
    refine ws g14 ?_
    refine wg (fun W hm => rv_pickT rfl g14 rfl) g12 ?_
    refine wv (fun W hm => rv_pickT rfl g12 rfl) ?_
    refine wa ?_
    refine nt' ?_
    refine CM_ret ?_
    exact QM_ret1 rfl rfl (fun W hm => ⟨ret_b (show spec_l7Version_m x0 x1 = true from by unfold spec_l7Version_m; exact cond_t g10 (cond_t g12 (cond_t g14 (rfl)))), hm.below⟩)
   ·have g14 : (x0.Died == (-1)) = false := beq_eq_false_iff_ne.2 h13
    refine wg (fun W hm => rv_field Try.underlying102 rfl Try.type3 (by decide) rfl rfl) g14 ?_
    refine wg (fun W hm => rv_load Try.underlying3 rfl rfl (hm.boxCell (n := 0) (o := 3) rfl rfl)) g14 ?_
    refine wg (fun W hm => rv_field Try.underlying102 rfl Try.type3 (by decide) rfl rfl) g14 ?_
    refine wg (fun W hm => rv_load Try.underlying3 rfl rfl (hm.boxCell (n := 0) (o := 2) rfl rfl)) g14 ?_
    refine wg (fun W hm => rv_add rfl rfl) g14 ?_
    refine wg (fun W hm => rv_move rfl) g14 ?_
    refine WM_callV (cl_fn cb110 rfl) (fun W hm => spec_l1In_c W x0.Died (IntKind.i64.wrap (x0.Born + 1)) x1) (Wd_some rfl rfl rfl (bw g14 rfl)) (by decide) ?_
    refine wg (fun W hm => rv_pickF rfl g14 rfl) g12 ?_
    refine wv (fun W hm => rv_pickT rfl g12 rfl) ?_
    refine wa ?_
    refine nt' ?_
    refine CM_ret ?_
    exact QM_ret1 rfl rfl (fun W hm => ⟨ret_b (show spec_l7Version_m x0 x1 = (spec_l1In_m x0.Died (IntKind.i64.wrap (x0.Born + 1)) x1) from by unfold spec_l7Version_m; exact cond_t g10 (cond_t g12 (cond_f g14 (rfl)))), hm.below⟩)
  ·
   refine ws g12 ?_
   refine ws g12 ?_
   refine ws g12 ?_
   refine ws g12 ?_
   refine wu ?_
   refine wu ?_
   refine wu ?_
   refine wu ?_
   refine wu ?_
   refine wu ?_
   refine wu ?_
   refine ws g12 ?_
   refine wv (fun W hm => rv_pickF rfl g12 rfl) ?_
   refine wa ?_
   refine nt' ?_
   refine CM_ret ?_
   exact QM_ret1 rfl rfl (fun W hm => ⟨ret_b (show spec_l7Version_m x0 x1 = false from by unfold spec_l7Version_m; exact cond_t g10 (cond_f g12 (rfl))), hm.below⟩)
 ·
  refine ws g10 ?_
  refine ws g10 ?_
  refine ws g10 ?_
  refine ws g10 ?_
  refine wv (fun W hm => rv_pickF rfl g10 rfl) ?_
  refine wm ?_
  refine wk ?_
  refine wk ?_
  refine wk ?_
  refine wk ?_
  refine wu ?_
  refine wu ?_
  refine wu ?_
  refine wu ?_
  refine wu ?_
  refine wu ?_
  refine wu ?_
  refine wk ?_
  refine wv (fun W hm => rv_pickF rfl rfl rfl) ?_
  refine wa ?_
  refine nt' ?_
  refine CM_ret ?_
  exact QM_ret1 rfl rfl (fun W hm => ⟨ret_b (show spec_l7Version_m x0 x1 = false from by unfold spec_l7Version_m; exact cond_f g10 (rfl)), hm.below⟩)

def spec_l7Apart_m (x0 : DVersion) (x1 : DVersion) : Bool :=
 cond (x0.Id != x1.Id) true (cond (x0.Died != (-1)) (cond (decide (x0.Died ≤ x1.Born)) true (cond (x1.Died != (-1)) (decide (x1.Died ≤ x0.Born)) false)) (cond (x1.Died != (-1)) (decide (x1.Died ≤ x0.Born)) false))
set_option maxRecDepth 100000 in
theorem cb112 : Cb Try.prog 112 := ⟨Try.f112, _, Try.func112, rfl, by decide⟩
set_option maxRecDepth 10000 in
set_option maxHeartbeats 4000000 in
theorem spec_l7Apart_c (w : World) (z0 : List Value) (x0 : DVersion) (z1 : List Value) (x1 : DVersion) (r_0 : tyVersion.rd w w.heap.size z0 x0) (r_1 : tyVersion.rd w w.heap.size z1 x1) :
  Calls Try.prog 112 #[.agg z0.toArray, .agg z1.toArray] w fun e w' => e = .returned (.bool (spec_l7Apart_m x0 x1)) ∧ Below w.heap.size w w' := by
 obtain ⟨v1, rfl, r2⟩ := tyVersion_rd r_0
 have r7 := r2
 obtain ⟨m3, A4, c5, rfl, q6⟩ := r2
 obtain ⟨v8, rfl, r9⟩ := tyVersion_rd r_1
 have r14 := r9
 obtain ⟨m10, A11, c12, rfl, q13⟩ := r9
 refine call_enterM (L := [(0, .agg #[.int .i64 x0.Id, .slice A4 x0.Values.length c5, .int .i64 x0.Born, .int .i64 x0.Died]), (1, .agg #[.int .i64 x1.Id, .slice A11 x1.Values.length c12, .int .i64 x1.Born, .int .i64 x1.Died])]) (N := 34) Try.func112 rfl rfl (Nat.le_of_ble_eq_true rfl) (argsL_cons rfl (argsL_cons rfl argsL_nil)) ?_
 refine sr ?_
 refine WM_box rfl (Wd_none rfl) (by decide) (fun p15 => ?_)
 refine WM_box rfl (Wd_none rfl) (by decide) (fun p16 => ?_)
 refine wa ?_
 refine nt' ?_
 refine sr ?_
 refine wv (fun W hm => rv_field Try.underlying102 rfl Try.type3 (by decide) rfl rfl) ?_
 refine wv (fun W hm => rv_load Try.underlying3 rfl rfl (hm.boxCell (n := 1) (o := 0) rfl rfl)) ?_
 refine wv (fun W hm => rv_field Try.underlying102 rfl Try.type3 (by decide) rfl rfl) ?_
 refine wv (fun W hm => rv_load Try.underlying3 rfl rfl (hm.boxCell (n := 0) (o := 0) rfl rfl)) ?_
 refine wv (fun W hm => rv_neq rfl rfl) ?_
 refine wm ?_
 by_cases h17 : x0.Id = x1.Id
 ·have g18 : (x0.Id != x1.Id) = false := by rw [h17]; exact bne_self_eq_false _
  refine wg (fun W hm => rv_field Try.underlying102 rfl Try.type3 (by decide) rfl rfl) g18 ?_
  refine wg (fun W hm => rv_load Try.underlying3 rfl rfl (hm.boxCell (n := 1) (o := 3) rfl rfl)) g18 ?_
  refine wg (fun W hm => rv_neq rfl rfl) g18 ?_
  refine wg (fun W hm => rv_move rfl) g18 ?_
  by_cases h19 : x0.Died = (-1)
  ·have g20 : (x0.Died != (-1)) = false := by rw [h19]; exact bne_self_eq_false _
   refine ws g20 ?_
   refine ws g20 ?_
   refine ws g20 ?_
   refine ws g20 ?_
   refine ws g20 ?_
   refine wg (fun W hm => rv_pickF rfl g20 rfl) g18 ?_
   refine wv (fun W hm => rv_pickF rfl g18 rfl) ?_
   refine wm ?_
   refine WM_val (fun W hm => rv_field Try.underlying102 rfl Try.type3 (by decide) rfl rfl) (Wd_some rfl rfl rfl rfl) rfl (by decide) ?_
   refine WM_val (fun W hm => rv_load Try.underlying3 rfl rfl (hm.boxCell (n := 0) (o := 3) rfl rfl)) (Wd_some rfl rfl rfl rfl) rfl (by decide) ?_
   refine WM_val (fun W hm => rv_neq rfl rfl) (Wd_some rfl rfl rfl rfl) rfl (by decide) ?_
   refine WM_val (fun W hm => rv_move rfl) (Wd_some rfl rfl rfl rfl) rfl (by decide) ?_
   by_cases h21 : x1.Died = (-1)
   ·have g22 : (x1.Died != (-1)) = false := by rw [h21]; exact bne_self_eq_false _
    refine ws g22 ?_
    refine ws g22 ?_
    refine ws g22 ?_
    refine ws g22 ?_
    refine ws g22 ?_
    refine WM_val (fun W hm => rv_pickF rfl g22 rfl) (Wd_some rfl rfl rfl rfl) rfl (by decide) ?_
    refine wv (fun W hm => rv_pickF rfl rfl rfl) ?_
    refine wa ?_
    refine nt' ?_
    refine CM_ret ?_
    exact QM_ret1 rfl rfl (fun W hm => ⟨ret_b (show spec_l7Apart_m x0 x1 = false from by unfold spec_l7Apart_m; exact cond_f g18 (cond_f g20 (cond_f g22 (rfl)))), hm.below⟩)
   ·have g22 : (x1.Died != (-1)) = true := bne_iff_ne.2 h21
    refine wg (fun W hm => rv_field Try.underlying102 rfl Try.type3 (by decide) rfl rfl) g22 ?_
    refine wg (fun W hm => rv_load Try.underlying3 rfl rfl (hm.boxCell (n := 0) (o := 3) rfl rfl)) g22 ?_
    refine wg (fun W hm => rv_field Try.underlying102 rfl Try.type3 (by decide) rfl rfl) g22 ?_
    refine wg (fun W hm => rv_load Try.underlying3 rfl rfl (hm.boxCell (n := 1) (o := 2) rfl rfl)) g22 ?_
    refine wg (fun W hm => rv_leq rfl rfl) g22 ?_
    refine WM_val (fun W hm => rv_pickT rfl g22 rfl) (Wd_some rfl rfl rfl rfl) rfl (by decide) ?_
    refine wv (fun W hm => rv_pickF rfl rfl rfl) ?_
    refine wa ?_
    refine nt' ?_
    refine CM_ret ?_
    exact QM_ret1 rfl rfl (fun W hm => ⟨ret_b (show spec_l7Apart_m x0 x1 = (decide (x1.Died ≤ x0.Born)) from by unfold spec_l7Apart_m; exact cond_f g18 (cond_f g20 (cond_t g22 (rfl)))), hm.below⟩)
  ·have g20 : (x0.Died != (-1)) = true := bne_iff_ne.2 h19
   refine wg (fun W hm => rv_field Try.underlying102 rfl Try.type3 (by decide) rfl rfl) g20 ?_
   refine wg (fun W hm => rv_load Try.underlying3 rfl rfl (hm.boxCell (n := 1) (o := 3) rfl rfl)) g20 ?_
   refine wg (fun W hm => rv_field Try.underlying102 rfl Try.type3 (by decide) rfl rfl) g20 ?_
   refine wg (fun W hm => rv_load Try.underlying3 rfl rfl (hm.boxCell (n := 0) (o := 2) rfl rfl)) g20 ?_
   refine wg (fun W hm => rv_leq rfl rfl) g20 ?_
   refine wg (fun W hm => rv_pickT rfl g20 rfl) g18 ?_
   refine wv (fun W hm => rv_pickF rfl g18 rfl) ?_
   refine wm ?_
   by_cases h23 : x0.Died ≤ x1.Born
   ·have g24 : (decide (x0.Died ≤ x1.Born)) = true := decide_eq_true h23
    refine ws g24 ?_
    refine ws g24 ?_
    refine ws g24 ?_
    refine ws g24 ?_
    refine wu ?_
    refine wu ?_
    refine wu ?_
    refine wu ?_
    refine wu ?_
    refine ws g24 ?_
    refine wv (fun W hm => rv_pickT rfl g24 rfl) ?_
    refine wa ?_
    refine nt' ?_
    refine CM_ret ?_
    exact QM_ret1 rfl rfl (fun W hm => ⟨ret_b (show spec_l7Apart_m x0 x1 = true from by unfold spec_l7Apart_m; exact cond_f g18 (cond_t g20 (cond_t g24 (rfl)))), hm.below⟩)
   ·have g24 : (decide (x0.Died ≤ x1.Born)) = false := decide_eq_false h23
    refine wg (fun W hm => rv_field Try.underlying102 rfl Try.type3 (by decide) rfl rfl) g24 ?_
    refine wg (fun W hm => rv_load Try.underlying3 rfl rfl (hm.boxCell (n := 0) (o := 3) rfl rfl)) g24 ?_
    refine wg (fun W hm => rv_neq rfl rfl) g24 ?_
    refine wg (fun W hm => rv_move rfl) g24 ?_
    by_cases h25 : x1.Died = (-1)
    ·have g26 : (x1.Died != (-1)) = false := by rw [h25]; exact bne_self_eq_false _
     refine ws g26 ?_
     refine ws g26 ?_
     refine ws g26 ?_
     refine ws g26 ?_
     refine ws g26 ?_
     refine wg (fun W hm => rv_pickF rfl g26 rfl) g24 ?_
     refine wv (fun W hm => rv_pickF rfl g24 rfl) ?_
     refine wa ?_
     refine nt' ?_
     refine CM_ret ?_
     exact QM_ret1 rfl rfl (fun W hm => ⟨ret_b (show spec_l7Apart_m x0 x1 = false from by unfold spec_l7Apart_m; exact cond_f g18 (cond_t g20 (cond_f g24 (cond_f g26 (rfl))))), hm.below⟩)
    ·have g26 : (x1.Died != (-1)) = true := bne_iff_ne.2 h25
     refine wg (fun W hm => rv_field Try.underlying102 rfl Try.type3 (by decide) rfl rfl) g26 ?_
     refine wg (fun W hm => rv_load Try.underlying3 rfl rfl (hm.boxCell (n := 0) (o := 3) rfl rfl)) g26 ?_
     refine wg (fun W hm => rv_field Try.underlying102 rfl Try.type3 (by decide) rfl rfl) g26 ?_
     refine wg (fun W hm => rv_load Try.underlying3 rfl rfl (hm.boxCell (n := 1) (o := 2) rfl rfl)) g26 ?_
     refine wg (fun W hm => rv_leq rfl rfl) g26 ?_
     refine wg (fun W hm => rv_pickT rfl g26 rfl) g24 ?_
     refine wv (fun W hm => rv_pickF rfl g24 rfl) ?_
     refine wa ?_
     refine nt' ?_
     refine CM_ret ?_
     exact QM_ret1 rfl rfl (fun W hm => ⟨ret_b (show spec_l7Apart_m x0 x1 = (decide (x1.Died ≤ x0.Born)) from by unfold spec_l7Apart_m; exact cond_f g18 (cond_t g20 (cond_f g24 (cond_t g26 (rfl))))), hm.below⟩)
 ·have g18 : (x0.Id != x1.Id) = true := bne_iff_ne.2 h17
  refine ws g18 ?_
  refine ws g18 ?_
  refine ws g18 ?_
  refine ws g18 ?_
  refine wu ?_
  refine wu ?_
  refine wu ?_
  refine wu ?_
  refine wu ?_
  refine ws g18 ?_
  refine wv (fun W hm => rv_pickT rfl g18 rfl) ?_
  refine wm ?_
  refine wk ?_
  refine wk ?_
  refine wk ?_
  refine wk ?_
  refine wu ?_
  refine wu ?_
  refine wu ?_
  refine wu ?_
  refine wu ?_
  refine wk ?_
  refine wv (fun W hm => rv_pickT rfl rfl rfl) ?_
  refine wa ?_
  refine nt' ?_
  refine CM_ret ?_
  exact QM_ret1 rfl rfl (fun W hm => ⟨ret_b (show spec_l7Apart_m x0 x1 = true from by unfold spec_l7Apart_m; exact cond_t g18 (rfl)), hm.below⟩)

def spec_IsStore_b3 (x0 : DStore) (k42 : Nat) (k62 : Nat) : Bool ⊕ (Unit) :=
 cond (spec_l7Apart_m (gt (spec_l7All_m x0) k42) (gt (spec_l7All_m x0) k62)) (Sum.inr ()) (Sum.inl false)
def spec_IsStore_b2 (x0 : DStore) (k42 : Nat) : Bool ⊕ (Unit) :=
 cond (spec_l7Version_m (gt (spec_l7All_m x0) k42) x0.Now) (Sum.elim Sum.inl (fun (s : Unit) => Sum.inr ()) (rng (R := Bool) (fun k (_ : Unit) => spec_IsStore_b3 x0 k42 k) (k42 - 0) 0 ())) (Sum.inl false)
def spec_IsStore_b1 (x0 : DStore) (k14 : Nat) : Bool ⊕ (Unit) :=
 cond (decide (4 < ((((gt x0.Segments k14)).length : Nat) : Int))) (Sum.inl false) (Sum.inr ())
def spec_IsStore_m (x0 : DStore) : Bool :=
 cond (spec_l1In_m ((x0.Segments.length : Nat) : Int) 1 8) (cond (spec_l1In_m x0.Now 0 100000) (Sum.elim id (fun (s1_ : Unit) => Sum.elim id (fun (s : Unit) => true) (rng (R := Bool) (fun k (_ : Unit) => spec_IsStore_b2 x0 k) ((spec_l7All_m x0).length - 0) 0 ())) (rng (R := Bool) (fun k (_ : Unit) => spec_IsStore_b1 x0 k) (x0.Segments.length - 0) 0 ())) false) false
theorem spec_IsStore_hq {x0 : DStore} (h : ((x0.Segments.length : Nat) : Int) ≤ 8) (hE : rng (R := Bool) (fun k (_ : Unit) => spec_IsStore_b1 x0 k) (x0.Segments.length - 0) 0 () = .inr ()) : (x0.Segments.map List.length).sum ≤ 68719476736 := by
 have h1 := sum_le_mul (w := List.length) (c := 4) (xs := x0.Segments) fun j hj => by
  have h2 := rng_noneU _ _ hE j (Nat.zero_le _) (by omega)
  unfold spec_IsStore_b1 at h2
  by_cases h3 : 4 < ((gt x0.Segments j).length : Int)
  ·rw [decide_eq_true h3] at h2; cases h2
  ·omega
 omega
set_option maxRecDepth 100000 in
theorem cb69 : Cb Try.prog 69 := ⟨Try.f69, _, Try.func69, rfl, by decide⟩
set_option maxRecDepth 10000 in
set_option maxHeartbeats 4000000 in
theorem spec_IsStore_c (w : World) (z0 : List Value) (x0 : DStore) (r_0 : tyStore.rd w w.heap.size z0 x0) (s_0 : smStore 68719476736 x0) :
  Calls Try.prog 69 #[.agg z0.toArray] w fun e w' => e = .returned (.bool (spec_IsStore_m x0)) ∧ Below w.heap.size w w' := by
 obtain ⟨v1, rfl, r2⟩ := tyStore_rd r_0
 have r7 := r2
 obtain ⟨m3, A4, c5, rfl, q6⟩ := r2
 have l8 : x0.Segments.length ≤ 68719476736 := s_0.1
 refine call_enterM (L := [(0, .agg #[.slice A4 x0.Segments.length c5, .int .i64 x0.Now])]) (N := 63) Try.func69 rfl rfl (Nat.le_of_ble_eq_true rfl) (argsL_cons rfl argsL_nil) ?_
 refine sr ?_
 refine WM_box rfl (Wd_none rfl) (by decide) (fun p9 => ?_)
 refine wa ?_
 refine nt' ?_
 refine CM_seq ?_
 refine sr ?_
 refine wv (fun W hm => rv_field Try.underlying45 rfl Try.type43 (by decide) rfl rfl) ?_
 refine wv (fun W hm => rv_load Try.underlying43 rfl rfl (hm.boxCell (n := 0) (o := 0) rfl rfl)) ?_
 refine wv (fun W hm => rv_len Try.underlying43 rfl) ?_
 refine WM_callV (cl_fn cb110 rfl) (fun W hm => spec_l1In_c W ((x0.Segments.length : Nat) : Int) 1 8) (Wd_none rfl) (by decide) ?_
 refine wv (fun W hm => rv_not rfl) ?_
 refine wm ?_
 rcases Bool.eq_false_or_eq_true (spec_l1In_m ((x0.Segments.length : Nat) : Int) 1 8) with g11 | g11
 ·
  have hw := spec_l1In_fact g11
  refine wg (fun W hm => rv_field Try.underlying45 rfl Try.type3 (by decide) rfl rfl) (nt g11) ?_
  refine wg (fun W hm => rv_load Try.underlying3 rfl rfl (hm.boxCell (n := 0) (o := 1) rfl rfl)) (nt g11) ?_
  refine WM_callV (cl_fn cb110 rfl) (fun W hm => spec_l1In_c W x0.Now 0 100000) (Wd_some rfl rfl rfl (bw (nt g11) rfl)) (by decide) ?_
  refine wg (fun W hm => rv_not rfl) (nt g11) ?_
  refine wv (fun W hm => rv_pickF rfl (nt g11) rfl) ?_
  refine nt' ?_
  rcases Bool.eq_false_or_eq_true (spec_l1In_m x0.Now 0 100000) with g13 | g13
  ·
   have hw := spec_l1In_fact g13
   refine CM_condF rfl (nt g13) ?_
   refine CM_skip ?_
   refine QM_then ?_
   refine CM_seq ?_
   refine sr ?_
   refine wa ?_
   refine nt' ?_
   refine CM_block ?_
   refine CM_loop (σ := Nat × (Unit) × (Unit)) (fun s => [(1, .pointer (some (⟨p9, 0, none⟩ : Addr))), (3, .int .i64 ((s.1 : Nat) : Int))]) (fun s => [iBox p9 45 [.slice A4 x0.Segments.length c5, .int .i64 x0.Now]]) (fun s => s.1 ≤ x0.Segments.length ∧ rng (R := Bool) (fun k (_ : Unit) => spec_IsStore_b1 x0 k) (x0.Segments.length - s.1) s.1 s.2.1 = rng (R := Bool) (fun k (_ : Unit) => spec_IsStore_b1 x0 k) (x0.Segments.length - 0) 0 ()) (fun s => x0.Segments.length - s.1) (0, (), ()) (subL_cons rfl (subL_cons rfl subL_nil)) (fun W hm => hm) ⟨(by omega), rfl⟩ ?_
   rintro ⟨k14, ⟨⟩, ⟨⟩⟩ H17
   obtain ⟨hk15, hF16⟩ : k14 ≤ x0.Segments.length ∧ rng (R := Bool) (fun k (_ : Unit) => spec_IsStore_b1 x0 k) (x0.Segments.length - k14) k14 () = rng (R := Bool) (fun k (_ : Unit) => spec_IsStore_b1 x0 k) (x0.Segments.length - 0) 0 () := H17
   show CM Try.prog 63 _ _ _ _ [(1, .pointer (some (⟨p9, 0, none⟩ : Addr))), (3, .int .i64 ((k14 : Nat) : Int))] [iBox p9 45 [.slice A4 x0.Segments.length c5, .int .i64 x0.Now]]
   refine CM_seq ?_
   refine sr ?_
   refine wm ?_
   refine wv (fun W hm => rv_field Try.underlying45 rfl Try.type43 (by decide) rfl rfl) ?_
   refine wv (fun W hm => rv_load Try.underlying43 rfl rfl (hm.boxCell (n := 0) (o := 0) rfl rfl)) ?_
   refine wv (fun W hm => rv_len Try.underlying43 rfl) ?_
   refine wv (fun W hm => rv_lss rfl rfl) ?_
   refine nt' ?_
   by_cases hl18 : k14 < x0.Segments.length
   ·have g19 : (decide (((k14 : Nat) : Int) < ((x0.Segments.length : Nat) : Int))) = true := decide_eq_true (by omega)
    refine CM_condT rfl g19 ?_
    refine CM_skip ?_
    refine QM_then ?_
    refine CM_seq ?_
    refine CM_block ?_
    refine sr ?_
    refine wv (fun W hm => rv_field Try.underlying45 rfl Try.type43 (by decide) rfl rfl) ?_
    refine wv (fun W hm => rv_load Try.underlying43 rfl rfl (hm.boxCell (n := 0) (o := 0) rfl rfl)) ?_
    refine wm ?_
    obtain ⟨a20, rfl, hb21, he22⟩ := q6 (by omega)
    refine wv (fun W hm => rv_index (sz := 1) (k := k14) Try.underlying43 Try.type100 rfl rfl rfl (by omega)) ?_
    obtain ⟨_, e24, hc23⟩ := he22 k14 _ (gt_some (show k14 < x0.Segments.length from by omega))
    have l25 : (gt x0.Segments k14).length ≤ 68719476736 := (s_0.2 _ (gt_mem (show k14 < x0.Segments.length from by omega))).1
    obtain ⟨v26, rfl, r27⟩ := e24
    have r32 := r27
    obtain ⟨m28, A29, c30, rfl, q31⟩ := r27
    refine wv (fun W hm => rv_load Try.underlying100 rfl rfl ((hm.cell0 (show (a20.add (k14 * 1)).block < w.heap.size from by rw [add_block]; exact hb21.1)).trans (hc23 0 _ rfl))) ?_
    refine wv (fun W hm => rv_len Try.underlying100 rfl) ?_
    refine wv (fun W hm => rv_gtr rfl rfl) ?_
    refine nt' ?_
    by_cases h33 : 4 < ((((gt x0.Segments k14)).length : Nat) : Int)
    ·have g34 : (decide (4 < ((((gt x0.Segments k14)).length : Nat) : Int))) = true := decide_eq_true h33
     refine CM_condT rfl g34 ?_
     refine sr ?_
     refine wa ?_
     refine nt' ?_
     refine CM_ret ?_
     refine QM_block_ret ?_
     refine QM_then_ret ?_
     refine QM_then_ret ?_
     refine QM_block_ret ?_
     refine QM_then_ret ?_
     exact QM_ret1 rfl rfl (fun W hm => ⟨ret_b (show spec_IsStore_m x0 = false from by unfold spec_IsStore_m; exact cond_t g11 (cond_t g13 (fin_inl (rng_ret (body := (fun k (_ : Unit) => spec_IsStore_b1 x0 k)) (k := k14) (s := ()) (show k14 < x0.Segments.length from by omega) (show spec_IsStore_b1 x0 k14 = Sum.inl false from by unfold spec_IsStore_b1; exact cond_t g34 (rfl)) hF16) rfl))), hm.below⟩)
    ·have g34 : (decide (4 < ((((gt x0.Segments k14)).length : Nat) : Int))) = false := decide_eq_false h33
     refine CM_condF rfl g34 ?_
     refine CM_skip ?_
     refine QM_block_normal ?_
     refine QM_then ?_
     refine CM_region ?_
     refine wm ?_
     refine wv (fun W hm => rv_addN (p := k14) (q := 1) rfl rfl (by omega)) ?_
     refine wa ?_
     refine WM_nil ?_
     have hn35 := rng_next (R := Bool) (body := (fun k (_ : Unit) => spec_IsStore_b1 x0 k)) (k := k14) (s := ()) (s' := ()) (show k14 < x0.Segments.length from by omega) (show spec_IsStore_b1 x0 k14 = Sum.inr () from by unfold spec_IsStore_b1; exact cond_f g34 (rfl)) hF16
     exact QM_round (k14 + 1, (), ()) (subL_cons rfl (subL_cons rfl subL_nil)) (fun W hm => hm) ⟨(by omega), hn35⟩ (show x0.Segments.length - (k14 + 1) < x0.Segments.length - k14 from by omega)
   ·have g19 : (decide (((k14 : Nat) : Int) < ((x0.Segments.length : Nat) : Int))) = false := decide_eq_false (by omega)
    refine CM_condF rfl g19 ?_
    refine CM_exit ?_
    refine QM_then_exit ?_
    refine QM_then_exit ?_
    have hE36 : rng (R := Bool) (fun k (_ : Unit) => spec_IsStore_b1 x0 k) (x0.Segments.length - 0) 0 () = Sum.inr () := rng_end hl18 hF16
    have HQ := spec_IsStore_hq (by omega) hE36
    refine QM_block_hit ?_
    refine QM_then ?_
    refine sr ?_
    refine wv (fun W hm => rv_loadN (cs := [.slice A4 x0.Segments.length c5, .int .i64 x0.Now]) Try.underlying45 Try.type45 rfl rfl (hm.boxCells (n := 0) rfl)) ?_
    refine WM_callW (χ := Value) (val := fun x => x) (js := fun x => (iOwn (tSl (tBor tyVersion w w.heap.size) 102) [x] (spec_l7All_m x0) :: [iBox p9 45 [.slice A4 x0.Segments.length c5, .int .i64 x0.Now]])) (cl_fn cb99 rfl) (fun W hm => spec_l7All_c w.heap.size w [iBox p9 45 [.slice A4 x0.Segments.length c5, .int .i64 x0.Now]] W _ x0 (tyStore_mk r7) s_0 (HQ) hm) (Wd_none rfl) (by decide) (fun v37 => ?_)
    refine WM_form (n := 0) rfl ?_
    rintro A38 c39 rfl m40
    refine wa ?_
    refine nt' ?_
    refine CM_seq ?_
    refine sr ?_
    refine wa ?_
    refine nt' ?_
    refine CM_block ?_
    refine CM_loop (σ := Nat × (Unit) × (Unit)) (fun s => [(1, .pointer (some (⟨p9, 0, none⟩ : Addr))), (4, .slice A38 (spec_l7All_m x0).length c39), (5, .int .i64 ((s.1 : Nat) : Int))]) (fun s => [iOwn (tSl (tBor tyVersion w w.heap.size) 102) [.slice A38 (spec_l7All_m x0).length c39] (spec_l7All_m x0), iBox p9 45 [.slice A4 x0.Segments.length c5, .int .i64 x0.Now]]) (fun s => s.1 ≤ (spec_l7All_m x0).length ∧ rng (R := Bool) (fun k (_ : Unit) => spec_IsStore_b2 x0 k) ((spec_l7All_m x0).length - s.1) s.1 s.2.1 = rng (R := Bool) (fun k (_ : Unit) => spec_IsStore_b2 x0 k) ((spec_l7All_m x0).length - 0) 0 ()) (fun s => (spec_l7All_m x0).length - s.1) (0, (), ()) (subL_cons rfl (subL_cons rfl (subL_cons rfl subL_nil))) (fun W hm => hm) ⟨(by omega), rfl⟩ ?_
    rintro ⟨k42, ⟨⟩, ⟨⟩⟩ H45
    obtain ⟨hk43, hF44⟩ : k42 ≤ (spec_l7All_m x0).length ∧ rng (R := Bool) (fun k (_ : Unit) => spec_IsStore_b2 x0 k) ((spec_l7All_m x0).length - k42) k42 () = rng (R := Bool) (fun k (_ : Unit) => spec_IsStore_b2 x0 k) ((spec_l7All_m x0).length - 0) 0 () := H45
    show CM Try.prog 63 _ _ _ _ [(1, .pointer (some (⟨p9, 0, none⟩ : Addr))), (4, .slice A38 (spec_l7All_m x0).length c39), (5, .int .i64 ((k42 : Nat) : Int))] [iOwn (tSl (tBor tyVersion w w.heap.size) 102) [.slice A38 (spec_l7All_m x0).length c39] (spec_l7All_m x0), iBox p9 45 [.slice A4 x0.Segments.length c5, .int .i64 x0.Now]]
    refine CM_seq ?_
    refine sr ?_
    refine wm ?_
    refine wm ?_
    refine wv (fun W hm => rv_len Try.underlying100 rfl) ?_
    refine wv (fun W hm => rv_lss rfl rfl) ?_
    refine nt' ?_
    by_cases hl46 : k42 < (spec_l7All_m x0).length
    ·have g47 : (decide (((k42 : Nat) : Int) < (((spec_l7All_m x0).length : Nat) : Int))) = true := decide_eq_true (by omega)
     refine CM_condT rfl g47 ?_
     refine CM_skip ?_
     refine QM_then ?_
     refine CM_seq ?_
     refine CM_block ?_
     refine CM_seq ?_
     refine CM_seq ?_
     refine CM_formO (n := 0) rfl (by omega) ?_
     rintro g48 rfl
     refine CM_expose (T := tyVersion) (wb := w) (Bb := w.heap.size) (e := 102) (g := g48) (n := (spec_l7All_m x0).length) (c := c39) (xs := (spec_l7All_m x0)) (js := [iBox p9 45 [.slice A4 x0.Segments.length c5, .int .i64 x0.Now]]) (fun W hm => hm) ?_
     rintro ck49 rk50
     refine CM_regionD (by kernel_rfl) (by kernel_rfl) ?_
     refine qm ?_
     refine qm ?_
     refine qv (fun W hm => rv_index (sz := 4) (k := k42) Try.underlying100 Try.type102 rfl rfl rfl (by omega)) ?_
     obtain ⟨_, e51, hc52⟩ := rk50.get (j := k42) (by omega)
     obtain ⟨v53, rfl, r54⟩ := tyVersion_rd e51
     have r59 := r54
     obtain ⟨m55, A56, c57, rfl, q58⟩ := r54
     refine qv (fun W hm => rv_loadN (cs := [.int .i64 ((gt (spec_l7All_m x0) k42).Id), .slice A56 ((gt (spec_l7All_m x0) k42).Values).length c57, .int .i64 ((gt (spec_l7All_m x0) k42).Born), .int .i64 ((gt (spec_l7All_m x0) k42).Died)]) Try.underlying102 Try.type102 rfl rfl (hm.rowCells (i := 0) rfl hc52)) ?_
     refine qv (fun W hm => rv_field Try.underlying45 rfl Try.type3 (by decide) rfl rfl) ?_
     refine qv (fun W hm => rv_load Try.underlying3 rfl rfl (hm.boxCell (n := 1) (o := 1) rfl rfl)) ?_
     refine QR_callV (cl_fn cb111 rfl) (fun W hm => spec_l7Version_c W _ (gt (spec_l7All_m x0) k42) x0.Now (tyVersion_mk (x := (gt (spec_l7All_m x0) k42)) (hm.rdS0 r59))) (Wd_none rfl) (by decide) ?_
     refine qv (fun W hm => rv_not rfl) ?_
     refine nq' ?_
     rcases Bool.eq_false_or_eq_true (spec_l7Version_m (gt (spec_l7All_m x0) k42) x0.Now) with g61 | g61
     ·
      refine CM_condF rfl (nt g61) ?_
      refine CM_skip ?_
      refine QM_then ?_
      refine sr ?_
      refine wa ?_
      refine nt' ?_
      refine CM_block ?_
      refine CM_items (fun W hm => Mem.hide rk50 hm) ?_
      refine CM_loop (σ := Nat × (Unit) × (Unit)) (fun s => [(1, .pointer (some (⟨p9, 0, none⟩ : Addr))), (4, .slice (some ⟨g48, 0, none⟩) (spec_l7All_m x0).length c39), (5, .int .i64 ((k42 : Nat) : Int)), (6, .int .i64 ((s.1 : Nat) : Int))]) (fun s => [iOwn (tSl (tBor tyVersion w w.heap.size) 102) [.slice (some ⟨g48, 0, none⟩) (spec_l7All_m x0).length c39] (spec_l7All_m x0), iBox p9 45 [.slice A4 x0.Segments.length c5, .int .i64 x0.Now]]) (fun s => s.1 ≤ k42 ∧ rng (R := Bool) (fun k (_ : Unit) => spec_IsStore_b3 x0 k42 k) (k42 - s.1) s.1 s.2.1 = rng (R := Bool) (fun k (_ : Unit) => spec_IsStore_b3 x0 k42 k) (k42 - 0) 0 ()) (fun s => k42 - s.1) (0, (), ()) (subL_cons rfl (subL_cons rfl (subL_cons rfl (subL_cons rfl subL_nil)))) (fun W hm => hm) ⟨(by omega), rfl⟩ ?_
      rintro ⟨k62, ⟨⟩, ⟨⟩⟩ H65
      obtain ⟨hk63, hF64⟩ : k62 ≤ k42 ∧ rng (R := Bool) (fun k (_ : Unit) => spec_IsStore_b3 x0 k42 k) (k42 - k62) k62 () = rng (R := Bool) (fun k (_ : Unit) => spec_IsStore_b3 x0 k42 k) (k42 - 0) 0 () := H65
      show CM Try.prog 63 _ _ _ _ [(1, .pointer (some (⟨p9, 0, none⟩ : Addr))), (4, .slice (some ⟨g48, 0, none⟩) (spec_l7All_m x0).length c39), (5, .int .i64 ((k42 : Nat) : Int)), (6, .int .i64 ((k62 : Nat) : Int))] [iOwn (tSl (tBor tyVersion w w.heap.size) 102) [.slice (some ⟨g48, 0, none⟩) (spec_l7All_m x0).length c39] (spec_l7All_m x0), iBox p9 45 [.slice A4 x0.Segments.length c5, .int .i64 x0.Now]]
      refine CM_seq ?_
      refine sr ?_
      refine wm ?_
      refine wm ?_
      refine wv (fun W hm => rv_lss rfl rfl) ?_
      refine nt' ?_
      by_cases hl66 : k62 < k42
      ·have g67 : (decide (((k62 : Nat) : Int) < ((k42 : Nat) : Int))) = true := decide_eq_true (by omega)
       refine CM_condT rfl g67 ?_
       refine CM_skip ?_
       refine QM_then ?_
       refine CM_seq ?_
       refine CM_block ?_
       refine CM_seq ?_
       refine CM_expose (T := tyVersion) (wb := w) (Bb := w.heap.size) (e := 102) (g := g48) (n := (spec_l7All_m x0).length) (c := c39) (xs := (spec_l7All_m x0)) (js := [iBox p9 45 [.slice A4 x0.Segments.length c5, .int .i64 x0.Now]]) (fun W hm => hm) ?_
       rintro ck68 rk69
       refine CM_regionD (by kernel_rfl) (by kernel_rfl) ?_
       refine qm ?_
       refine qm ?_
       refine qv (fun W hm => rv_index (sz := 4) (k := k42) Try.underlying100 Try.type102 rfl rfl rfl (by omega)) ?_
       obtain ⟨_, e70, hc71⟩ := rk69.get (j := k42) (by omega)
       obtain ⟨v72, rfl, r73⟩ := tyVersion_rd e70
       have r78 := r73
       obtain ⟨m74, A75, c76, rfl, q77⟩ := r73
       refine qv (fun W hm => rv_loadN (cs := [.int .i64 ((gt (spec_l7All_m x0) k42).Id), .slice A75 ((gt (spec_l7All_m x0) k42).Values).length c76, .int .i64 ((gt (spec_l7All_m x0) k42).Born), .int .i64 ((gt (spec_l7All_m x0) k42).Died)]) Try.underlying102 Try.type102 rfl rfl (hm.rowCells (i := 0) rfl hc71)) ?_
       refine qm ?_
       refine qm ?_
       refine qv (fun W hm => rv_index (sz := 4) (k := k62) Try.underlying100 Try.type102 rfl rfl rfl (by omega)) ?_
       obtain ⟨_, e79, hc80⟩ := rk69.get (j := k62) (by omega)
       obtain ⟨v81, rfl, r82⟩ := tyVersion_rd e79
       have r87 := r82
       obtain ⟨m83, A84, c85, rfl, q86⟩ := r82
       refine qv (fun W hm => rv_loadN (cs := [.int .i64 ((gt (spec_l7All_m x0) k62).Id), .slice A84 ((gt (spec_l7All_m x0) k62).Values).length c85, .int .i64 ((gt (spec_l7All_m x0) k62).Born), .int .i64 ((gt (spec_l7All_m x0) k62).Died)]) Try.underlying102 Try.type102 rfl rfl (hm.rowCells (i := 0) rfl hc80)) ?_
       refine QR_callV (cl_fn cb112 rfl) (fun W hm => spec_l7Apart_c W _ (gt (spec_l7All_m x0) k42) _ (gt (spec_l7All_m x0) k62) (tyVersion_mk (x := (gt (spec_l7All_m x0) k42)) (hm.rdS0 r78)) (tyVersion_mk (x := (gt (spec_l7All_m x0) k62)) (hm.rdS0 r87))) (Wd_none rfl) (by decide) ?_
       refine qv (fun W hm => rv_not rfl) ?_
       refine nq' ?_
       rcases Bool.eq_false_or_eq_true (spec_l7Apart_m (gt (spec_l7All_m x0) k42) (gt (spec_l7All_m x0) k62)) with g89 | g89
       ·
        refine CM_condF rfl (nt g89) ?_
        refine CM_skip ?_
        refine QM_block_normal ?_
        refine QM_then ?_
        refine CM_region ?_
        refine wm ?_
        refine wv (fun W hm => rv_addN (p := k62) (q := 1) rfl rfl (by omega)) ?_
        refine wa ?_
        refine WM_nil ?_
        refine QM_items (fun W hm => Mem.hide rk69 hm) ?_
        have hn90 := rng_next (R := Bool) (body := (fun k (_ : Unit) => spec_IsStore_b3 x0 k42 k)) (k := k62) (s := ()) (s' := ()) (show k62 < k42 from by omega) (show spec_IsStore_b3 x0 k42 k62 = Sum.inr () from by unfold spec_IsStore_b3; exact cond_t g89 (rfl)) hF64
        exact QM_round (k62 + 1, (), ()) (subL_cons rfl (subL_cons rfl (subL_cons rfl (subL_cons rfl subL_nil)))) (fun W hm => hm) ⟨(by omega), hn90⟩ (show k42 - (k62 + 1) < k42 - k62 from by omega)
       ·
        refine CM_condT rfl (nf g89) ?_
        refine sr ?_
        refine wa ?_
        refine nt' ?_
        refine CM_ret ?_
        refine QM_block_ret ?_
        refine QM_then_ret ?_
        refine QM_then_ret ?_
        refine QM_block_ret ?_
        refine QM_block_ret ?_
        refine QM_then_ret ?_
        refine QM_then_ret ?_
        refine QM_block_ret ?_
        refine QM_then_ret ?_
        refine QM_items (fun W hm => Mem.hide rk69 hm) ?_
        exact QM_ret1 rfl rfl (fun W hm => ⟨ret_b (show spec_IsStore_m x0 = false from by unfold spec_IsStore_m; exact cond_t g11 (cond_t g13 (fin_inr hE36 (fin_inl (rng_ret (body := (fun k (_ : Unit) => spec_IsStore_b2 x0 k)) (k := k42) (s := ()) (show k42 < (spec_l7All_m x0).length from by omega) (show spec_IsStore_b2 x0 k42 = Sum.inl false from by unfold spec_IsStore_b2; exact cond_t g61 (fin_inl (rng_ret (body := (fun k (_ : Unit) => spec_IsStore_b3 x0 k42 k)) (k := k62) (s := ()) (show k62 < k42 from by omega) (show spec_IsStore_b3 x0 k42 k62 = Sum.inl false from by unfold spec_IsStore_b3; exact cond_f g89 (rfl)) hF64) rfl)) hF44) rfl)))), hm.below⟩)
      ·have g67 : (decide (((k62 : Nat) : Int) < ((k42 : Nat) : Int))) = false := decide_eq_false (by omega)
       refine CM_condF rfl g67 ?_
       refine CM_exit ?_
       refine QM_then_exit ?_
       refine QM_then_exit ?_
       have hE91 : rng (R := Bool) (fun k (_ : Unit) => spec_IsStore_b3 x0 k42 k) (k42 - 0) 0 () = Sum.inr () := rng_end hl66 hF64
       refine QM_block_hit ?_
       refine QM_block_normal ?_
       refine QM_then ?_
       refine CM_region ?_
       refine wm ?_
       refine wv (fun W hm => rv_addN (p := k42) (q := 1) rfl rfl (by omega)) ?_
       refine wa ?_
       refine WM_nil ?_
       have hn92 := rng_next (R := Bool) (body := (fun k (_ : Unit) => spec_IsStore_b2 x0 k)) (k := k42) (s := ()) (s' := ()) (show k42 < (spec_l7All_m x0).length from by omega) (show spec_IsStore_b2 x0 k42 = Sum.inr () from by unfold spec_IsStore_b2; exact cond_t g61 (fin_inr hE91 (rfl))) hF44
       exact QM_round (k42 + 1, (), ()) (subL_cons rfl (subL_cons rfl (subL_cons rfl subL_nil))) (fun W hm => hm) ⟨(by omega), hn92⟩ (show (spec_l7All_m x0).length - (k42 + 1) < (spec_l7All_m x0).length - k42 from by omega)
     ·
      refine CM_condT rfl (nf g61) ?_
      refine sr ?_
      refine wa ?_
      refine nt' ?_
      refine CM_ret ?_
      refine QM_then_ret ?_
      refine QM_block_ret ?_
      refine QM_then_ret ?_
      refine QM_then_ret ?_
      refine QM_block_ret ?_
      refine QM_then_ret ?_
      refine QM_items (fun W hm => Mem.hide rk50 hm) ?_
      exact QM_ret1 rfl rfl (fun W hm => ⟨ret_b (show spec_IsStore_m x0 = false from by unfold spec_IsStore_m; exact cond_t g11 (cond_t g13 (fin_inr hE36 (fin_inl (rng_ret (body := (fun k (_ : Unit) => spec_IsStore_b2 x0 k)) (k := k42) (s := ()) (show k42 < (spec_l7All_m x0).length from by omega) (show spec_IsStore_b2 x0 k42 = Sum.inl false from by unfold spec_IsStore_b2; exact cond_f g61 (rfl)) hF44) rfl)))), hm.below⟩)
    ·have g47 : (decide (((k42 : Nat) : Int) < (((spec_l7All_m x0).length : Nat) : Int))) = false := decide_eq_false (by omega)
     refine CM_condF rfl g47 ?_
     refine CM_exit ?_
     refine QM_then_exit ?_
     refine QM_then_exit ?_
     have hE93 : rng (R := Bool) (fun k (_ : Unit) => spec_IsStore_b2 x0 k) ((spec_l7All_m x0).length - 0) 0 () = Sum.inr () := rng_end hl46 hF44
     refine QM_block_hit ?_
     refine QM_then ?_
     refine sr ?_
     refine wa ?_
     refine nt' ?_
     refine CM_ret ?_
     exact QM_ret1 rfl rfl (fun W hm => ⟨ret_b (show spec_IsStore_m x0 = true from by unfold spec_IsStore_m; exact cond_t g11 (cond_t g13 (fin_inr hE36 (fin_inr hE93 (rfl))))), hm.below⟩)
  ·
   refine CM_condT rfl (nf g13) ?_
   refine sr ?_
   refine wa ?_
   refine nt' ?_
   refine CM_ret ?_
   refine QM_then_ret ?_
   exact QM_ret1 rfl rfl (fun W hm => ⟨ret_b (show spec_IsStore_m x0 = false from by unfold spec_IsStore_m; exact cond_t g11 (cond_f g13 (rfl))), hm.below⟩)
 ·
  refine ws (nf g11) ?_
  refine ws (nf g11) ?_
  refine ws (nf g11) ?_
  refine ws (nf g11) ?_
  refine wv (fun W hm => rv_pickT rfl (nf g11) rfl) ?_
  refine nt' ?_
  refine CM_condT rfl rfl ?_
  refine sr ?_
  refine wa ?_
  refine nt' ?_
  refine CM_ret ?_
  refine QM_then_ret ?_
  exact QM_ret1 rfl rfl (fun W hm => ⟨ret_b (show spec_IsStore_m x0 = false from by unfold spec_IsStore_m; exact cond_f g11 (rfl)), hm.below⟩)

def spec_IsVisible_m (x0 : DVersion) (x1 : Int) : Bool :=
 cond (decide (x0.Born ≤ x1)) (cond (x0.Died == (-1)) true (decide (x1 < x0.Died))) false
set_option maxRecDepth 100000 in
theorem cb70 : Cb Try.prog 70 := ⟨Try.f70, _, Try.func70, rfl, by decide⟩
set_option maxRecDepth 10000 in
set_option maxHeartbeats 4000000 in
theorem spec_IsVisible_c (w : World) (z0 : List Value) (x0 : DVersion) (x1 : Int) (r_0 : tyVersion.rd w w.heap.size z0 x0) :
  Calls Try.prog 70 #[.agg z0.toArray, .int .i64 x1] w fun e w' => e = .returned (.bool (spec_IsVisible_m x0 x1)) ∧ Below w.heap.size w w' := by
 obtain ⟨v1, rfl, r2⟩ := tyVersion_rd r_0
 have r7 := r2
 obtain ⟨m3, A4, c5, rfl, q6⟩ := r2
 refine call_enterM (L := [(0, .agg #[.int .i64 x0.Id, .slice A4 x0.Values.length c5, .int .i64 x0.Born, .int .i64 x0.Died]), (1, .int .i64 x1)]) (N := 20) Try.func70 rfl rfl (Nat.le_of_ble_eq_true rfl) (argsL_cons rfl (argsL_cons rfl argsL_nil)) ?_
 refine sr ?_
 refine WM_box rfl (Wd_none rfl) (by decide) (fun p8 => ?_)
 refine wa ?_
 refine nt' ?_
 refine sr ?_
 refine wv (fun W hm => rv_field Try.underlying102 rfl Try.type3 (by decide) rfl rfl) ?_
 refine wv (fun W hm => rv_load Try.underlying3 rfl rfl (hm.boxCell (n := 0) (o := 2) rfl rfl)) ?_
 refine wm ?_
 refine wv (fun W hm => rv_leq rfl rfl) ?_
 refine wm ?_
 by_cases h9 : x0.Born ≤ x1
 ·have g10 : (decide (x0.Born ≤ x1)) = true := decide_eq_true h9
  refine wg (fun W hm => rv_field Try.underlying102 rfl Try.type3 (by decide) rfl rfl) g10 ?_
  refine wg (fun W hm => rv_load Try.underlying3 rfl rfl (hm.boxCell (n := 0) (o := 3) rfl rfl)) g10 ?_
  refine wg (fun W hm => rv_eql rfl rfl) g10 ?_
  refine wg (fun W hm => rv_move rfl) g10 ?_
  by_cases h11 : x0.Died = (-1)
  ·have g12 : (x0.Died == (-1)) = true := beq_iff_eq.2 h11
   refine ws g12 ?_
   refine ws g12 ?_
   refine ws g12 ?_
   refine ws g12 ?_
   refine wg (fun W hm => rv_pickT rfl g12 rfl) g10 ?_
   refine wv (fun W hm => rv_pickT rfl g10 rfl) ?_
   refine wa ?_
   refine nt' ?_
   refine CM_ret ?_
   exact QM_ret1 rfl rfl (fun W hm => ⟨ret_b (show spec_IsVisible_m x0 x1 = true from by unfold spec_IsVisible_m; exact cond_t g10 (cond_t g12 (rfl))), hm.below⟩)
  ·have g12 : (x0.Died == (-1)) = false := beq_eq_false_iff_ne.2 h11
   refine wg (fun W hm => rv_field Try.underlying102 rfl Try.type3 (by decide) rfl rfl) g12 ?_
   refine wg (fun W hm => rv_load Try.underlying3 rfl rfl (hm.boxCell (n := 0) (o := 3) rfl rfl)) g12 ?_
   refine wg (fun W hm => rv_move rfl) g12 ?_
   refine wg (fun W hm => rv_gtr rfl rfl) g12 ?_
   refine wg (fun W hm => rv_pickF rfl g12 rfl) g10 ?_
   refine wv (fun W hm => rv_pickT rfl g10 rfl) ?_
   refine wa ?_
   refine nt' ?_
   refine CM_ret ?_
   exact QM_ret1 rfl rfl (fun W hm => ⟨ret_b (show spec_IsVisible_m x0 x1 = (decide (x1 < x0.Died)) from by unfold spec_IsVisible_m; exact cond_t g10 (cond_f g12 (rfl))), hm.below⟩)
 ·have g10 : (decide (x0.Born ≤ x1)) = false := decide_eq_false h9
  refine ws g10 ?_
  refine ws g10 ?_
  refine ws g10 ?_
  refine ws g10 ?_
  refine wu ?_
  refine wu ?_
  refine wu ?_
  refine wu ?_
  refine ws g10 ?_
  refine wv (fun W hm => rv_pickF rfl g10 rfl) ?_
  refine wa ?_
  refine nt' ?_
  refine CM_ret ?_
  exact QM_ret1 rfl rfl (fun W hm => ⟨ret_b (show spec_IsVisible_m x0 x1 = false from by unfold spec_IsVisible_m; exact cond_f g10 (rfl)), hm.below⟩)

def spec_l7Rows_b1 (x0 : (List DVersion)) (x1 : Int) (k9 : Nat) (d10 : (List DRow)) : (List DRow) ⊕ ((List DRow)) :=
 cond (spec_IsVisible_m (gt x0 k9) x1) (Sum.inr (d10 ++ [(⟨(gt x0 k9).Id, (gt x0 k9).Values⟩ : DRow)])) (Sum.inr d10)
def spec_l7Rows_m (x0 : (List DVersion)) (x1 : Int) : (List DRow) :=
 Sum.elim id (fun (s : (List DRow)) => s) (rng (R := (List DRow)) (fun k (s : (List DRow)) => spec_l7Rows_b1 x0 x1 k s) (x0.length - 0) 0 [])
set_option maxRecDepth 100000 in
theorem cb98 : Cb Try.prog 98 := ⟨Try.f98, _, Try.func98, rfl, by decide⟩
set_option maxRecDepth 10000 in
set_option maxHeartbeats 4000000 in
theorem spec_l7Rows_c (w : World) (z0 : Value) (x0 : (List DVersion)) (x1 : Int) (r_0 : rdS tyVersion w w.heap.size z0 x0) (s_0 : (x0.length ≤ 68719476736 ∧ ∀ y ∈ x0, smVersion 68719476736 y)) :
  Calls Try.prog 98 #[z0, .int .i64 x1] w fun e w' => ∃ v : Value, e = .returned (v) ∧ Mem w.heap.size w [iOwn (tSl tyRow 69) [v] (spec_l7Rows_m x0 x1)] w' := by
 have r5 := r_0
 obtain ⟨m1, A2, c3, rfl, q4⟩ := r_0
 have l6 : x0.length ≤ 68719476736 := s_0.1
 refine call_enterM (L := [(0, .slice A2 x0.length c3), (1, .int .i64 x1)]) (N := 37) Try.func98 rfl rfl (Nat.le_of_ble_eq_true rfl) (argsL_cons rfl (argsL_cons rfl argsL_nil)) ?_
 refine sr ?_
 refine wa ?_
 refine nt' ?_
 refine sr ?_
 refine WM_build0 (E := tyRow) Try.underlying24 Try.type69 (Wd_none rfl) (by decide) (fun p7 => ?_)
 refine wa ?_
 refine nt' ?_
 refine CM_seq ?_
 refine sr ?_
 refine wa ?_
 refine nt' ?_
 refine CM_block ?_
 refine CM_loop (σ := Nat × ((List DRow)) × (Option Addr × Nat)) (fun s => [(0, .slice A2 x0.length c3), (1, .int .i64 x1), (5, .slice s.2.2.1 s.2.1.length s.2.2.2), (6, .int .i64 ((s.1 : Nat) : Int))]) (fun s => [iOwn (tSl tyRow 69) [.slice s.2.2.1 s.2.1.length s.2.2.2] s.2.1]) (fun s => s.1 ≤ x0.length ∧ rng (R := (List DRow)) (fun k (s : (List DRow)) => spec_l7Rows_b1 x0 x1 k s) (x0.length - s.1) s.1 s.2.1 = rng (R := (List DRow)) (fun k (s : (List DRow)) => spec_l7Rows_b1 x0 x1 k s) (x0.length - 0) 0 [] ∧ s.2.1.length ≤ 0 + s.1) (fun s => x0.length - s.1) (0, [], ((some ⟨p7, 0, none⟩), 0)) (subL_cons rfl (subL_cons rfl (subL_cons rfl (subL_cons rfl subL_nil)))) (fun W hm => hm) ⟨(by omega), rfl, Nat.le_refl _⟩ ?_
 rintro ⟨k9, d10, ⟨A11, c12⟩⟩ H15
 obtain ⟨hk13, hF14, hi16⟩ : k9 ≤ x0.length ∧ rng (R := (List DRow)) (fun k (s : (List DRow)) => spec_l7Rows_b1 x0 x1 k s) (x0.length - k9) k9 d10 = rng (R := (List DRow)) (fun k (s : (List DRow)) => spec_l7Rows_b1 x0 x1 k s) (x0.length - 0) 0 [] ∧ d10.length ≤ 0 + k9 := H15
 show CM Try.prog 37 _ _ _ _ [(0, .slice A2 x0.length c3), (1, .int .i64 x1), (5, .slice A11 d10.length c12), (6, .int .i64 ((k9 : Nat) : Int))] [iOwn (tSl tyRow 69) [.slice A11 d10.length c12] d10]
 refine CM_seq ?_
 refine sr ?_
 refine wm ?_
 refine wm ?_
 refine wv (fun W hm => rv_len Try.underlying100 rfl) ?_
 refine wv (fun W hm => rv_lss rfl rfl) ?_
 refine nt' ?_
 by_cases hl17 : k9 < x0.length
 ·have g18 : (decide (((k9 : Nat) : Int) < ((x0.length : Nat) : Int))) = true := decide_eq_true (by omega)
  refine CM_condT rfl g18 ?_
  refine CM_skip ?_
  refine QM_then ?_
  refine CM_seq ?_
  refine CM_block ?_
  refine sr ?_
  refine wm ?_
  refine wm ?_
  obtain ⟨a19, rfl, hb20, he21⟩ := q4 (by omega)
  refine wv (fun W hm => rv_index (sz := 4) (k := k9) Try.underlying100 Try.type102 rfl rfl rfl (by omega)) ?_
  obtain ⟨_, e25, hc22⟩ := he21 k9 _ (gt_some (show k9 < x0.length from by omega))
  obtain ⟨v23, rfl, r24⟩ := tyVersion_rd e25
  have l26 : ((gt x0 k9).Values).length ≤ 68719476736 := (s_0.2 _ (gt_mem (show k9 < x0.length from by omega)))
  have r31 := r24
  obtain ⟨m27, A28, c29, rfl, q30⟩ := r24
  refine wv (fun W hm => rv_loadN (cs := [.int .i64 ((gt x0 k9).Id), .slice A28 ((gt x0 k9).Values).length c29, .int .i64 ((gt x0 k9).Born), .int .i64 ((gt x0 k9).Died)]) Try.underlying102 Try.type102 rfl rfl (hm.elCells (show (a19.add (k9 * 4)).block < w.heap.size from by rw [add_block]; exact hb20.1) hc22)) ?_
  refine wm ?_
  refine WM_callV (cl_fn cb70 rfl) (fun W hm => spec_IsVisible_c W _ (gt x0 k9) x1 (tyVersion_mk (x := (gt x0 k9)) (hm.rdS0 r31))) (Wd_none rfl) (by decide) ?_
  refine nt' ?_
  rcases Bool.eq_false_or_eq_true (spec_IsVisible_m (gt x0 k9) x1) with g33 | g33
  ·
   refine CM_condT rfl g33 ?_
   refine rb 17 (s := []) (fun W hm => (hm.pick [] (by decide))) ?_
   refine qt 17 0 1 rfl (fun W hm => rv_move rfl) ?_
   refine qt 17 1 3 rfl (fun W hm => rv_move rfl) ?_
   refine qt 17 2 7 rfl (fun W hm => rv_move rfl) ?_
   refine qt 17 3 15 rfl (fun W hm => rv_index (sz := 4) (k := k9) Try.underlying100 Try.type102 rfl rfl rfl (by omega)) ?_
   refine qt 17 4 31 rfl (fun W hm => rv_field Try.underlying102 rfl Try.type3 (by decide) rfl rfl) ?_
   refine qt 17 5 63 rfl (fun W hm => rv_load Try.underlying3 rfl rfl ((hm.cell0 (show ((a19.add (k9 * 4)).add 0).block < w.heap.size from by rw [add_block, add_block]; exact hb20.1)).trans (hc22 0 _ rfl))) ?_
   refine qt 17 7 191 rfl (fun W hm => rv_move rfl) ?_
   refine qt 17 8 447 rfl (fun W hm => rv_move rfl) ?_
   refine qt 17 9 959 rfl (fun W hm => rv_index (sz := 4) (k := k9) Try.underlying100 Try.type102 rfl rfl rfl (by omega)) ?_
   refine qt 17 10 1983 rfl (fun W hm => rv_field Try.underlying102 rfl Try.type33 (by decide) rfl rfl) ?_
   refine qt 17 11 4031 rfl (fun W hm => rv_load Try.underlying33 rfl rfl ((hm.cell0 (show ((a19.add (k9 * 4)).add 1).block < w.heap.size from by rw [add_block, add_block]; exact hb20.1)).trans (hc22 1 _ rfl))) ?_
   refine qo 17 6 4095 rfl ?_
   refine WM_build0 (E := tInt) Try.underlying33 Try.type3 (Wd_none rfl) (by decide) (fun p34 => ?_)
   refine qn (fun W hm => (hm.pick [] (by decide))) ?_
   refine qo 17 12 8191 rfl ?_
   refine WM_appendR (F := tInt) (E := tInt) (e := 3) (v := .slice (some ⟨p34, 0, none⟩) 0 0) (xs := []) (ys := (gt x0 k9).Values) (js := [iOwn (tSl tyRow 69) [.slice A11 d10.length c12] d10]) (fun W hm => hm) (fun W hm => src_flat flat_int (hm.rdS0 r31)) Try.underlying33 Try.type3 rfl rfl rfl (Nat.le_of_ble_eq_true rfl) rfl rfl (show ([].length + ((gt x0 k9).Values).length) * 8 ≤ 140737488355328 from by first | omega | (simp only [List.length_append, List.length_cons, List.length_nil, List.length_take, List.length_drop] at *; omega)) (show [].length + ((gt x0 k9).Values).length ≤ 9223372036854775807 from by first | omega | (simp only [List.length_append, List.length_cons, List.length_nil, List.length_take, List.length_drop] at *; omega)) (Wd_none rfl) (by decide) (fun v36 => ?_)
   refine WM_form (n := 0) rfl ?_
   rintro A37 c38 rfl m39
   refine qn (fun W hm => (hm.pick [] (by decide))) ?_
   refine qt 17 13 16383 rfl (fun W hm => rv_build (cs := [.int .i64 ((gt x0 k9).Id), .slice A37 ((gt x0 k9).Values).length c38]) rfl (by kernel_rfl)) ?_
   refine qo 17 14 32767 rfl ?_
   refine WM_build (cs := [.int .i64 ((gt x0 k9).Id), .slice A37 ((gt x0 k9).Values).length c38]) Try.underlying24 Try.type69 rfl (by decide) (by decide) rfl (by kernel_rfl) (Wd_none rfl) (by decide) (fun p41 => ?_)
   refine qn (fun W hm => (hm.pick [] (by decide))) ?_
   refine qo 17 15 65535 rfl ?_
   refine WM_append (E := tyRow) (e := 69) (v := .slice A11 d10.length c12) (p := p41) (q := 1) (xs := d10) (ys := [(⟨(gt x0 k9).Id, (gt x0 k9).Values⟩ : DRow)]) (eis := [iOwn (tSl tInt 3) [.slice A37 ((gt x0 k9).Values).length c38] ((gt x0 k9).Values)]) (js := []) (news := [.int .i64 ((gt x0 k9).Id), .slice A37 ((gt x0 k9).Values).length c38]) (fun W hm => (hm.pick [0, 2, 1] (by decide))) (fun _ _ hs => Els.single (tyRow_join (x := (⟨(gt x0 k9).Id, (gt x0 k9).Values⟩ : DRow)) hs)) Try.underlying24 Try.type69 rfl rfl rfl (Nat.le_of_ble_eq_true rfl) rfl rfl rfl (show (d10.length + 1) * 32 ≤ 140737488355328 from by omega) (show d10.length + 1 ≤ 9223372036854775807 from by omega) (Wd_none rfl) (by decide) (fun v42 => ?_)
   refine WM_form (n := 0) rfl ?_
   rintro A43 c44 rfl m45
   refine qn (fun W hm => (hm.pick [] (by decide))) ?_
   refine qt 17 16 131071 rfl (fun W hm => rv_assign rfl) ?_
   refine QB_done (by kernel_rfl) ?_
   refine QM_block_normal ?_
   refine QM_then ?_
   refine CM_region ?_
   refine wm ?_
   refine wv (fun W hm => rv_addN (p := k9) (q := 1) rfl rfl (by omega)) ?_
   refine wa ?_
   refine WM_nil ?_
   have hn47 := rng_next (R := (List DRow)) (body := (fun k (s : (List DRow)) => spec_l7Rows_b1 x0 x1 k s)) (k := k9) (s := d10) (s' := (d10 ++ [(⟨(gt x0 k9).Id, (gt x0 k9).Values⟩ : DRow)])) (show k9 < x0.length from by omega) (show spec_l7Rows_b1 x0 x1 k9 d10 = Sum.inr (d10 ++ [(⟨(gt x0 k9).Id, (gt x0 k9).Values⟩ : DRow)]) from by unfold spec_l7Rows_b1; exact cond_t g33 (rfl)) hF14
   exact QM_round (k9 + 1, (d10 ++ [(⟨(gt x0 k9).Id, (gt x0 k9).Values⟩ : DRow)]), (A43, c44)) (subL_cons rfl (subL_cons rfl (subL_cons rfl (subL_cons rfl subL_nil)))) (fun W hm => hm) ⟨(by omega), hn47, (show (d10 ++ [(⟨(gt x0 k9).Id, (gt x0 k9).Values⟩ : DRow)]).length ≤ 0 + (k9 + 1) from by first | omega | (simp only [List.length_append, List.length_cons, List.length_nil] at *; omega))⟩ (show x0.length - (k9 + 1) < x0.length - k9 from by omega)
  ·
   refine CM_condF rfl g33 ?_
   refine CM_skip ?_
   refine QM_block_normal ?_
   refine QM_then ?_
   refine CM_region ?_
   refine wm ?_
   refine wv (fun W hm => rv_addN (p := k9) (q := 1) rfl rfl (by omega)) ?_
   refine wa ?_
   refine WM_nil ?_
   have hn48 := rng_next (R := (List DRow)) (body := (fun k (s : (List DRow)) => spec_l7Rows_b1 x0 x1 k s)) (k := k9) (s := d10) (s' := d10) (show k9 < x0.length from by omega) (show spec_l7Rows_b1 x0 x1 k9 d10 = Sum.inr d10 from by unfold spec_l7Rows_b1; exact cond_f g33 (rfl)) hF14
   exact QM_round (k9 + 1, d10, (A11, c12)) (subL_cons rfl (subL_cons rfl (subL_cons rfl (subL_cons rfl subL_nil)))) (fun W hm => hm) ⟨(by omega), hn48, (show d10.length ≤ 0 + (k9 + 1) from by first | omega | (simp only [List.length_append, List.length_cons, List.length_nil] at *; omega))⟩ (show x0.length - (k9 + 1) < x0.length - k9 from by omega)
 ·have g18 : (decide (((k9 : Nat) : Int) < ((x0.length : Nat) : Int))) = false := decide_eq_false (by omega)
  refine CM_condF rfl g18 ?_
  refine CM_exit ?_
  refine QM_then_exit ?_
  refine QM_then_exit ?_
  have hE49 : rng (R := (List DRow)) (fun k (s : (List DRow)) => spec_l7Rows_b1 x0 x1 k s) (x0.length - 0) 0 [] = Sum.inr d10 := rng_end hl17 hF14
  refine QM_block_hit ?_
  refine QM_then ?_
  refine sr ?_
  refine wm ?_
  refine wa ?_
  refine nt' ?_
  refine CM_ret ?_
  refine QM_r1 rfl (RR_tmp rfl) (fun W hm => ⟨.slice A11 d10.length c12, ?_, ?_⟩)
  ·first | rw [(show spec_l7Rows_m x0 x1 = d10 from by unfold spec_l7Rows_m; exact fin_inr hE49 (rfl))] | rfl
  ·rw [(show spec_l7Rows_m x0 x1 = d10 from by unfold spec_l7Rows_m; exact fin_inr hE49 (rfl))]; exact hm

def spec_l3LessInts_b1 (x0 : (List Int)) (x1 : (List Int)) (k11 : Nat) : Bool ⊕ ((Unit) ⊕ (Unit)) :=
 cond (decide (((k11 : Nat) : Int) < ((x1.length : Nat) : Int))) (cond ((gt x0 k11) != (gt x1 k11)) (Sum.inl (decide ((gt x0 k11) < (gt x1 k11)))) (Sum.inr (Sum.inr ()))) (Sum.inr (Sum.inl ()))
def spec_l3LessInts_m (x0 : (List Int)) (x1 : (List Int)) : Bool :=
 Sum.elim id (fun (s : Unit) => (decide (((x0.length : Nat) : Int) < ((x1.length : Nat) : Int)))) (rngb (R := Bool) (fun k (_ : Unit) => spec_l3LessInts_b1 x0 x1 k) (x0.length - 0) 0 ())
set_option maxRecDepth 100000 in
theorem cb135 : Cb Try.prog 135 := ⟨Try.f135, _, Try.func135, rfl, by decide⟩
set_option maxRecDepth 10000 in
set_option maxHeartbeats 4000000 in
theorem spec_l3LessInts_c (w : World) (z0 : Value) (x0 : (List Int)) (z1 : Value) (x1 : (List Int)) (r_0 : rdS tInt w w.heap.size z0 x0) (r_1 : rdS tInt w w.heap.size z1 x1) :
  Calls Try.prog 135 #[z0, z1] w fun e w' => e = .returned (.bool (spec_l3LessInts_m x0 x1)) ∧ Below w.heap.size w w' := by
 have r5 := r_0
 obtain ⟨m1, A2, c3, rfl, q4⟩ := r_0
 have r10 := r_1
 obtain ⟨m6, A7, c8, rfl, q9⟩ := r_1
 refine call_enterM (L := [(0, .slice A2 x0.length c3), (1, .slice A7 x1.length c8)]) (N := 41) Try.func135 rfl rfl (Nat.le_of_ble_eq_true rfl) (argsL_cons rfl (argsL_cons rfl argsL_nil)) ?_
 refine sr ?_
 refine wa ?_
 refine nt' ?_
 refine CM_seq ?_
 refine sr ?_
 refine wa ?_
 refine nt' ?_
 refine CM_cut (σ := (Unit) × (Unit)) (fun s => [(0, .slice A2 x0.length c3), (1, .slice A7 x1.length c8)]) (fun s => []) (fun s => rngb (R := Bool) (fun k (_ : Unit) => spec_l3LessInts_b1 x0 x1 k) (x0.length - 0) 0 () = Sum.inr s.1) ?_ ?_
 ·
  refine CM_block ?_
  refine CM_loop (σ := Nat × (Unit) × (Unit)) (fun s => [(0, .slice A2 x0.length c3), (1, .slice A7 x1.length c8), (5, .int .i64 ((s.1 : Nat) : Int))]) (fun s => []) (fun s => s.1 ≤ x0.length ∧ rngb (R := Bool) (fun k (_ : Unit) => spec_l3LessInts_b1 x0 x1 k) (x0.length - s.1) s.1 s.2.1 = rngb (R := Bool) (fun k (_ : Unit) => spec_l3LessInts_b1 x0 x1 k) (x0.length - 0) 0 ()) (fun s => x0.length - s.1) (0, (), ()) (subL_cons rfl (subL_cons rfl (subL_cons rfl subL_nil))) (fun W hm => hm) ⟨(by omega), rfl⟩ ?_
  rintro ⟨k11, ⟨⟩, ⟨⟩⟩ H14
  obtain ⟨hk12, hF13⟩ : k11 ≤ x0.length ∧ rngb (R := Bool) (fun k (_ : Unit) => spec_l3LessInts_b1 x0 x1 k) (x0.length - k11) k11 () = rngb (R := Bool) (fun k (_ : Unit) => spec_l3LessInts_b1 x0 x1 k) (x0.length - 0) 0 () := H14
  show CM Try.prog 41 _ _ _ _ [(0, .slice A2 x0.length c3), (1, .slice A7 x1.length c8), (5, .int .i64 ((k11 : Nat) : Int))] []
  refine CM_seq ?_
  refine sr ?_
  refine wm ?_
  refine wm ?_
  refine wv (fun W hm => rv_len Try.underlying33 rfl) ?_
  refine wv (fun W hm => rv_lss rfl rfl) ?_
  refine wm ?_
  by_cases hl15 : k11 < x0.length
  ·have g16 : (decide (((k11 : Nat) : Int) < ((x0.length : Nat) : Int))) = true := decide_eq_true (by omega)
   refine wg (fun W hm => rv_move rfl) g16 ?_
   refine wg (fun W hm => rv_move rfl) g16 ?_
   refine wg (fun W hm => rv_len Try.underlying33 rfl) g16 ?_
   refine wg (fun W hm => rv_lss rfl rfl) g16 ?_
   refine wv (fun W hm => rv_pickT rfl g16 rfl) ?_
   refine nt' ?_
   by_cases h17 : ((k11 : Nat) : Int) < ((x1.length : Nat) : Int)
   ·have g18 : (decide (((k11 : Nat) : Int) < ((x1.length : Nat) : Int))) = true := decide_eq_true h17
    refine CM_condT rfl g18 ?_
    refine CM_skip ?_
    refine QM_then ?_
    refine CM_seq ?_
    refine CM_block ?_
    refine CM_seq ?_
    refine CM_regionD (by kernel_rfl) (by kernel_rfl) ?_
    refine qm ?_
    refine qm ?_
    obtain ⟨a19, rfl, hb20, he21⟩ := q4 (by omega)
    refine qv (fun W hm => rv_index (sz := 1) (k := k11) Try.underlying33 Try.type3 rfl rfl rfl (by omega)) ?_
    refine qv (fun W hm => rv_load Try.underlying3 rfl rfl ((hm.cell0 (show (a19.add (k11 * 1)).block < w.heap.size from by rw [add_block]; exact hb20.1)).trans (rdS_int he21 k11 (by omega)))) ?_
    refine qm ?_
    refine qm ?_
    obtain ⟨a22, rfl, hb23, he24⟩ := q9 (by omega)
    refine qv (fun W hm => rv_index (sz := 1) (k := k11) Try.underlying33 Try.type3 rfl rfl rfl (by omega)) ?_
    refine qv (fun W hm => rv_load Try.underlying3 rfl rfl ((hm.cell0 (show (a22.add (k11 * 1)).block < w.heap.size from by rw [add_block]; exact hb23.1)).trans (rdS_int he24 k11 (by omega)))) ?_
    refine qv (fun W hm => rv_neq rfl rfl) ?_
    refine nq' ?_
    by_cases h25 : (gt x0 k11) = (gt x1 k11)
    ·have g26 : ((gt x0 k11) != (gt x1 k11)) = false := by rw [h25]; exact bne_self_eq_false _
     refine CM_condF rfl g26 ?_
     refine CM_skip ?_
     refine QM_block_normal ?_
     refine QM_then ?_
     refine CM_region ?_
     refine wm ?_
     refine wv (fun W hm => rv_addN (p := k11) (q := 1) rfl rfl (by omega)) ?_
     refine wa ?_
     refine WM_nil ?_
     have hn27 := rngb_next (R := Bool) (body := (fun k (_ : Unit) => spec_l3LessInts_b1 x0 x1 k)) (k := k11) (s := ()) (s' := ()) (show k11 < x0.length from by omega) (show spec_l3LessInts_b1 x0 x1 k11 = Sum.inr (Sum.inr ()) from by unfold spec_l3LessInts_b1; exact cond_t g18 (cond_f g26 (rfl))) hF13
     exact QM_round (k11 + 1, (), ()) (subL_cons rfl (subL_cons rfl (subL_cons rfl subL_nil))) (fun W hm => hm) ⟨(by omega), hn27⟩ (show x0.length - (k11 + 1) < x0.length - k11 from by omega)
    ·have g26 : ((gt x0 k11) != (gt x1 k11)) = true := bne_iff_ne.2 h25
     refine CM_condT rfl g26 ?_
     refine CM_seq ?_
     refine CM_regionD (by kernel_rfl) (by kernel_rfl) ?_
     refine qm ?_
     refine qm ?_
     refine qv (fun W hm => rv_index (sz := 1) (k := k11) Try.underlying33 Try.type3 rfl rfl rfl (by omega)) ?_
     refine qv (fun W hm => rv_load Try.underlying3 rfl rfl ((hm.cell0 (show (a19.add (k11 * 1)).block < w.heap.size from by rw [add_block]; exact hb20.1)).trans (rdS_int he21 k11 (by omega)))) ?_
     refine qm ?_
     refine qm ?_
     refine qv (fun W hm => rv_index (sz := 1) (k := k11) Try.underlying33 Try.type3 rfl rfl rfl (by omega)) ?_
     refine qv (fun W hm => rv_load Try.underlying3 rfl rfl ((hm.cell0 (show (a22.add (k11 * 1)).block < w.heap.size from by rw [add_block]; exact hb23.1)).trans (rdS_int he24 k11 (by omega)))) ?_
     refine qv (fun W hm => rv_lss rfl rfl) ?_
     refine qv (fun W hm => rv_assign rfl) ?_
     refine nq' ?_
     refine CM_ret ?_
     refine QM_block_ret ?_
     refine QM_then_ret ?_
     refine QM_then_ret ?_
     refine QM_block_ret ?_
     refine QM_cut_ret ?_
     refine QM_then_ret ?_
     exact QM_ret1 rfl rfl (fun W hm => ⟨ret_b (show spec_l3LessInts_m x0 x1 = (decide ((gt x0 k11) < (gt x1 k11))) from by unfold spec_l3LessInts_m; exact fin_inl (rngb_ret (body := (fun k (_ : Unit) => spec_l3LessInts_b1 x0 x1 k)) (k := k11) (s := ()) (show k11 < x0.length from by omega) (show spec_l3LessInts_b1 x0 x1 k11 = Sum.inl (decide ((gt x0 k11) < (gt x1 k11))) from by unfold spec_l3LessInts_b1; exact cond_t g18 (cond_t g26 (rfl))) hF13) rfl), hm.below⟩)
   ·have g18 : (decide (((k11 : Nat) : Int) < ((x1.length : Nat) : Int))) = false := decide_eq_false h17
    refine CM_condF rfl g18 ?_
    refine CM_exit ?_
    refine QM_then_exit ?_
    refine QM_then_exit ?_
    refine QM_block_hit ?_
    have hE28 := rngb_brk (R := Bool) (body := (fun k (_ : Unit) => spec_l3LessInts_b1 x0 x1 k)) (k := k11) (s := ()) (s' := ()) (show k11 < x0.length from by omega) (show spec_l3LessInts_b1 x0 x1 k11 = Sum.inr (Sum.inl ()) from by unfold spec_l3LessInts_b1; exact cond_f g18 (rfl)) hF13
    exact QM_cut_normal ((), ()) (subL_cons rfl (subL_cons rfl subL_nil)) (fun W hm => hm) hE28
  ·have g16 : (decide (((k11 : Nat) : Int) < ((x0.length : Nat) : Int))) = false := decide_eq_false (by omega)
   refine ws g16 ?_
   refine ws g16 ?_
   refine ws g16 ?_
   refine ws g16 ?_
   refine wv (fun W hm => rv_pickF rfl g16 rfl) ?_
   refine nt' ?_
   refine CM_condF rfl rfl ?_
   refine CM_exit ?_
   refine QM_then_exit ?_
   refine QM_then_exit ?_
   refine QM_block_hit ?_
   have hE29 : rngb (R := Bool) (fun k (_ : Unit) => spec_l3LessInts_b1 x0 x1 k) (x0.length - 0) 0 () = Sum.inr () := rngb_end hl15 hF13
   exact QM_cut_normal ((), ()) (subL_cons rfl (subL_cons rfl subL_nil)) (fun W hm => hm) hE29
 ·
  rintro ⟨⟨⟩, ⟨⟩⟩ H31
  have hE30 : rngb (R := Bool) (fun k (_ : Unit) => spec_l3LessInts_b1 x0 x1 k) (x0.length - 0) 0 () = Sum.inr () := H31
  show QM 41 _ _ _ .normal [(0, .slice A2 x0.length c3), (1, .slice A7 x1.length c8)] []
  refine QM_then ?_
  refine sr ?_
  refine wm ?_
  refine wv (fun W hm => rv_len Try.underlying33 rfl) ?_
  refine wm ?_
  refine wv (fun W hm => rv_len Try.underlying33 rfl) ?_
  refine wv (fun W hm => rv_lss rfl rfl) ?_
  refine wa ?_
  refine nt' ?_
  refine CM_ret ?_
  exact QM_ret1 rfl rfl (fun W hm => ⟨ret_b (show spec_l3LessInts_m x0 x1 = (decide (((x0.length : Nat) : Int) < ((x1.length : Nat) : Int))) from by unfold spec_l3LessInts_m; exact fin_inr hE30 (rfl)), hm.below⟩)

def spec_l3Less_m (x0 : DRow) (x1 : DRow) : Bool :=
 cond (x0.Id != x1.Id) (decide (x0.Id < x1.Id)) (spec_l3LessInts_m x0.Values x1.Values)
set_option maxRecDepth 100000 in
theorem cb123 : Cb Try.prog 123 := ⟨Try.f123, _, Try.func123, rfl, by decide⟩
set_option maxRecDepth 10000 in
set_option maxHeartbeats 4000000 in
theorem spec_l3Less_c (w : World) (z0 : List Value) (x0 : DRow) (z1 : List Value) (x1 : DRow) (r_0 : tyRow.rd w w.heap.size z0 x0) (r_1 : tyRow.rd w w.heap.size z1 x1) :
  Calls Try.prog 123 #[.agg z0.toArray, .agg z1.toArray] w fun e w' => e = .returned (.bool (spec_l3Less_m x0 x1)) ∧ Below w.heap.size w w' := by
 obtain ⟨v1, rfl, r2⟩ := tyRow_rd r_0
 have r7 := r2
 obtain ⟨m3, A4, c5, rfl, q6⟩ := r2
 obtain ⟨v8, rfl, r9⟩ := tyRow_rd r_1
 have r14 := r9
 obtain ⟨m10, A11, c12, rfl, q13⟩ := r9
 refine call_enterM (L := [(0, .agg #[.int .i64 x0.Id, .slice A4 x0.Values.length c5]), (1, .agg #[.int .i64 x1.Id, .slice A11 x1.Values.length c12])]) (N := 20) Try.func123 rfl rfl (Nat.le_of_ble_eq_true rfl) (argsL_cons rfl (argsL_cons rfl argsL_nil)) ?_
 refine sr ?_
 refine WM_box rfl (Wd_none rfl) (by decide) (fun p15 => ?_)
 refine WM_box rfl (Wd_none rfl) (by decide) (fun p16 => ?_)
 refine wa ?_
 refine nt' ?_
 refine CM_seq ?_
 refine sr ?_
 refine wv (fun W hm => rv_field Try.underlying69 rfl Try.type3 (by decide) rfl rfl) ?_
 refine wv (fun W hm => rv_load Try.underlying3 rfl rfl (hm.boxCell (n := 1) (o := 0) rfl rfl)) ?_
 refine wv (fun W hm => rv_field Try.underlying69 rfl Try.type3 (by decide) rfl rfl) ?_
 refine wv (fun W hm => rv_load Try.underlying3 rfl rfl (hm.boxCell (n := 0) (o := 0) rfl rfl)) ?_
 refine wv (fun W hm => rv_neq rfl rfl) ?_
 refine nt' ?_
 by_cases h17 : x0.Id = x1.Id
 ·have g18 : (x0.Id != x1.Id) = false := by rw [h17]; exact bne_self_eq_false _
  refine CM_condF rfl g18 ?_
  refine CM_skip ?_
  refine QM_then ?_
  refine sr ?_
  refine wv (fun W hm => rv_field Try.underlying69 rfl Try.type33 (by decide) rfl rfl) ?_
  refine wv (fun W hm => rv_load Try.underlying33 rfl rfl (hm.boxCell (n := 1) (o := 1) rfl rfl)) ?_
  refine wv (fun W hm => rv_field Try.underlying69 rfl Try.type33 (by decide) rfl rfl) ?_
  refine wv (fun W hm => rv_load Try.underlying33 rfl rfl (hm.boxCell (n := 0) (o := 1) rfl rfl)) ?_
  refine WM_callV (cl_fn cb135 rfl) (fun W hm => spec_l3LessInts_c W _ x0.Values _ x1.Values (hm.rdS0 r7) (hm.rdS0 r14)) (Wd_none rfl) (by decide) ?_
  refine wa ?_
  refine nt' ?_
  refine CM_ret ?_
  exact QM_ret1 rfl rfl (fun W hm => ⟨ret_b (show spec_l3Less_m x0 x1 = (spec_l3LessInts_m x0.Values x1.Values) from by unfold spec_l3Less_m; exact cond_f g18 (rfl)), hm.below⟩)
 ·have g18 : (x0.Id != x1.Id) = true := bne_iff_ne.2 h17
  refine CM_condT rfl g18 ?_
  refine sr ?_
  refine wv (fun W hm => rv_field Try.underlying69 rfl Try.type3 (by decide) rfl rfl) ?_
  refine wv (fun W hm => rv_load Try.underlying3 rfl rfl (hm.boxCell (n := 1) (o := 0) rfl rfl)) ?_
  refine wv (fun W hm => rv_field Try.underlying69 rfl Try.type3 (by decide) rfl rfl) ?_
  refine wv (fun W hm => rv_load Try.underlying3 rfl rfl (hm.boxCell (n := 0) (o := 0) rfl rfl)) ?_
  refine wv (fun W hm => rv_lss rfl rfl) ?_
  refine wa ?_
  refine nt' ?_
  refine CM_ret ?_
  refine QM_then_ret ?_
  exact QM_ret1 rfl rfl (fun W hm => ⟨ret_b (show spec_l3Less_m x0 x1 = (decide (x0.Id < x1.Id)) from by unfold spec_l3Less_m; exact cond_t g18 (rfl)), hm.below⟩)

def spec_l3Copy_m (x0 : DRow) : DRow :=
 x0
set_option maxRecDepth 100000 in
theorem cb58 : Cb Try.prog 58 := ⟨Try.f58, _, Try.func58, rfl, by decide⟩
set_option maxRecDepth 10000 in
set_option maxHeartbeats 4000000 in
theorem spec_l3Copy_c (w : World) (z0 : List Value) (x0 : DRow) (r_0 : tyRow.rd w w.heap.size z0 x0) (s_0 : smRow 68719476736 x0) :
  Calls Try.prog 58 #[.agg z0.toArray] w fun e w' => ∃ v : List Value, e = .returned (.agg v.toArray) ∧ Mem w.heap.size w [iOwn tyRow v (spec_l3Copy_m x0)] w' := by
 obtain ⟨v1, rfl, r2⟩ := tyRow_rd r_0
 have r7 := r2
 obtain ⟨m3, A4, c5, rfl, q6⟩ := r2
 have l8 : x0.Values.length ≤ 68719476736 := s_0
 refine call_enterM (L := [(0, .agg #[.int .i64 x0.Id, .slice A4 x0.Values.length c5])]) (N := 10) Try.func58 rfl rfl (Nat.le_of_ble_eq_true rfl) (argsL_cons rfl argsL_nil) ?_
 refine sr ?_
 refine WM_box rfl (Wd_none rfl) (by decide) (fun p9 => ?_)
 refine WM_alloc Try.type69 rfl (Wd_none rfl) (by decide) (fun p10 => ?_)
 refine nt' ?_
 refine CM_seq ?_
 refine rb 8 (s := [iBox p9 69 [.int .i64 x0.Id, .slice A4 x0.Values.length c5]]) (fun W hm => (hm.pick [1] (by decide))) ?_
 refine qt 8 0 1 rfl (fun W hm => rv_field Try.underlying69 rfl Try.type3 (by decide) rfl rfl) ?_
 refine qt 8 1 3 rfl (fun W hm => rv_load Try.underlying3 rfl rfl (hm.boxCell (n := 0) (o := 0) rfl rfl)) ?_
 refine qt 8 3 11 rfl (fun W hm => rv_field Try.underlying69 rfl Try.type33 (by decide) rfl rfl) ?_
 refine qt 8 4 27 rfl (fun W hm => rv_load Try.underlying33 rfl rfl (hm.boxCell (n := 0) (o := 1) rfl rfl)) ?_
 refine qo 8 2 31 rfl ?_
 refine WM_build0 (E := tInt) Try.underlying33 Try.type3 (Wd_none rfl) (by decide) (fun p11 => ?_)
 refine qn (fun W hm => (hm.pick [2] (by decide))) ?_
 refine qo 8 5 63 rfl ?_
 refine WM_appendR (F := tInt) (E := tInt) (e := 3) (v := .slice (some ⟨p11, 0, none⟩) 0 0) (xs := []) (ys := x0.Values) (js := [iBox p10 69 [.int .i64 0, .slice none 0 0], iBox p9 69 [.int .i64 x0.Id, .slice A4 x0.Values.length c5]]) (fun W hm => hm) (fun W hm => src_flat flat_int (hm.rdS0 r7)) Try.underlying33 Try.type3 rfl rfl rfl (Nat.le_of_ble_eq_true rfl) rfl rfl (show ([].length + x0.Values.length) * 8 ≤ 140737488355328 from by first | omega | (simp only [List.length_append, List.length_cons, List.length_nil, List.length_take, List.length_drop] at *; omega)) (show [].length + x0.Values.length ≤ 9223372036854775807 from by first | omega | (simp only [List.length_append, List.length_cons, List.length_nil, List.length_take, List.length_drop] at *; omega)) (Wd_none rfl) (by decide) (fun v13 => ?_)
 refine WM_form (n := 0) rfl ?_
 rintro A14 c15 rfl m16
 refine qn (fun W hm => (hm.pick [2] (by decide))) ?_
 refine qt 8 6 127 rfl (fun W hm => rv_build (cs := [.int .i64 x0.Id, .slice A14 x0.Values.length c15]) rfl (by kernel_rfl)) ?_
 refine qo 8 7 255 rfl ?_
 refine WM_storeBox (p := p10) (o := 0) (cs' := [.int .i64 x0.Id, .slice A14 x0.Values.length c15]) (js := [iOwn (tSl tInt 3) [.slice A14 x0.Values.length c15] x0.Values, iBox p9 69 [.int .i64 x0.Id, .slice A4 x0.Values.length c5]]) (fun W hm => (hm.pick [1, 0, 2] (by decide))) Try.type69 rfl (Nat.le_of_ble_eq_true rfl) rfl rfl rfl rfl (Wd_none rfl) ?_
 refine qn (fun W hm => (hm.pick [2] (by decide))) ?_
 refine QB_done (by kernel_rfl) ?_
 refine QM_then ?_
 refine CM_ret ?_
 refine QM_r1 rfl (RR_cell (n := 0) rfl rfl Try.underlying69 Try.type69 rfl) (fun W hm => ⟨[.int .i64 x0.Id, .slice A14 x0.Values.length c15], ?_, ?_⟩)
 ·first | rw [(show spec_l3Copy_m x0 = x0 from by unfold spec_l3Copy_m; exact rfl)] | rfl
 ·rw [(show spec_l3Copy_m x0 = x0 from by unfold spec_l3Copy_m; exact rfl)]; exact Mem.join (is := [iOwn (tSl tInt 3) [.slice A14 x0.Values.length c15] x0.Values]) (js := []) (fun _ _ hs => tyRow_join (x := x0) hs) (hm.pick [1] (by decide))
theorem spec_l3Copy_eq (x0 : DRow) : spec_l3Copy_m x0 = x0 := by
 rfl
theorem spec_l3Copy_c2 (w : World) (z0 : List Value) (x0 : DRow) (r_0 : tyRow.rd w w.heap.size z0 x0) (s_0 : smRow 68719476736 x0) :
  Calls Try.prog 58 #[.agg z0.toArray] w fun e w' => ∃ v : List Value, e = .returned (.agg v.toArray) ∧ Mem w.heap.size w [iOwn tyRow v x0] w' := by
 have h := spec_l3Copy_c w z0 x0 r_0 s_0
 rw [spec_l3Copy_eq] at h
 exact h

def spec_SortRows_b2 (x0 : (List DRow)) (k9 : Nat) (d10 : (List DRow)) (k19 : Nat) (s20 : Nat) : (List DRow) ⊕ ((Nat) ⊕ (Nat)) :=
 cond (decide (0 < ((s20 : Nat) : Int))) (cond (spec_l3Less_m (gt x0 k9) (gt d10 (s20 - 1))) (Sum.inr (Sum.inr (s20 - 1))) (Sum.inr (Sum.inl s20))) (Sum.inr (Sum.inl s20))
def spec_SortRows_b1 (x0 : (List DRow)) (k9 : Nat) (d10 : (List DRow)) : (List DRow) ⊕ ((List DRow)) :=
 Sum.elim Sum.inl (fun (s : Nat) => Sum.inr ((List.take s d10 ++ [(gt x0 k9)]) ++ List.drop s d10)) (rngb (R := (List DRow)) (fun k (s : Nat) => spec_SortRows_b2 x0 k9 d10 k s) (d10.length + 1 - 0) 0 d10.length)
def spec_SortRows_m (x0 : (List DRow)) : (List DRow) :=
 Sum.elim id (fun (s : (List DRow)) => s) (rng (R := (List DRow)) (fun k (s : (List DRow)) => spec_SortRows_b1 x0 k s) (x0.length - 0) 0 [])
set_option maxRecDepth 100000 in
theorem cb97 : Cb Try.prog 97 := ⟨Try.f97, _, Try.func97, rfl, by decide⟩
set_option maxRecDepth 10000 in
set_option maxHeartbeats 4000000 in
theorem spec_SortRows_c (w : World) (z0 : Value) (x0 : (List DRow)) (r_0 : rdS tyRow w w.heap.size z0 x0) (s_0 : (x0.length ≤ 68719476736 ∧ ∀ y ∈ x0, smRow 68719476736 y)) :
  Calls Try.prog 97 #[z0] w fun e w' => ∃ v : Value, e = .returned (v) ∧ Mem w.heap.size w [iOwn (tSl tyRow 69) [v] (spec_SortRows_m x0)] w' := by
 have r5 := r_0
 obtain ⟨m1, A2, c3, rfl, q4⟩ := r_0
 have l6 : x0.length ≤ 68719476736 := s_0.1
 refine call_enterM (L := [(0, .slice A2 x0.length c3)]) (N := 51) Try.func97 rfl rfl (Nat.le_of_ble_eq_true rfl) (argsL_cons rfl argsL_nil) ?_
 refine sr ?_
 refine wa ?_
 refine nt' ?_
 refine sr ?_
 refine WM_build0 (E := tyRow) Try.underlying24 Try.type69 (Wd_none rfl) (by decide) (fun p7 => ?_)
 refine wa ?_
 refine nt' ?_
 refine CM_seq ?_
 refine sr ?_
 refine wa ?_
 refine nt' ?_
 refine CM_block ?_
 refine CM_loop (σ := Nat × ((List DRow)) × (Option Addr × Nat)) (fun s => [(0, .slice A2 x0.length c3), (3, .slice s.2.2.1 s.2.1.length s.2.2.2), (4, .int .i64 ((s.1 : Nat) : Int))]) (fun s => [iOwn (tSl tyRow 69) [.slice s.2.2.1 s.2.1.length s.2.2.2] s.2.1]) (fun s => s.1 ≤ x0.length ∧ rng (R := (List DRow)) (fun k (s : (List DRow)) => spec_SortRows_b1 x0 k s) (x0.length - s.1) s.1 s.2.1 = rng (R := (List DRow)) (fun k (s : (List DRow)) => spec_SortRows_b1 x0 k s) (x0.length - 0) 0 [] ∧ s.2.1.length ≤ 0 + s.1) (fun s => x0.length - s.1) (0, [], ((some ⟨p7, 0, none⟩), 0)) (subL_cons rfl (subL_cons rfl (subL_cons rfl subL_nil))) (fun W hm => hm) ⟨(by omega), rfl, Nat.le_refl _⟩ ?_
 rintro ⟨k9, d10, ⟨A11, c12⟩⟩ H15
 obtain ⟨hk13, hF14, hi16⟩ : k9 ≤ x0.length ∧ rng (R := (List DRow)) (fun k (s : (List DRow)) => spec_SortRows_b1 x0 k s) (x0.length - k9) k9 d10 = rng (R := (List DRow)) (fun k (s : (List DRow)) => spec_SortRows_b1 x0 k s) (x0.length - 0) 0 [] ∧ d10.length ≤ 0 + k9 := H15
 show CM Try.prog 51 _ _ _ _ [(0, .slice A2 x0.length c3), (3, .slice A11 d10.length c12), (4, .int .i64 ((k9 : Nat) : Int))] [iOwn (tSl tyRow 69) [.slice A11 d10.length c12] d10]
 refine CM_seq ?_
 refine sr ?_
 refine wm ?_
 refine wm ?_
 refine wv (fun W hm => rv_len Try.underlying24 rfl) ?_
 refine wv (fun W hm => rv_lss rfl rfl) ?_
 refine nt' ?_
 by_cases hl17 : k9 < x0.length
 ·have g18 : (decide (((k9 : Nat) : Int) < ((x0.length : Nat) : Int))) = true := decide_eq_true (by omega)
  refine CM_condT rfl g18 ?_
  refine CM_skip ?_
  refine QM_then ?_
  refine CM_seq ?_
  refine CM_block ?_
  refine sr ?_
  refine wm ?_
  refine wv (fun W hm => rv_len Try.underlying24 rfl) ?_
  refine wa ?_
  refine nt' ?_
  refine CM_seq ?_
  refine CM_cut (σ := (Nat) × (Unit)) (fun s => [(0, .slice A2 x0.length c3), (3, .slice A11 d10.length c12), (4, .int .i64 ((k9 : Nat) : Int)), (5, .int .i64 ((s.1 : Nat) : Int))]) (fun s => [iOwn (tSl tyRow 69) [.slice A11 d10.length c12] d10]) (fun s => rngb (R := (List DRow)) (fun k (s : Nat) => spec_SortRows_b2 x0 k9 d10 k s) (d10.length + 1 - 0) 0 d10.length = Sum.inr s.1 ∧ s.1 ≤ d10.length) ?_ ?_
  ·
   refine CM_block ?_
   refine CM_loop (σ := Nat × (Nat) × (Unit)) (fun s => [(0, .slice A2 x0.length c3), (3, .slice A11 d10.length c12), (4, .int .i64 ((k9 : Nat) : Int)), (5, .int .i64 ((s.2.1 : Nat) : Int))]) (fun s => [iOwn (tSl tyRow 69) [.slice A11 d10.length c12] d10]) (fun s => s.1 + (s.2.1) + 1 ≤ d10.length + 1 ∧ rngb (R := (List DRow)) (fun k (s : Nat) => spec_SortRows_b2 x0 k9 d10 k s) (d10.length + 1 - s.1) s.1 s.2.1 = rngb (R := (List DRow)) (fun k (s : Nat) => spec_SortRows_b2 x0 k9 d10 k s) (d10.length + 1 - 0) 0 d10.length ∧ s.2.1 ≤ d10.length) (fun s => d10.length + 1 - s.1) (0, d10.length, ()) (subL_cons rfl (subL_cons rfl (subL_cons rfl (subL_cons rfl subL_nil)))) (fun W hm => hm) ⟨(show 0 + (d10.length) + 1 ≤ d10.length + 1 from by omega), rfl, (show d10.length ≤ d10.length from by omega)⟩ ?_
   rintro ⟨k19, s20, ⟨⟩⟩ H23
   obtain ⟨hk21, hF22, hi24⟩ : k19 + (s20) + 1 ≤ d10.length + 1 ∧ rngb (R := (List DRow)) (fun k (s : Nat) => spec_SortRows_b2 x0 k9 d10 k s) (d10.length + 1 - k19) k19 s20 = rngb (R := (List DRow)) (fun k (s : Nat) => spec_SortRows_b2 x0 k9 d10 k s) (d10.length + 1 - 0) 0 d10.length ∧ s20 ≤ d10.length := H23
   show CM Try.prog 51 _ _ _ _ [(0, .slice A2 x0.length c3), (3, .slice A11 d10.length c12), (4, .int .i64 ((k9 : Nat) : Int)), (5, .int .i64 ((s20 : Nat) : Int))] [iOwn (tSl tyRow 69) [.slice A11 d10.length c12] d10]
   refine CM_seq ?_
   refine CM_seq ?_
   by_cases h25 : 0 < ((s20 : Nat) : Int)
   ·have g26 : (decide (0 < ((s20 : Nat) : Int))) = true := decide_eq_true h25
    refine CM_formO (n := 0) rfl (by omega) ?_
    rintro g27 rfl
    refine CM_focus (E := tyRow) (e := 69) (A := (some ⟨g27, 0, none⟩)) (n := d10.length) (c := c12) (xs := d10) (k := (s20 - 1)) (js := []) (by omega) (fun W hm => hm) (fun ck28 => ?_)
    refine CM_split (γ := Value) (js := fun g => [iOwn (tSl tInt 3) [g] ((gt d10 (s20 - 1)).Values)]) (C := fun g => ck28 = [.int .i64 ((gt d10 (s20 - 1)).Id), g]) (fun _ _ h => tyRow_split h) ?_
    rintro v29 rfl
    refine CM_form (n := 0) rfl ?_
    rintro A30 c31 rfl m32
    refine CM_regionD (by kernel_rfl) (by kernel_rfl) ?_
    refine qm ?_
    refine qv (fun W hm => rv_gtr rfl rfl) ?_
    refine qm ?_
    refine qg (fun W hm => rv_move rfl) g26 ?_
    refine qg (fun W hm => rv_move rfl) g26 ?_
    obtain ⟨a34, rfl, hb35, he36⟩ := q4 (by omega)
    refine qg (fun W hm => rv_index (sz := 2) (k := k9) Try.underlying24 Try.type69 rfl rfl rfl (by omega)) g26 ?_
    obtain ⟨_, e40, hc37⟩ := he36 k9 _ (gt_some (show k9 < x0.length from by omega))
    obtain ⟨v38, rfl, r39⟩ := tyRow_rd e40
    have l41 : ((gt x0 k9).Values).length ≤ 68719476736 := (s_0.2 _ (gt_mem (show k9 < x0.length from by omega)))
    have r46 := r39
    obtain ⟨m42, A43, c44, rfl, q45⟩ := r39
    refine qg (fun W hm => rv_loadN (cs := [.int .i64 ((gt x0 k9).Id), .slice A43 ((gt x0 k9).Values).length c44]) Try.underlying69 Try.type69 rfl rfl (hm.elCells (show (a34.add (k9 * 2)).block < w.heap.size from by rw [add_block]; exact hb35.1) hc37)) g26 ?_
    refine qg (fun W hm => rv_move rfl) g26 ?_
    refine qg (fun W hm => rv_move rfl) g26 ?_
    refine qg (fun W hm => rv_subN (p := s20) (q := 1) rfl rfl (by omega) (by omega)) g26 ?_
    refine qg (fun W hm => rv_index (sz := 2) (k := s20 - 1) Try.underlying24 Try.type69 rfl rfl rfl (by omega)) g26 ?_
    refine qg (fun W hm => rv_loadN (cs := [.int .i64 ((gt d10 (s20 - 1)).Id), .slice A30 ((gt d10 (s20 - 1)).Values).length c31]) Try.underlying69 Try.type69 rfl rfl (hm.focCells (i := 1) rfl rfl)) g26 ?_
    refine QR_callV (cl_fn cb123 rfl) (fun W hm => spec_l3Less_c W _ (gt x0 k9) _ (gt d10 (s20 - 1)) (tyRow_mk (x := (gt x0 k9)) (hm.rdS0 r46)) (tyRow_mk (x := (gt d10 (s20 - 1))) (hm.rdSI (n := 0) rfl))) (Wd_some rfl rfl rfl (bw g26 rfl)) (by decide) ?_
    refine qv (fun W hm => rv_pickT rfl g26 rfl) ?_
    refine nq' ?_
    rcases Bool.eq_false_or_eq_true (spec_l3Less_m (gt x0 k9) (gt d10 (s20 - 1))) with g48 | g48
    ·
     refine CM_condT rfl g48 ?_
     refine CM_skip ?_
     refine QM_then ?_
     refine CM_block ?_
     refine CM_region ?_
     refine wm ?_
     refine wv (fun W hm => rv_subN (p := s20) (q := 1) rfl rfl (by omega) (by omega)) ?_
     refine wa ?_
     refine WM_nil ?_
     refine QM_block_normal ?_
     refine QM_items (fun W hm => Mem.unfocus0 (Mem.join (is := [iOwn (tSl tInt 3) [.slice A30 ((gt d10 (s20 - 1)).Values).length c31] ((gt d10 (s20 - 1)).Values)]) (js := (iFoc tyRow 69 (some ⟨g27, 0, none⟩) d10.length c12 d10 (s20 - 1) [.int .i64 ((gt d10 (s20 - 1)).Id), .slice A30 ((gt d10 (s20 - 1)).Values).length c31] :: [])) (fun _ _ hs => tyRow_join (x := (gt d10 (s20 - 1))) hs) hm)) ?_
     have hn49 := rngb_next (R := (List DRow)) (body := (fun k (s : Nat) => spec_SortRows_b2 x0 k9 d10 k s)) (k := k19) (s := s20) (s' := s20 - 1) (show k19 < d10.length + 1 from by omega) (show spec_SortRows_b2 x0 k9 d10 k19 s20 = Sum.inr (Sum.inr (s20 - 1)) from by unfold spec_SortRows_b2; exact cond_t g26 (cond_t g48 (rfl))) hF22
     exact QM_round (k19 + 1, s20 - 1, ()) (subL_cons rfl (subL_cons rfl (subL_cons rfl (subL_cons rfl subL_nil)))) (fun W hm => hm) ⟨(show (k19 + 1) + ((s20 - 1)) + 1 ≤ d10.length + 1 from by omega), hn49, (show (s20 - 1) ≤ d10.length from by first | omega | (simp only [List.length_append, List.length_cons, List.length_nil] at *; omega))⟩ (show d10.length + 1 - (k19 + 1) < d10.length + 1 - k19 from by omega)
    ·
     refine CM_condF rfl g48 ?_
     refine CM_exit ?_
     refine QM_then_exit ?_
     refine QM_then_exit ?_
     refine QM_block_hit ?_
     refine QM_items (fun W hm => Mem.unfocus0 (Mem.join (is := [iOwn (tSl tInt 3) [.slice A30 ((gt d10 (s20 - 1)).Values).length c31] ((gt d10 (s20 - 1)).Values)]) (js := (iFoc tyRow 69 (some ⟨g27, 0, none⟩) d10.length c12 d10 (s20 - 1) [.int .i64 ((gt d10 (s20 - 1)).Id), .slice A30 ((gt d10 (s20 - 1)).Values).length c31] :: [])) (fun _ _ hs => tyRow_join (x := (gt d10 (s20 - 1))) hs) hm)) ?_
     have hE50 := rngb_brk (R := (List DRow)) (body := (fun k (s : Nat) => spec_SortRows_b2 x0 k9 d10 k s)) (k := k19) (s := s20) (s' := s20) (show k19 < d10.length + 1 from by omega) (show spec_SortRows_b2 x0 k9 d10 k19 s20 = Sum.inr (Sum.inl s20) from by unfold spec_SortRows_b2; exact cond_t g26 (cond_f g48 (rfl))) hF22
     exact QM_cut_normal (s20, ()) (subL_cons rfl (subL_cons rfl (subL_cons rfl (subL_cons rfl subL_nil)))) (fun W hm => hm) ⟨hE50, (show s20 ≤ d10.length from by first | omega | (simp only [List.length_append, List.length_cons, List.length_nil] at *; omega))⟩
   ·have g26 : (decide (0 < ((s20 : Nat) : Int))) = false := decide_eq_false h25
    refine CM_regionD (by kernel_rfl) (by kernel_rfl) ?_
    refine qm ?_
    refine qv (fun W hm => rv_gtr rfl rfl) ?_
    refine qm ?_
    refine qs g26 ?_
    refine qs g26 ?_
    refine qs g26 ?_
    refine qs g26 ?_
    refine qs g26 ?_
    refine qs g26 ?_
    refine qs g26 ?_
    refine qs g26 ?_
    refine qs g26 ?_
    refine qs g26 ?_
    refine qv (fun W hm => rv_pickF rfl g26 rfl) ?_
    refine nq' ?_
    refine CM_condF rfl rfl ?_
    refine CM_exit ?_
    refine QM_then_exit ?_
    refine QM_then_exit ?_
    refine QM_block_hit ?_
    have hE51 := rngb_brk (R := (List DRow)) (body := (fun k (s : Nat) => spec_SortRows_b2 x0 k9 d10 k s)) (k := k19) (s := s20) (s' := s20) (show k19 < d10.length + 1 from by omega) (show spec_SortRows_b2 x0 k9 d10 k19 s20 = Sum.inr (Sum.inl s20) from by unfold spec_SortRows_b2; exact cond_f g26 (rfl)) hF22
    exact QM_cut_normal (s20, ()) (subL_cons rfl (subL_cons rfl (subL_cons rfl (subL_cons rfl subL_nil)))) (fun W hm => hm) ⟨hE51, (show s20 ≤ d10.length from by first | omega | (simp only [List.length_append, List.length_cons, List.length_nil] at *; omega))⟩
  ·
   rintro ⟨s20, ⟨⟩⟩ H53
   obtain ⟨hE52, hx54⟩ : rngb (R := (List DRow)) (fun k (s : Nat) => spec_SortRows_b2 x0 k9 d10 k s) (d10.length + 1 - 0) 0 d10.length = Sum.inr s20 ∧ s20 ≤ d10.length := H53
   show QM 51 _ _ _ .normal [(0, .slice A2 x0.length c3), (3, .slice A11 d10.length c12), (4, .int .i64 ((k9 : Nat) : Int)), (5, .int .i64 ((s20 : Nat) : Int))] [iOwn (tSl tyRow 69) [.slice A11 d10.length c12] d10]
   refine QM_then ?_
   refine sr ?_
   refine WM_build0 (E := tyRow) Try.underlying24 Try.type69 (Wd_none rfl) (by decide) (fun p55 => ?_)
   refine wm ?_
   refine wm ?_
   refine WM_toCk (E := tyRow) (e := 69) (v := .slice A11 d10.length c12) (xs := d10) (js := [iOwn (tSl tyRow 69) [.slice (some ⟨p55, 0, none⟩) 0 0] []]) (fun W hm => (hm.pick [1, 0] (by decide))) (fun ps57 hps58 => ?_)
   have hl59 : ps57.length = d10.length := by rw [← hps58, List.length_map]
   refine wv (fun W hm => rv_sliceHi (k := s20) Try.underlying24 Try.type69 rfl rfl (by have := rdS_cap (hm.rdSI (n := 0) rfl); omega)) ?_
   refine WM_items (fun W hm => Mem.emptyAs (E := tyRow) (F := (tCk (ckA tyRow))) rfl (hm.pick [2, 0, 1] (by decide))) ?_
   refine WM_appendR (F := (tCk (ckA tyRow))) (E := (tCk (ckA tyRow))) (e := 69) (v := .slice (some ⟨p55, 0, none⟩) 0 0) (xs := []) (ys := (List.take s20 ps57)) (js := [iOwn (tSl (tCk (ckA tyRow)) 69) [.slice A11 d10.length c12] ps57, iCk tyRow ps57]) (fun W hm => hm) (fun W hm => src_flat flat_ck (rdS_take (k := s20) (by omega) (hm.rdSI (n := 1) rfl))) Try.underlying24 Try.type69 rfl rfl rfl (Nat.le_of_ble_eq_true rfl) rfl rfl (show ([].length + (List.take s20 ps57).length) * 32 ≤ 140737488355328 from by first | omega | (simp only [List.length_append, List.length_cons, List.length_nil, List.length_take, List.length_drop] at *; omega)) (show [].length + (List.take s20 ps57).length ≤ 9223372036854775807 from by first | omega | (simp only [List.length_append, List.length_cons, List.length_nil, List.length_take, List.length_drop] at *; omega)) (Wd_none rfl) (by decide) (fun v60 => ?_)
   refine WM_form (n := 0) rfl ?_
   rintro A61 c62 rfl m63
   refine wa ?_
   refine nt' ?_
   refine sr ?_
   refine wm ?_
   refine wm ?_
   refine wm ?_
   obtain ⟨a65, rfl, hb66, he67⟩ := q4 (by omega)
   refine wv (fun W hm => rv_index (sz := 2) (k := k9) Try.underlying24 Try.type69 rfl rfl rfl (by omega)) ?_
   obtain ⟨_, e71, hc68⟩ := he67 k9 _ (gt_some (show k9 < x0.length from by omega))
   obtain ⟨v69, rfl, r70⟩ := tyRow_rd e71
   have l72 : ((gt x0 k9).Values).length ≤ 68719476736 := (s_0.2 _ (gt_mem (show k9 < x0.length from by omega)))
   have r77 := r70
   obtain ⟨m73, A74, c75, rfl, q76⟩ := r70
   refine wv (fun W hm => rv_loadN (cs := [.int .i64 ((gt x0 k9).Id), .slice A74 ((gt x0 k9).Values).length c75]) Try.underlying69 Try.type69 rfl rfl (hm.elCells (show (a65.add (k9 * 2)).block < w.heap.size from by rw [add_block]; exact hb66.1) hc68)) ?_
   refine WM_call (χ := List Value) (val := fun x => .agg x.toArray) (js := fun x => [iOwn tyRow x (gt x0 k9)]) (cl_fn cb58 rfl) (fun W hm => spec_l3Copy_c2 W _ (gt x0 k9) (tyRow_mk (x := (gt x0 k9)) (hm.rdS0 r77)) (s_0.2 _ (gt_mem (show k9 < x0.length from by omega)))) (Wd_none rfl) (by decide) (fun z78 => ?_)
   refine WM_split (γ := Value) (js := fun g => [iOwn (tSl tInt 3) [g] ((gt x0 k9).Values)]) (C := fun g => z78 = [.int .i64 ((gt x0 k9).Id), g]) (fun _ _ h => tyRow_split h) ?_
   rintro v79 rfl
   refine WM_form (n := 0) rfl ?_
   rintro A80 c81 rfl m82
   refine WM_build (cs := [.int .i64 ((gt x0 k9).Id), .slice A80 ((gt x0 k9).Values).length c81]) Try.underlying24 Try.type69 rfl (by decide) (by decide) rfl (by kernel_rfl) (Wd_none rfl) (by decide) (fun p84 => ?_)
   refine WM_append (E := (tCk (ckA tyRow))) (e := 69) (v := .slice A61 (List.take s20 ps57).length c62) (p := p84) (q := 1) (xs := (List.take s20 ps57)) (ys := [(([.int .i64 ((gt x0 k9).Id), .slice A80 ((gt x0 k9).Values).length c81], (gt x0 k9)) : List Value × DRow)]) (eis := []) (js := [iOwn (tSl tInt 3) [.slice A80 ((gt x0 k9).Values).length c81] ((gt x0 k9).Values), iOwn (tSl (tCk (ckA tyRow)) 69) [.slice A11 d10.length c12] ps57, iCk tyRow ps57]) (news := [.int .i64 ((gt x0 k9).Id), .slice A80 ((gt x0 k9).Values).length c81]) (fun W hm => (hm.pick [0, 2, 1, 3, 4] (by decide))) (fun _ _ hs => by cases (Sep.nil hs); exact (els_ck1 rfl rfl)) Try.underlying24 Try.type69 rfl rfl rfl (Nat.le_of_ble_eq_true rfl) rfl rfl rfl (show ((List.take s20 ps57).length + 1) * 32 ≤ 140737488355328 from by first | omega | (simp only [List.length_append, List.length_cons, List.length_nil, List.length_take, List.length_drop] at *; omega)) (show (List.take s20 ps57).length + 1 ≤ 9223372036854775807 from by first | omega | (simp only [List.length_append, List.length_cons, List.length_nil, List.length_take, List.length_drop] at *; omega)) (Wd_none rfl) (by decide) (fun v85 => ?_)
   refine WM_form (n := 0) rfl ?_
   rintro A86 c87 rfl m88
   refine wa ?_
   refine nt' ?_
   refine CM_region ?_
   refine wm ?_
   refine wm ?_
   refine wm ?_
   refine wv (fun W hm => rv_sliceLo (k := s20) (s := 2) Try.underlying24 Try.type69 rfl rfl rfl (by omega)) ?_
   refine WM_appendR (F := (tCk (ckA tyRow))) (E := (tCk (ckA tyRow))) (e := 69) (v := .slice A86 ((List.take s20 ps57) ++ [(([.int .i64 ((gt x0 k9).Id), .slice A80 ((gt x0 k9).Values).length c81], (gt x0 k9)) : List Value × DRow)]).length c87) (xs := ((List.take s20 ps57) ++ [(([.int .i64 ((gt x0 k9).Id), .slice A80 ((gt x0 k9).Values).length c81], (gt x0 k9)) : List Value × DRow)])) (ys := (List.drop s20 ps57)) (js := [iOwn (tSl tInt 3) [.slice A80 ((gt x0 k9).Values).length c81] ((gt x0 k9).Values), iOwn (tSl (tCk (ckA tyRow)) 69) [.slice A11 d10.length c12] ps57, iCk tyRow ps57]) (fun W hm => hm) (fun W hm => src_flat flat_ck (rdS_drop (k := s20) (by omega) (hm.rdSI (n := 2) rfl))) Try.underlying24 Try.type69 rfl rfl rfl (Nat.le_of_ble_eq_true rfl) rfl rfl (show (((List.take s20 ps57) ++ [(([.int .i64 ((gt x0 k9).Id), .slice A80 ((gt x0 k9).Values).length c81], (gt x0 k9)) : List Value × DRow)]).length + (List.drop s20 ps57).length) * 32 ≤ 140737488355328 from by first | omega | (simp only [List.length_append, List.length_cons, List.length_nil, List.length_take, List.length_drop] at *; omega)) (show ((List.take s20 ps57) ++ [(([.int .i64 ((gt x0 k9).Id), .slice A80 ((gt x0 k9).Values).length c81], (gt x0 k9)) : List Value × DRow)]).length + (List.drop s20 ps57).length ≤ 9223372036854775807 from by first | omega | (simp only [List.length_append, List.length_cons, List.length_nil, List.length_take, List.length_drop] at *; omega)) (Wd_none rfl) (by decide) (fun v90 => ?_)
   refine WM_form (n := 0) rfl ?_
   rintro A91 c92 rfl m93
   refine wa ?_
   refine WM_nil ?_
   refine QM_block_normal ?_
   refine QM_then ?_
   refine CM_region ?_
   refine wm ?_
   refine wv (fun W hm => rv_addN (p := k9) (q := 1) rfl rfl (by omega)) ?_
   refine wa ?_
   refine WM_nil ?_
   refine QM_items (fun W hm => Mem.ckInsert hps58 (Mem.join (is := [iOwn (tSl tInt 3) [.slice A80 ((gt x0 k9).Values).length c81] ((gt x0 k9).Values)]) (js := (iOwn (tSl (tCk (ckA tyRow)) 69) [.slice A91 (((List.take s20 ps57) ++ [(([.int .i64 ((gt x0 k9).Id), .slice A80 ((gt x0 k9).Values).length c81], (gt x0 k9)) : List Value × DRow)]) ++ (List.drop s20 ps57)).length c92] (((List.take s20 ps57) ++ [(([.int .i64 ((gt x0 k9).Id), .slice A80 ((gt x0 k9).Values).length c81], (gt x0 k9)) : List Value × DRow)]) ++ (List.drop s20 ps57)) :: iCk tyRow ps57 :: [iOwn (tSl (tCk (ckA tyRow)) 69) [.slice A11 d10.length c12] ps57])) (fun _ _ hs => tyRow_join (x := (gt x0 k9)) hs) (hm.pick [1, 0, 3, 2] (by decide)))) ?_
   have hl95 : (((List.take s20 ps57) ++ [(([.int .i64 ((gt x0 k9).Id), .slice A80 ((gt x0 k9).Values).length c81], (gt x0 k9)) : List Value × DRow)]) ++ (List.drop s20 ps57)).length = ((List.take s20 d10 ++ [(gt x0 k9)]) ++ List.drop s20 d10).length := by rw [← hps58]; simp only [List.length_append, List.length_take, List.length_drop, List.length_map, List.length_cons, List.length_nil]
   rw [hl95]
   have hn96 := rng_next (R := (List DRow)) (body := (fun k (s : (List DRow)) => spec_SortRows_b1 x0 k s)) (k := k9) (s := d10) (s' := ((List.take s20 d10 ++ [(gt x0 k9)]) ++ List.drop s20 d10)) (show k9 < x0.length from by omega) (show spec_SortRows_b1 x0 k9 d10 = Sum.inr ((List.take s20 d10 ++ [(gt x0 k9)]) ++ List.drop s20 d10) from by unfold spec_SortRows_b1; exact fin_inr hE52 (rfl)) hF14
   exact QM_round (k9 + 1, ((List.take s20 d10 ++ [(gt x0 k9)]) ++ List.drop s20 d10), (A91, c92)) (subL_cons rfl (subL_cons rfl (subL_cons rfl subL_nil))) (fun W hm => (hm.pick [0] (by decide))) ⟨(by omega), hn96, (show ((List.take s20 d10 ++ [(gt x0 k9)]) ++ List.drop s20 d10).length ≤ 0 + (k9 + 1) from by first | omega | (simp only [List.length_append, List.length_cons, List.length_nil, List.length_take, List.length_drop] at *; omega))⟩ (show x0.length - (k9 + 1) < x0.length - k9 from by omega)
 ·have g18 : (decide (((k9 : Nat) : Int) < ((x0.length : Nat) : Int))) = false := decide_eq_false (by omega)
  refine CM_condF rfl g18 ?_
  refine CM_exit ?_
  refine QM_then_exit ?_
  refine QM_then_exit ?_
  have hE97 : rng (R := (List DRow)) (fun k (s : (List DRow)) => spec_SortRows_b1 x0 k s) (x0.length - 0) 0 [] = Sum.inr d10 := rng_end hl17 hF14
  refine QM_block_hit ?_
  refine QM_then ?_
  refine sr ?_
  refine wm ?_
  refine wa ?_
  refine nt' ?_
  refine CM_ret ?_
  refine QM_r1 rfl (RR_tmp rfl) (fun W hm => ⟨.slice A11 d10.length c12, ?_, ?_⟩)
  ·first | rw [(show spec_SortRows_m x0 = d10 from by unfold spec_SortRows_m; exact fin_inr hE97 (rfl))] | rfl
  ·rw [(show spec_SortRows_m x0 = d10 from by unfold spec_SortRows_m; exact fin_inr hE97 (rfl))]; exact hm

def okS (now : Int) (seen : List DVersion) (v : DVersion) : Bool := spec_l7Version_m v now && seen.all fun w => spec_l7Apart_m v w
def seenF (ok : List DVersion → DVersion → Bool) : List DVersion → List DVersion → Bool
  | _, [] => true
  | seen, v :: l => ok seen v && seenF ok (seen ++ [v]) l
def storeB (ok : List DVersion → DVersion → Bool) (x : DStore) : Bool := decide (1 ≤ (x.Segments.length : Int) ∧ (x.Segments.length : Int) ≤ 8) && decide (0 ≤ x.Now ∧ x.Now ≤ 100000) && x.Segments.all (fun s => decide (s.length ≤ 4)) && seenF ok [] x.Segments.flatten
theorem foldl_flat {α : Type} : ∀ (l : List (List α)) (d : List α), l.foldl (fun d s => d ++ s) d = d ++ l.flatten
  | [], d => by simp
  | s :: l, d => by rw [List.foldl_cons, foldl_flat l]; simp
theorem l7All_form (x : DStore) : spec_l7All_m x = x.Segments.flatten := by
  unfold spec_l7All_m
  rw [rng_fold (xs := x.Segments) (f := fun d s => d ++ s) (b := fun k s => spec_l7All_b1 x k s) (fun j s _ => rfl), foldl_flat]
  rfl
theorem seen_idx (now : Int) (l : List DVersion) (b : Nat → Unit → Bool ⊕ Unit) (hb : ∀ i, i < l.length → b i () = cond (okS now (l.take i) (gt l i)) (.inr ()) (.inl false)) : rng b (l.length - 0) 0 () = cond (seenF (okS now) [] l) (.inr ()) (.inl false) := by
  have h : ∀ m k, m + k = l.length → rng b m k () = cond (seenF (okS now) (l.take k) (l.drop k)) (.inr ()) (.inl false) := by
    intro m
    induction m with
    | zero => intro k hk; rw [rng, List.drop_of_length_le (by omega)]; rfl
    | succ m ih =>
      intro k hk
      have hlt : k < l.length := by omega
      rw [rng, hb k hlt, List.drop_eq_getElem_cons hlt, ← gt_at hlt]
      show _ = cond (okS now (l.take k) (gt l k) && seenF (okS now) (l.take k ++ [gt l k]) (l.drop (k + 1))) _ _
      have ht : l.take k ++ [gt l k] = l.take (k + 1) := by rw [List.take_add_one, List.getElem?_eq_getElem hlt, ← gt_at hlt]; rfl
      rw [ht]
      cases okS now (l.take k) (gt l k) with
      | true => exact ih (k + 1) (by omega)
      | false => rfl
  have := h (l.length - 0) 0 (by omega)
  simpa using this
theorem spec_IsStore_form (x : DStore) : spec_IsStore_m x = storeB (okS x.Now) x := by
  unfold spec_IsStore_m storeB
  rw [rng_allB (xs := x.Segments) (r := false) (p := fun s => decide (s.length ≤ 4)) (fun j _ => by
    unfold spec_IsStore_b1
    by_cases h : (gt x.Segments j).length ≤ 4
    · rw [decide_eq_true h, decide_eq_false (show ¬ 4 < ((gt x.Segments j).length : Int) by omega)]; rfl
    · rw [decide_eq_false h, decide_eq_true (show 4 < ((gt x.Segments j).length : Int) by omega)]; rfl)]
  rw [seen_idx x.Now (spec_l7All_m x) _ (fun i hi => by
    show spec_IsStore_b2 x i = _
    unfold spec_IsStore_b2 okS
    rw [rng_take (xs := spec_l7All_m x) (Nat.le_of_lt hi), rng_allB (xs := (spec_l7All_m x).take i) (r := false) (p := fun w => spec_l7Apart_m (gt (spec_l7All_m x) i) w) (fun k hk => by
      rw [List.length_take] at hk
      rw [gt_take (by omega)]
      rfl)]
    cases spec_l7Version_m (gt (spec_l7All_m x) i) x.Now <;> cases ((spec_l7All_m x).take i).all (fun w => spec_l7Apart_m (gt (spec_l7All_m x) i) w) <;> rfl), l7All_form, spec_l1In_iff, spec_l1In_iff]
  cases decide (1 ≤ (x.Segments.length : Int) ∧ (x.Segments.length : Int) ≤ 8) <;> cases decide (0 ≤ x.Now ∧ x.Now ≤ 100000) <;> cases x.Segments.all (fun s => decide (s.length ≤ 4)) <;> cases seenF (okS x.Now) [] x.Segments.flatten <;> rfl
theorem storeB_hq {ok : List DVersion → DVersion → Bool} {x : DStore} (h : storeB ok x = true) : (x.Segments.map List.length).sum ≤ 68719476736 := by
  unfold storeB at h
  simp only [Bool.and_eq_true, decide_eq_true_eq, List.all_eq_true] at h
  have h1 := sum_le_mul (w := List.length) (c := 4) (xs := x.Segments) fun j hj => h.1.2 _ (gt_mem hj)
  omega
def segR (vis : DVersion → Bool) (s : List DVersion) : List DRow := (s.filter vis).map fun v => (⟨v.Id, v.Values⟩ : DRow)
theorem segR_len (vis : DVersion → Bool) (s : List DVersion) : (segR vis s).length ≤ s.length := by
  unfold segR
  rw [List.length_map]
  exact List.length_filter_le _ _
theorem segR_sm {B : Nat} {vis : DVersion → Bool} {s : List DVersion} (h : ∀ y ∈ s, smVersion B y) : ∀ y ∈ segR vis s, smRow B y := fun y hy => by
  unfold segR at hy
  obtain ⟨v, hv, rfl⟩ := List.mem_map.1 hy
  exact h v (List.mem_filter.1 hv).1
theorem spec_l7Rows_form (l : List DVersion) (t : Int) : spec_l7Rows_m l t = segR (fun v => spec_IsVisible_m v t) l := by
  unfold spec_l7Rows_m
  rw [rng_fold (xs := l) (f := fun d v => cond (spec_IsVisible_m v t) (d ++ [(⟨v.Id, v.Values⟩ : DRow)]) d) (b := fun k s => spec_l7Rows_b1 l t k s) (fun j s _ => by unfold spec_l7Rows_b1; cases spec_IsVisible_m (gt l j) t <;> rfl), foldl_filterMap]
  rfl
theorem l7All_sm {B : Nat} {x : DStore} (h : smStore B x) (hq : (x.Segments.map List.length).sum ≤ B) : (spec_l7All_m x).length ≤ B ∧ ∀ y ∈ spec_l7All_m x, smVersion B y := by
  rw [l7All_form, List.length_flatten]
  refine ⟨hq, fun y hy => ?_⟩
  obtain ⟨s, hs, hy⟩ := List.mem_flatten.1 hy
  exact (h.2 s hs).2 y hy
theorem l7Rows_sm {B : Nat} {l : List DVersion} (h : l.length ≤ B ∧ ∀ y ∈ l, smVersion B y) (t : Int) : (spec_l7Rows_m l t).length ≤ B ∧ ∀ y ∈ spec_l7Rows_m l t, smRow B y := by
  rw [spec_l7Rows_form]
  exact ⟨Nat.le_trans (segR_len _ _) h.1, segR_sm h.2⟩
def spec_RowsAt_m (x0 : DStore) (x1 : Int) : (List DRow) :=
 cond (spec_IsStore_m x0) (spec_SortRows_m (spec_l7Rows_m (spec_l7All_m x0) x1)) []
set_option maxRecDepth 100000 in
theorem cb54 : Cb Try.prog 54 := ⟨Try.f54, _, Try.func54, rfl, by decide⟩
set_option maxRecDepth 10000 in
set_option maxHeartbeats 4000000 in
theorem spec_RowsAt_c (w : World) (z0 : List Value) (x0 : DStore) (x1 : Int) (r_0 : tyStore.rd w w.heap.size z0 x0) (s_0 : smStore 68719476736 x0) :
  Calls Try.prog 54 #[.agg z0.toArray, .int .i64 x1] w fun e w' => ∃ v : Value, e = .returned (v) ∧ Mem w.heap.size w [iOwn (tSl tyRow 69) [v] (spec_RowsAt_m x0 x1)] w' := by
 obtain ⟨v1, rfl, r2⟩ := tyStore_rd r_0
 have r7 := r2
 obtain ⟨m3, A4, c5, rfl, q6⟩ := r2
 have l8 : x0.Segments.length ≤ 68719476736 := s_0.1
 refine call_enterM (L := [(0, .agg #[.slice A4 x0.Segments.length c5, .int .i64 x0.Now]), (1, .int .i64 x1)]) (N := 14) Try.func54 rfl rfl (Nat.le_of_ble_eq_true rfl) (argsL_cons rfl (argsL_cons rfl argsL_nil)) ?_
 refine sr ?_
 refine WM_box rfl (Wd_none rfl) (by decide) (fun p9 => ?_)
 refine wa ?_
 refine nt' ?_
 refine CM_seq ?_
 refine sr ?_
 refine wv (fun W hm => rv_loadN (cs := [.slice A4 x0.Segments.length c5, .int .i64 x0.Now]) Try.underlying45 Try.type45 rfl rfl (hm.boxCells (n := 0) rfl)) ?_
 refine WM_callV (cl_fn cb69 rfl) (fun W hm => spec_IsStore_c W _ x0 (tyStore_mk (x := x0) (hm.rdS0 r7)) s_0) (Wd_none rfl) (by decide) ?_
 refine wv (fun W hm => rv_not rfl) ?_
 refine nt' ?_
 rcases Bool.eq_false_or_eq_true (spec_IsStore_m x0) with g11 | g11
 ·
  have HQ := storeB_hq (ok := okS x0.Now) (by rw [← spec_IsStore_form]; exact g11)
  refine CM_condF rfl (nt g11) ?_
  refine CM_skip ?_
  refine QM_then ?_
  refine sr ?_
  refine wv (fun W hm => rv_loadN (cs := [.slice A4 x0.Segments.length c5, .int .i64 x0.Now]) Try.underlying45 Try.type45 rfl rfl (hm.boxCells (n := 0) rfl)) ?_
  refine WM_callW (χ := Value) (val := fun x => x) (js := fun x => (iOwn (tSl (tBor tyVersion w w.heap.size) 102) [x] (spec_l7All_m x0) :: [iBox p9 45 [.slice A4 x0.Segments.length c5, .int .i64 x0.Now]])) (cl_fn cb99 rfl) (fun W hm => spec_l7All_c w.heap.size w [iBox p9 45 [.slice A4 x0.Segments.length c5, .int .i64 x0.Now]] W _ x0 (tyStore_mk r7) s_0 (HQ) hm) (Wd_none rfl) (by decide) (fun v12 => ?_)
  refine WM_form (n := 0) rfl ?_
  rintro A13 c14 rfl m15
  refine wm ?_
  refine WM_call (χ := Value) (val := fun x => x) (js := fun x => [iOwn (tSl tyRow 69) [x] (spec_l7Rows_m (spec_l7All_m x0) x1)]) (cl_fn cb98 rfl) (fun W hm => spec_l7Rows_c W _ (spec_l7All_m x0) x1 (hm.unbor (hm.rdSI (n := 0) rfl)) (l7All_sm s_0 HQ)) (Wd_none rfl) (by decide) (fun z17 => ?_)
  refine WM_form (n := 0) rfl ?_
  rintro A18 c19 rfl m20
  refine WM_call (χ := Value) (val := fun x => x) (js := fun x => [iOwn (tSl tyRow 69) [x] (spec_SortRows_m (spec_l7Rows_m (spec_l7All_m x0) x1))]) (cl_fn cb97 rfl) (fun W hm => spec_SortRows_c W _ (spec_l7Rows_m (spec_l7All_m x0) x1) (hm.rdSI (n := 0) rfl) (l7Rows_sm (l7All_sm s_0 HQ) x1)) (Wd_none rfl) (by decide) (fun z22 => ?_)
  refine WM_form (n := 0) rfl ?_
  rintro A23 c24 rfl m25
  refine wa ?_
  refine nt' ?_
  refine CM_ret ?_
  refine QM_r1 rfl (RR_tmp rfl) (fun W hm => ⟨.slice A23 (spec_SortRows_m (spec_l7Rows_m (spec_l7All_m x0) x1)).length c24, ?_, ?_⟩)
  ·first | rw [(show spec_RowsAt_m x0 x1 = (spec_SortRows_m (spec_l7Rows_m (spec_l7All_m x0) x1)) from by unfold spec_RowsAt_m; exact cond_t g11 (rfl))] | rfl
  ·rw [(show spec_RowsAt_m x0 x1 = (spec_SortRows_m (spec_l7Rows_m (spec_l7All_m x0) x1)) from by unfold spec_RowsAt_m; exact cond_t g11 (rfl))]; exact (hm.pick [0] (by decide))
 ·
  refine CM_condT rfl (nf g11) ?_
  refine sr ?_
  refine WM_build0 (E := tyRow) Try.underlying24 Try.type69 (Wd_none rfl) (by decide) (fun p27 => ?_)
  refine wa ?_
  refine nt' ?_
  refine CM_ret ?_
  refine QM_then_ret ?_
  refine QM_r1 rfl (RR_tmp rfl) (fun W hm => ⟨.slice (some ⟨p27, 0, none⟩) 0 0, ?_, ?_⟩)
  ·first | rw [(show spec_RowsAt_m x0 x1 = [] from by unfold spec_RowsAt_m; exact cond_f g11 (rfl))] | rfl
  ·rw [(show spec_RowsAt_m x0 x1 = [] from by unfold spec_RowsAt_m; exact cond_f g11 (rfl))]; exact (hm.pick [0] (by decide))

def impl_within_m (x0 : Int) (x1 : Int) (x2 : Int) : Bool :=
 cond (decide (x1 ≤ x0)) (decide (x0 ≤ x2)) false
set_option maxRecDepth 100000 in
theorem cb114 : Cb Try.prog 114 := ⟨Try.f114, _, Try.func114, rfl, by decide⟩
set_option maxRecDepth 10000 in
set_option maxHeartbeats 4000000 in
theorem impl_within_c (w : World) (x0 : Int) (x1 : Int) (x2 : Int) :
  Calls Try.prog 114 #[.int .i64 x0, .int .i64 x1, .int .i64 x2] w fun e w' => e = .returned (.bool (impl_within_m x0 x1 x2)) ∧ Below w.heap.size w w' := by
 refine call_enterM (L := [(0, .int .i64 x0), (1, .int .i64 x1), (2, .int .i64 x2)]) (N := 15) Try.func114 rfl rfl (Nat.le_of_ble_eq_true rfl) (argsL_cons rfl (argsL_cons rfl (argsL_cons rfl argsL_nil))) ?_
 refine sr ?_
 refine wa ?_
 refine nt' ?_
 refine sr ?_
 refine wm ?_
 refine wm ?_
 refine wv (fun W hm => rv_geq rfl rfl) ?_
 refine wm ?_
 by_cases h1 : x1 ≤ x0
 ·have g2 : (decide (x1 ≤ x0)) = true := decide_eq_true h1
  refine wg (fun W hm => rv_move rfl) g2 ?_
  refine wg (fun W hm => rv_move rfl) g2 ?_
  refine wg (fun W hm => rv_leq rfl rfl) g2 ?_
  refine wv (fun W hm => rv_pickT rfl g2 rfl) ?_
  refine wa ?_
  refine nt' ?_
  refine CM_ret ?_
  exact QM_ret1 rfl rfl (fun W hm => ⟨ret_b (show impl_within_m x0 x1 x2 = (decide (x0 ≤ x2)) from by unfold impl_within_m; exact cond_t g2 (rfl)), hm.below⟩)
 ·have g2 : (decide (x1 ≤ x0)) = false := decide_eq_false h1
  refine ws g2 ?_
  refine ws g2 ?_
  refine ws g2 ?_
  refine wv (fun W hm => rv_pickF rfl g2 rfl) ?_
  refine wa ?_
  refine nt' ?_
  refine CM_ret ?_
  exact QM_ret1 rfl rfl (fun W hm => ⟨ret_b (show impl_within_m x0 x1 x2 = false from by unfold impl_within_m; exact cond_f g2 (rfl)), hm.below⟩)

theorem impl_within_fact {x a b : Int} (h : impl_within_m x a b = true) : a ≤ x ∧ x ≤ b := by
  unfold impl_within_m at h
  by_cases h1 : a ≤ x
  · rw [decide_eq_true h1] at h
    exact ⟨h1, of_decide_eq_true h⟩
  · rw [decide_eq_false h1] at h
    cases h
theorem impl_within_iff (x a b : Int) : impl_within_m x a b = decide (a ≤ x ∧ x ≤ b) := by
  unfold impl_within_m
  by_cases h1 : a ≤ x
  · by_cases h2 : x ≤ b
    · simp [h1, h2]
    · simp [h1, h2]
  · simp [h1]

def impl_copyInts_m (x0 : (List Int)) : (List Int) :=
 x0
set_option maxRecDepth 100000 in
theorem cb95 : Cb Try.prog 95 := ⟨Try.f95, _, Try.func95, rfl, by decide⟩
set_option maxRecDepth 10000 in
set_option maxHeartbeats 4000000 in
theorem impl_copyInts_c (w : World) (z0 : Value) (x0 : (List Int)) (r_0 : rdS tInt w w.heap.size z0 x0) (s_0 : x0.length ≤ 68719476736) :
  Calls Try.prog 95 #[z0] w fun e w' => ∃ v : Value, e = .returned (v) ∧ Mem w.heap.size w [iOwn (tSl tInt 3) [v] (impl_copyInts_m x0)] w' := by
 have r5 := r_0
 obtain ⟨m1, A2, c3, rfl, q4⟩ := r_0
 have l6 : x0.length ≤ 68719476736 := s_0
 refine call_enterM (L := [(0, .slice A2 x0.length c3)]) (N := 6) Try.func95 rfl rfl (Nat.le_of_ble_eq_true rfl) (argsL_cons rfl argsL_nil) ?_
 refine sr ?_
 refine wa ?_
 refine nt' ?_
 refine sr ?_
 refine WM_build0 (E := tInt) Try.underlying33 Try.type3 (Wd_none rfl) (by decide) (fun p7 => ?_)
 refine wm ?_
 refine WM_appendR (F := tInt) (E := tInt) (e := 3) (v := .slice (some ⟨p7, 0, none⟩) 0 0) (xs := []) (ys := x0) (js := []) (fun W hm => hm) (fun W hm => src_flat flat_int (hm.rdS0 r5)) Try.underlying33 Try.type3 rfl rfl rfl (Nat.le_of_ble_eq_true rfl) rfl rfl (show ([].length + x0.length) * 8 ≤ 140737488355328 from by first | omega | (simp only [List.length_append, List.length_cons, List.length_nil, List.length_take, List.length_drop] at *; omega)) (show [].length + x0.length ≤ 9223372036854775807 from by first | omega | (simp only [List.length_append, List.length_cons, List.length_nil, List.length_take, List.length_drop] at *; omega)) (Wd_none rfl) (by decide) (fun v9 => ?_)
 refine WM_form (n := 0) rfl ?_
 rintro A10 c11 rfl m12
 refine wa ?_
 refine nt' ?_
 refine CM_ret ?_
 refine QM_r1 rfl (RR_tmp rfl) (fun W hm => ⟨.slice A10 x0.length c11, ?_, ?_⟩)
 ·first | rw [(show impl_copyInts_m x0 = x0 from by unfold impl_copyInts_m; exact rfl)] | rfl
 ·rw [(show impl_copyInts_m x0 = x0 from by unfold impl_copyInts_m; exact rfl)]; exact hm
theorem impl_copyInts_eq (x0 : (List Int)) : impl_copyInts_m x0 = x0 := by
 rfl
theorem impl_copyInts_c2 (w : World) (z0 : Value) (x0 : (List Int)) (r_0 : rdS tInt w w.heap.size z0 x0) (s_0 : x0.length ≤ 68719476736) :
  Calls Try.prog 95 #[z0] w fun e w' => ∃ v : Value, e = .returned (v) ∧ Mem w.heap.size w [iOwn (tSl tInt 3) [v] x0] w' := by
 have h := impl_copyInts_c w z0 x0 r_0 s_0
 rw [impl_copyInts_eq] at h
 exact h

def impl_rowOf_m (x0 : DVersion) : DRow :=
 (⟨x0.Id, x0.Values⟩ : DRow)
set_option maxRecDepth 100000 in
theorem cb115 : Cb Try.prog 115 := ⟨Try.f115, _, Try.func115, rfl, by decide⟩
set_option maxRecDepth 10000 in
set_option maxHeartbeats 4000000 in
theorem impl_rowOf_c (w : World) (z0 : List Value) (x0 : DVersion) (r_0 : tyVersion.rd w w.heap.size z0 x0) (s_0 : smVersion 68719476736 x0) :
  Calls Try.prog 115 #[.agg z0.toArray] w fun e w' => ∃ v : List Value, e = .returned (.agg v.toArray) ∧ Mem w.heap.size w [iOwn tyRow v (impl_rowOf_m x0)] w' := by
 obtain ⟨v1, rfl, r2⟩ := tyVersion_rd r_0
 have r7 := r2
 obtain ⟨m3, A4, c5, rfl, q6⟩ := r2
 have l8 : x0.Values.length ≤ 68719476736 := s_0
 refine call_enterM (L := [(0, .agg #[.int .i64 x0.Id, .slice A4 x0.Values.length c5, .int .i64 x0.Born, .int .i64 x0.Died])]) (N := 9) Try.func115 rfl rfl (Nat.le_of_ble_eq_true rfl) (argsL_cons rfl argsL_nil) ?_
 refine sr ?_
 refine WM_box rfl (Wd_none rfl) (by decide) (fun p9 => ?_)
 refine WM_alloc Try.type69 rfl (Wd_none rfl) (by decide) (fun p10 => ?_)
 refine nt' ?_
 refine CM_seq ?_
 refine rb 7 (s := [iBox p9 102 [.int .i64 x0.Id, .slice A4 x0.Values.length c5, .int .i64 x0.Born, .int .i64 x0.Died]]) (fun W hm => (hm.pick [1] (by decide))) ?_
 refine qt 7 0 1 rfl (fun W hm => rv_field Try.underlying102 rfl Try.type3 (by decide) rfl rfl) ?_
 refine qt 7 1 3 rfl (fun W hm => rv_load Try.underlying3 rfl rfl (hm.boxCell (n := 0) (o := 0) rfl rfl)) ?_
 refine qt 7 2 7 rfl (fun W hm => rv_field Try.underlying102 rfl Try.type33 (by decide) rfl rfl) ?_
 refine qt 7 3 15 rfl (fun W hm => rv_load Try.underlying33 rfl rfl (hm.boxCell (n := 0) (o := 1) rfl rfl)) ?_
 refine qo 7 4 31 rfl ?_
 refine WM_call (χ := Value) (val := fun x => x) (js := fun x => [iOwn (tSl tInt 3) [x] x0.Values]) (cl_fn cb95 rfl) (fun W hm => impl_copyInts_c2 W _ x0.Values (hm.rdS0 r7) s_0) (Wd_none rfl) (by decide) (fun z11 => ?_)
 refine WM_form (n := 0) rfl ?_
 rintro A12 c13 rfl m14
 refine qn (fun W hm => (hm.pick [2] (by decide))) ?_
 refine qt 7 5 63 rfl (fun W hm => rv_build (cs := [.int .i64 x0.Id, .slice A12 x0.Values.length c13]) rfl (by kernel_rfl)) ?_
 refine qo 7 6 127 rfl ?_
 refine WM_storeBox (p := p10) (o := 0) (cs' := [.int .i64 x0.Id, .slice A12 x0.Values.length c13]) (js := [iOwn (tSl tInt 3) [.slice A12 x0.Values.length c13] x0.Values, iBox p9 102 [.int .i64 x0.Id, .slice A4 x0.Values.length c5, .int .i64 x0.Born, .int .i64 x0.Died]]) (fun W hm => (hm.pick [1, 0, 2] (by decide))) Try.type69 rfl (Nat.le_of_ble_eq_true rfl) rfl rfl rfl rfl (Wd_none rfl) ?_
 refine qn (fun W hm => (hm.pick [2] (by decide))) ?_
 refine QB_done (by kernel_rfl) ?_
 refine QM_then ?_
 refine CM_ret ?_
 refine QM_r1 rfl (RR_cell (n := 0) rfl rfl Try.underlying69 Try.type69 rfl) (fun W hm => ⟨[.int .i64 x0.Id, .slice A12 x0.Values.length c13], ?_, ?_⟩)
 ·first | rw [(show impl_rowOf_m x0 = (⟨x0.Id, x0.Values⟩ : DRow) from by unfold impl_rowOf_m; exact rfl)] | rfl
 ·rw [(show impl_rowOf_m x0 = (⟨x0.Id, x0.Values⟩ : DRow) from by unfold impl_rowOf_m; exact rfl)]; exact Mem.join (is := [iOwn (tSl tInt 3) [.slice A12 x0.Values.length c13] x0.Values]) (js := []) (fun _ _ hs => tyRow_join (x := (⟨x0.Id, x0.Values⟩ : DRow)) hs) (hm.pick [1] (by decide))

def impl_IsRow_b1 (x0 : DRow) (k9 : Nat) : Bool ⊕ (Unit) :=
 cond (impl_within_m (gt x0.Values k9) 0 99) (Sum.inr ()) (Sum.inl false)
def impl_IsRow_m (x0 : DRow) : Bool :=
 Sum.elim id (fun (s : Unit) => cond (impl_within_m x0.Id 0 999) (((x0.Values.length : Nat) : Int) == 3) false) (rng (R := Bool) (fun k (_ : Unit) => impl_IsRow_b1 x0 k) (x0.Values.length - 0) 0 ())
set_option maxRecDepth 100000 in
theorem cb87 : Cb Try.prog 87 := ⟨Try.f87, _, Try.func87, rfl, by decide⟩
set_option maxRecDepth 10000 in
set_option maxHeartbeats 4000000 in
theorem impl_IsRow_c (w : World) (z0 : List Value) (x0 : DRow) (r_0 : tyRow.rd w w.heap.size z0 x0) :
  Calls Try.prog 87 #[.agg z0.toArray] w fun e w' => e = .returned (.bool (impl_IsRow_m x0)) ∧ Below w.heap.size w w' := by
 obtain ⟨v1, rfl, r2⟩ := tyRow_rd r_0
 have r7 := r2
 obtain ⟨m3, A4, c5, rfl, q6⟩ := r2
 refine call_enterM (L := [(0, .agg #[.int .i64 x0.Id, .slice A4 x0.Values.length c5])]) (N := 25) Try.func87 rfl rfl (Nat.le_of_ble_eq_true rfl) (argsL_cons rfl argsL_nil) ?_
 refine sr ?_
 refine WM_box rfl (Wd_none rfl) (by decide) (fun p8 => ?_)
 refine wa ?_
 refine nt' ?_
 refine CM_seq ?_
 refine sr ?_
 refine wv (fun W hm => rv_field Try.underlying69 rfl Try.type33 (by decide) rfl rfl) ?_
 refine wv (fun W hm => rv_load Try.underlying33 rfl rfl (hm.boxCell (n := 0) (o := 1) rfl rfl)) ?_
 refine wv (fun W hm => rv_len Try.underlying33 rfl) ?_
 refine wm ?_
 refine nt' ?_
 refine CM_block ?_
 refine CM_loop (σ := Nat × (Unit) × (Unit)) (fun s => [(1, .pointer (some (⟨p8, 0, none⟩ : Addr))), (6, .slice A4 x0.Values.length c5), (7, .int .i64 ((x0.Values.length : Nat) : Int)), (8, .int .i64 ((s.1 : Nat) : Int))]) (fun s => [iBox p8 69 [.int .i64 x0.Id, .slice A4 x0.Values.length c5]]) (fun s => s.1 ≤ x0.Values.length ∧ rng (R := Bool) (fun k (_ : Unit) => impl_IsRow_b1 x0 k) (x0.Values.length - s.1) s.1 s.2.1 = rng (R := Bool) (fun k (_ : Unit) => impl_IsRow_b1 x0 k) (x0.Values.length - 0) 0 ()) (fun s => x0.Values.length - s.1) (0, (), ()) (subL_cons rfl (subL_cons rfl (subL_cons rfl (subL_cons rfl subL_nil)))) (fun W hm => hm) ⟨(by omega), rfl⟩ ?_
 rintro ⟨k9, ⟨⟩, ⟨⟩⟩ H12
 obtain ⟨hk10, hF11⟩ : k9 ≤ x0.Values.length ∧ rng (R := Bool) (fun k (_ : Unit) => impl_IsRow_b1 x0 k) (x0.Values.length - k9) k9 () = rng (R := Bool) (fun k (_ : Unit) => impl_IsRow_b1 x0 k) (x0.Values.length - 0) 0 () := H12
 show CM Try.prog 25 _ _ _ _ [(1, .pointer (some (⟨p8, 0, none⟩ : Addr))), (6, .slice A4 x0.Values.length c5), (7, .int .i64 ((x0.Values.length : Nat) : Int)), (8, .int .i64 ((k9 : Nat) : Int))] [iBox p8 69 [.int .i64 x0.Id, .slice A4 x0.Values.length c5]]
 refine sr ?_
 refine wv (fun W hm => rv_lss rfl rfl) ?_
 refine nt' ?_
 refine CM_seq ?_
 by_cases hl13 : k9 < x0.Values.length
 ·have g14 : (decide (((k9 : Nat) : Int) < ((x0.Values.length : Nat) : Int))) = true := decide_eq_true (by omega)
  refine CM_condT rfl g14 ?_
  refine CM_skip ?_
  refine QM_then ?_
  refine CM_seq ?_
  refine CM_block ?_
  refine sr ?_
  obtain ⟨a15, rfl, hb16, he17⟩ := q6 (by omega)
  refine wv (fun W hm => rv_index (sz := 1) (k := k9) Try.underlying33 Try.type3 rfl rfl rfl (by omega)) ?_
  refine wv (fun W hm => rv_load Try.underlying3 rfl rfl ((hm.cell0 (show (a15.add (k9 * 1)).block < w.heap.size from by rw [add_block]; exact hb16.1)).trans (rdS_int he17 k9 (by omega)))) ?_
  refine wa ?_
  refine nt' ?_
  refine sr ?_
  refine wm ?_
  refine WM_callV (cl_fn cb114 rfl) (fun W hm => impl_within_c W (gt x0.Values k9) 0 99) (Wd_none rfl) (by decide) ?_
  refine wv (fun W hm => rv_not rfl) ?_
  refine nt' ?_
  rcases Bool.eq_false_or_eq_true (impl_within_m (gt x0.Values k9) 0 99) with g19 | g19
  ·
   have hw := impl_within_fact g19
   refine CM_condF rfl (nt g19) ?_
   refine CM_skip ?_
   refine QM_block_normal ?_
   refine QM_then ?_
   refine CM_region ?_
   refine wv (fun W hm => rv_addN (p := k9) (q := 1) rfl rfl (by omega)) ?_
   refine wm ?_
   refine WM_nil ?_
   have hn20 := rng_next (R := Bool) (body := (fun k (_ : Unit) => impl_IsRow_b1 x0 k)) (k := k9) (s := ()) (s' := ()) (show k9 < x0.Values.length from by omega) (show impl_IsRow_b1 x0 k9 = Sum.inr () from by unfold impl_IsRow_b1; exact cond_t g19 (rfl)) hF11
   exact QM_round (k9 + 1, (), ()) (subL_cons rfl (subL_cons rfl (subL_cons rfl (subL_cons rfl subL_nil)))) (fun W hm => hm) ⟨(by omega), hn20⟩ (show x0.Values.length - (k9 + 1) < x0.Values.length - k9 from by omega)
  ·
   refine CM_condT rfl (nf g19) ?_
   refine sr ?_
   refine wa ?_
   refine nt' ?_
   refine CM_ret ?_
   refine QM_block_ret ?_
   refine QM_then_ret ?_
   refine QM_then_ret ?_
   refine QM_block_ret ?_
   refine QM_then_ret ?_
   exact QM_ret1 rfl rfl (fun W hm => ⟨ret_b (show impl_IsRow_m x0 = false from by unfold impl_IsRow_m; exact fin_inl (rng_ret (body := (fun k (_ : Unit) => impl_IsRow_b1 x0 k)) (k := k9) (s := ()) (show k9 < x0.Values.length from by omega) (show impl_IsRow_b1 x0 k9 = Sum.inl false from by unfold impl_IsRow_b1; exact cond_f g19 (rfl)) hF11) rfl), hm.below⟩)
 ·have g14 : (decide (((k9 : Nat) : Int) < ((x0.Values.length : Nat) : Int))) = false := decide_eq_false (by omega)
  refine CM_condF rfl g14 ?_
  refine CM_exit ?_
  refine QM_then_exit ?_
  refine QM_then_exit ?_
  have hE21 : rng (R := Bool) (fun k (_ : Unit) => impl_IsRow_b1 x0 k) (x0.Values.length - 0) 0 () = Sum.inr () := rng_end hl13 hF11
  refine QM_block_hit ?_
  refine QM_then ?_
  refine sr ?_
  refine wv (fun W hm => rv_field Try.underlying69 rfl Try.type3 (by decide) rfl rfl) ?_
  refine wv (fun W hm => rv_load Try.underlying3 rfl rfl (hm.boxCell (n := 0) (o := 0) rfl rfl)) ?_
  refine WM_callV (cl_fn cb114 rfl) (fun W hm => impl_within_c W x0.Id 0 999) (Wd_none rfl) (by decide) ?_
  refine wm ?_
  rcases Bool.eq_false_or_eq_true (impl_within_m x0.Id 0 999) with g23 | g23
  ·
   have hw := impl_within_fact g23
   refine wg (fun W hm => rv_field Try.underlying69 rfl Try.type33 (by decide) rfl rfl) g23 ?_
   refine wg (fun W hm => rv_load Try.underlying33 rfl rfl (hm.boxCell (n := 0) (o := 1) rfl rfl)) g23 ?_
   refine wg (fun W hm => rv_len Try.underlying33 rfl) g23 ?_
   refine wg (fun W hm => rv_eql rfl rfl) g23 ?_
   refine wv (fun W hm => rv_pickT rfl g23 rfl) ?_
   refine wa ?_
   refine nt' ?_
   refine CM_ret ?_
   exact QM_ret1 rfl rfl (fun W hm => ⟨ret_b (show impl_IsRow_m x0 = (((x0.Values.length : Nat) : Int) == 3) from by unfold impl_IsRow_m; exact fin_inr hE21 (cond_t g23 (rfl))), hm.below⟩)
  ·
   refine ws g23 ?_
   refine ws g23 ?_
   refine ws g23 ?_
   refine ws g23 ?_
   refine wv (fun W hm => rv_pickF rfl g23 rfl) ?_
   refine wa ?_
   refine nt' ?_
   refine CM_ret ?_
   exact QM_ret1 rfl rfl (fun W hm => ⟨ret_b (show impl_IsRow_m x0 = false from by unfold impl_IsRow_m; exact fin_inr hE21 (cond_f g23 (rfl))), hm.below⟩)

def impl_IsVisible_m (x0 : DVersion) (x1 : Int) : Bool :=
 cond (decide (x0.Born ≤ x1)) (cond (x0.Died == (-1)) true (decide (x1 < x0.Died))) false
set_option maxRecDepth 100000 in
theorem cb117 : Cb Try.prog 117 := ⟨Try.f117, _, Try.func117, rfl, by decide⟩
set_option maxRecDepth 10000 in
set_option maxHeartbeats 4000000 in
theorem impl_IsVisible_c (w : World) (z0 : List Value) (x0 : DVersion) (x1 : Int) (r_0 : tyVersion.rd w w.heap.size z0 x0) :
  Calls Try.prog 117 #[.agg z0.toArray, .int .i64 x1] w fun e w' => e = .returned (.bool (impl_IsVisible_m x0 x1)) ∧ Below w.heap.size w w' := by
 obtain ⟨v1, rfl, r2⟩ := tyVersion_rd r_0
 have r7 := r2
 obtain ⟨m3, A4, c5, rfl, q6⟩ := r2
 refine call_enterM (L := [(0, .agg #[.int .i64 x0.Id, .slice A4 x0.Values.length c5, .int .i64 x0.Born, .int .i64 x0.Died]), (1, .int .i64 x1)]) (N := 20) Try.func117 rfl rfl (Nat.le_of_ble_eq_true rfl) (argsL_cons rfl (argsL_cons rfl argsL_nil)) ?_
 refine sr ?_
 refine WM_box rfl (Wd_none rfl) (by decide) (fun p8 => ?_)
 refine wa ?_
 refine nt' ?_
 refine sr ?_
 refine wv (fun W hm => rv_field Try.underlying102 rfl Try.type3 (by decide) rfl rfl) ?_
 refine wv (fun W hm => rv_load Try.underlying3 rfl rfl (hm.boxCell (n := 0) (o := 2) rfl rfl)) ?_
 refine wm ?_
 refine wv (fun W hm => rv_leq rfl rfl) ?_
 refine wm ?_
 by_cases h9 : x0.Born ≤ x1
 ·have g10 : (decide (x0.Born ≤ x1)) = true := decide_eq_true h9
  refine wg (fun W hm => rv_field Try.underlying102 rfl Try.type3 (by decide) rfl rfl) g10 ?_
  refine wg (fun W hm => rv_load Try.underlying3 rfl rfl (hm.boxCell (n := 0) (o := 3) rfl rfl)) g10 ?_
  refine wg (fun W hm => rv_eql rfl rfl) g10 ?_
  refine wg (fun W hm => rv_move rfl) g10 ?_
  by_cases h11 : x0.Died = (-1)
  ·have g12 : (x0.Died == (-1)) = true := beq_iff_eq.2 h11
   refine ws g12 ?_
   refine ws g12 ?_
   refine ws g12 ?_
   refine ws g12 ?_
   refine wg (fun W hm => rv_pickT rfl g12 rfl) g10 ?_
   refine wv (fun W hm => rv_pickT rfl g10 rfl) ?_
   refine wa ?_
   refine nt' ?_
   refine CM_ret ?_
   exact QM_ret1 rfl rfl (fun W hm => ⟨ret_b (show impl_IsVisible_m x0 x1 = true from by unfold impl_IsVisible_m; exact cond_t g10 (cond_t g12 (rfl))), hm.below⟩)
  ·have g12 : (x0.Died == (-1)) = false := beq_eq_false_iff_ne.2 h11
   refine wg (fun W hm => rv_field Try.underlying102 rfl Try.type3 (by decide) rfl rfl) g12 ?_
   refine wg (fun W hm => rv_load Try.underlying3 rfl rfl (hm.boxCell (n := 0) (o := 3) rfl rfl)) g12 ?_
   refine wg (fun W hm => rv_move rfl) g12 ?_
   refine wg (fun W hm => rv_gtr rfl rfl) g12 ?_
   refine wg (fun W hm => rv_pickF rfl g12 rfl) g10 ?_
   refine wv (fun W hm => rv_pickT rfl g10 rfl) ?_
   refine wa ?_
   refine nt' ?_
   refine CM_ret ?_
   exact QM_ret1 rfl rfl (fun W hm => ⟨ret_b (show impl_IsVisible_m x0 x1 = (decide (x1 < x0.Died)) from by unfold impl_IsVisible_m; exact cond_t g10 (cond_f g12 (rfl))), hm.below⟩)
 ·have g10 : (decide (x0.Born ≤ x1)) = false := decide_eq_false h9
  refine ws g10 ?_
  refine ws g10 ?_
  refine ws g10 ?_
  refine ws g10 ?_
  refine wu ?_
  refine wu ?_
  refine wu ?_
  refine wu ?_
  refine ws g10 ?_
  refine wv (fun W hm => rv_pickF rfl g10 rfl) ?_
  refine wa ?_
  refine nt' ?_
  refine CM_ret ?_
  exact QM_ret1 rfl rfl (fun W hm => ⟨ret_b (show impl_IsVisible_m x0 x1 = false from by unfold impl_IsVisible_m; exact cond_f g10 (rfl)), hm.below⟩)

def impl_meetInTime_m (x0 : DVersion) (x1 : DVersion) : Bool :=
 cond (impl_IsVisible_m x0 x1.Born) true (impl_IsVisible_m x1 x0.Born)
set_option maxRecDepth 100000 in
theorem cb116 : Cb Try.prog 116 := ⟨Try.f116, _, Try.func116, rfl, by decide⟩
set_option maxRecDepth 10000 in
set_option maxHeartbeats 4000000 in
theorem impl_meetInTime_c (w : World) (z0 : List Value) (x0 : DVersion) (z1 : List Value) (x1 : DVersion) (r_0 : tyVersion.rd w w.heap.size z0 x0) (r_1 : tyVersion.rd w w.heap.size z1 x1) :
  Calls Try.prog 116 #[.agg z0.toArray, .agg z1.toArray] w fun e w' => e = .returned (.bool (impl_meetInTime_m x0 x1)) ∧ Below w.heap.size w w' := by
 obtain ⟨v1, rfl, r2⟩ := tyVersion_rd r_0
 have r7 := r2
 obtain ⟨m3, A4, c5, rfl, q6⟩ := r2
 obtain ⟨v8, rfl, r9⟩ := tyVersion_rd r_1
 have r14 := r9
 obtain ⟨m10, A11, c12, rfl, q13⟩ := r9
 refine call_enterM (L := [(0, .agg #[.int .i64 x0.Id, .slice A4 x0.Values.length c5, .int .i64 x0.Born, .int .i64 x0.Died]), (1, .agg #[.int .i64 x1.Id, .slice A11 x1.Values.length c12, .int .i64 x1.Born, .int .i64 x1.Died])]) (N := 15) Try.func116 rfl rfl (Nat.le_of_ble_eq_true rfl) (argsL_cons rfl (argsL_cons rfl argsL_nil)) ?_
 refine sr ?_
 refine WM_box rfl (Wd_none rfl) (by decide) (fun p15 => ?_)
 refine WM_box rfl (Wd_none rfl) (by decide) (fun p16 => ?_)
 refine wa ?_
 refine nt' ?_
 refine sr ?_
 refine wv (fun W hm => rv_loadN (cs := [.int .i64 x0.Id, .slice A4 x0.Values.length c5, .int .i64 x0.Born, .int .i64 x0.Died]) Try.underlying102 Try.type102 rfl rfl (hm.boxCells (n := 1) rfl)) ?_
 refine wv (fun W hm => rv_field Try.underlying102 rfl Try.type3 (by decide) rfl rfl) ?_
 refine wv (fun W hm => rv_load Try.underlying3 rfl rfl (hm.boxCell (n := 0) (o := 2) rfl rfl)) ?_
 refine WM_callV (cl_fn cb117 rfl) (fun W hm => impl_IsVisible_c W _ x0 x1.Born (tyVersion_mk (x := x0) (hm.rdS0 r7))) (Wd_none rfl) (by decide) ?_
 refine wm ?_
 rcases Bool.eq_false_or_eq_true (impl_IsVisible_m x0 x1.Born) with g18 | g18
 ·
  refine ws g18 ?_
  refine ws g18 ?_
  refine ws g18 ?_
  refine ws g18 ?_
  refine wv (fun W hm => rv_pickT rfl g18 rfl) ?_
  refine wa ?_
  refine nt' ?_
  refine CM_ret ?_
  exact QM_ret1 rfl rfl (fun W hm => ⟨ret_b (show impl_meetInTime_m x0 x1 = true from by unfold impl_meetInTime_m; exact cond_t g18 (rfl)), hm.below⟩)
 ·
  refine wg (fun W hm => rv_loadN (cs := [.int .i64 x1.Id, .slice A11 x1.Values.length c12, .int .i64 x1.Born, .int .i64 x1.Died]) Try.underlying102 Try.type102 rfl rfl (hm.boxCells (n := 0) rfl)) g18 ?_
  refine wg (fun W hm => rv_field Try.underlying102 rfl Try.type3 (by decide) rfl rfl) g18 ?_
  refine wg (fun W hm => rv_load Try.underlying3 rfl rfl (hm.boxCell (n := 1) (o := 2) rfl rfl)) g18 ?_
  refine WM_callV (cl_fn cb117 rfl) (fun W hm => impl_IsVisible_c W _ x1 x0.Born (tyVersion_mk (x := x1) (hm.rdS0 r14))) (Wd_some rfl rfl rfl (bw g18 rfl)) (by decide) ?_
  refine wv (fun W hm => rv_pickF rfl g18 rfl) ?_
  refine wa ?_
  refine nt' ?_
  refine CM_ret ?_
  exact QM_ret1 rfl rfl (fun W hm => ⟨ret_b (show impl_meetInTime_m x0 x1 = (impl_IsVisible_m x1 x0.Born) from by unfold impl_meetInTime_m; exact cond_f g18 (rfl)), hm.below⟩)

end Go.Proofs.Ytjcdginailhfmaa
