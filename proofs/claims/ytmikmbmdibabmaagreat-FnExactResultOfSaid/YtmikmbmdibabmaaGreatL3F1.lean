/-
  Contracts of functions, printed by a program of ours.
-/
import Derived.Test.YtmikmbmdibabmaaGreatDat
namespace Go.Proofs.YtmikmbmdibabmaaGreat
open Go.RowKit
set_option maxRecDepth 100000
set_option maxHeartbeats 4000000
open _root_.Go.Proofs.Tryz
def laws_szIntS_m (x0 : (List Int)) (x1 : Int) : Int :=
 cond (decide ((IntKind.i64.wrap (x1 - ((x0.length : Nat) : Int))) < 0)) (-1) (IntKind.i64.wrap (x1 - ((x0.length : Nat) : Int)))
theorem cb77 : Cb Tryz.prog 77 := ⟨f77, _, func77, rfl, by decide⟩
theorem laws_szIntS_c (w : World) (z0 : Value) (x0 : (List Int)) (x1 : Int) (r_0 : rdS tInt w w.heap.size z0 x0) :
  Calls Tryz.prog 77 #[z0, .int .i64 x1] w fun e w' => e = .returned (.int .i64 (laws_szIntS_m x0 x1)) ∧ Below w.heap.size w w' := by
 have r5 := r_0
 obtain ⟨m1, A2, c3, rfl, q4⟩ := r_0
 refine ce2 (L := [(0, .slice A2 x0.length c3), (1, .int .i64 x1)]) (N := 12) func77 ?_
 refine sr (wa (nt' (sr (wm (wm ?_)))))
 refine wv (vlen underlying25) ?_
 refine wv (fun W hm => rv_sub rfl rfl) ?_
 refine wa (nt' (CM_seq (sr (wm ?_))))
 refine wv vlss ?_
 refine nt' ?_
 by_cases h6 : (IntKind.i64.wrap (x1 - ((x0.length : Nat) : Int))) < 0
 ·have g7 : (decide ((IntKind.i64.wrap (x1 - ((x0.length : Nat) : Int))) < 0)) = true := decide_eq_true h6
  refine CM_condT rfl g7 ?_
  refine sr (wa (nt' (CM_ret (QM_then_ret ?_))))
  exact rti (h := by unfold laws_szIntS_m; exact cond_t g7 (rfl))
 ·have g7 : (decide ((IntKind.i64.wrap (x1 - ((x0.length : Nat) : Int))) < 0)) = false := decide_eq_false h6
  refine CM_condF rfl g7 ?_
  refine CM_skip (QM_then (sr (wm (wa (nt' (CM_ret ?_))))))
  exact rti (h := by unfold laws_szIntS_m; exact cond_f g7 (rfl))

def laws_szVersion_m (x0 : DVersion) (x1 : Int) : Int :=
 cond (decide ((laws_szIntS_m x0.Values x1) < 0)) (-1) (laws_szIntS_m x0.Values x1)
theorem cb230 : Cb Tryz.prog 230 := ⟨f230, _, func230, rfl, by decide⟩
theorem laws_szVersion_c (w : World) (z0 : List Value) (x0 : DVersion) (x1 : Int) (r_0 : tyLVersion.rd w w.heap.size z0 x0) :
  Calls Tryz.prog 230 #[.agg z0.toArray, .int .i64 x1] w fun e w' => e = .returned (.int .i64 (laws_szVersion_m x0 x1)) ∧ Below w.heap.size w w' := by
 obtain ⟨v1, rfl, r2⟩ := tyLVersion_rd r_0
 have r7 := r2
 obtain ⟨m3, A4, c5, rfl, q6⟩ := r2
 refine ce2 (L := [(0, .agg #[.int .i64 x0.Id, .slice A4 x0.Values.length c5, .int .i64 x0.Born, .int .i64 x0.Died]), (1, .int .i64 x1)]) (N := 12) func230 ?_
 refine sr ?_
 refine WM_box rfl (Wd_none rfl) (by decide) (fun p8 => ?_)
 refine wa (nt' (sr ?_))
 refine wv (vf underlying239 rfl type25) ?_
 refine wv (vl 0 1 underlying25) ?_
 refine wm ?_
 refine wcv (cl_fn cb77 rfl) (fun W hm => laws_szIntS_c W _ x0.Values x1 (hm.rdS0 r7)) ?_
 refine wa (nt' (CM_seq (sr (wm ?_))))
 refine wv vlss ?_
 refine nt' ?_
 by_cases h9 : (laws_szIntS_m x0.Values x1) < 0
 ·have g10 : (decide ((laws_szIntS_m x0.Values x1) < 0)) = true := decide_eq_true h9
  refine CM_condT rfl g10 ?_
  refine sr (wa (nt' (CM_ret (QM_then_ret ?_))))
  exact rti (h := by unfold laws_szVersion_m; exact cond_t g10 (rfl))
 ·have g10 : (decide ((laws_szIntS_m x0.Values x1) < 0)) = false := decide_eq_false h9
  refine CM_condF rfl g10 ?_
  refine CM_skip (QM_then (sr (wm (wa (nt' (CM_ret ?_))))))
  exact rti (h := by unfold laws_szVersion_m; exact cond_f g10 (rfl))

def laws_szVersionS_b1 (x0 : (List DVersion)) (k8 : Nat) (s9 : Int) : Int ⊕ (Int) :=
 cond (decide ((laws_szVersion_m (gt x0 k8) s9) < 0)) (Sum.inl (-1)) (Sum.inr (laws_szVersion_m (gt x0 k8) s9))
def laws_szVersionS_m (x0 : (List DVersion)) (x1 : Int) : Int :=
 cond (decide ((IntKind.i64.wrap (x1 - ((x0.length : Nat) : Int))) < 0)) (-1) (Sum.elim id (fun (s : Int) => s) (rng (R := Int) (fun k (s : Int) => laws_szVersionS_b1 x0 k s) (x0.length - 0) 0 (IntKind.i64.wrap (x1 - ((x0.length : Nat) : Int)))))
theorem cb211 : Cb Tryz.prog 211 := ⟨f211, _, func211, rfl, by decide⟩
theorem laws_szVersionS_c (w : World) (z0 : Value) (x0 : (List DVersion)) (x1 : Int) (r_0 : rdS tyLVersion w w.heap.size z0 x0) :
  Calls Tryz.prog 211 #[z0, .int .i64 x1] w fun e w' => e = .returned (.int .i64 (laws_szVersionS_m x0 x1)) ∧ Below w.heap.size w w' := by
 have r5 := r_0
 obtain ⟨m1, A2, c3, rfl, q4⟩ := r_0
 refine ce2 (L := [(0, .slice A2 x0.length c3), (1, .int .i64 x1)]) (N := 27) func211 ?_
 refine sr (wa (nt' (sr (wm (wm ?_)))))
 refine wv (vlen underlying219) ?_
 refine wv (fun W hm => rv_sub rfl rfl) ?_
 refine wa (nt' (CM_seq (sr (wm ?_))))
 refine wv vlss ?_
 refine nt' ?_
 by_cases h6 : (IntKind.i64.wrap (x1 - ((x0.length : Nat) : Int))) < 0
 ·have g7 : (decide ((IntKind.i64.wrap (x1 - ((x0.length : Nat) : Int))) < 0)) = true := decide_eq_true h6
  refine CM_condT rfl g7 ?_
  refine sr (wa (nt' (CM_ret (QM_then_ret ?_))))
  exact rti (h := by unfold laws_szVersionS_m; exact cond_t g7 (rfl))
 ·have g7 : (decide ((IntKind.i64.wrap (x1 - ((x0.length : Nat) : Int))) < 0)) = false := decide_eq_false h6
  refine CM_condF rfl g7 ?_
  refine CM_skip (QM_then (CM_seq (sr (wa (nt' (CM_block ?_))))))
  let F1 := fun k (s : Int) => laws_szVersionS_b1 x0 k s
  let R2 := rng (R := Int) F1
  refine CM_loop (σ := Nat × (Int) × (Unit)) (fun s => [(0, .slice A2 x0.length c3), (1, .int .i64 s.2.1), (5, .int .i64 ((s.1 : Nat) : Int))]) (fun s => []) (fun s => s.1 ≤ x0.length ∧ R2 (x0.length - s.1) s.1 s.2.1 = R2 (x0.length - 0) 0 (IntKind.i64.wrap (x1 - ((x0.length : Nat) : Int)))) (fun s => x0.length - s.1) (0, (IntKind.i64.wrap (x1 - ((x0.length : Nat) : Int))), ()) sl3 (fun W hm => hm) ⟨(by omega), rfl⟩ ?_
  rintro ⟨k8, s9, ⟨⟩⟩ H12
  obtain ⟨hk10, hF11⟩ : k8 ≤ x0.length ∧ R2 (x0.length - k8) k8 s9 = R2 (x0.length - 0) 0 (IntKind.i64.wrap (x1 - ((x0.length : Nat) : Int))) := H12
  show CM Tryz.prog 27 _ _ _ _ [(0, .slice A2 x0.length c3), (1, .int .i64 s9), (5, .int .i64 ((k8 : Nat) : Int))] []
  refine CM_seq (sr (wm (wm ?_)))
  refine wv (vlen underlying219) ?_
  refine wv vlss ?_
  refine nt' ?_
  by_cases hl13 : k8 < x0.length
  ·have g14 : (decide (((k8 : Nat) : Int) < ((x0.length : Nat) : Int))) = true := decide_eq_true (by omega)
   refine CM_condT rfl g14 ?_
   refine CM_skip (QM_then (CM_seq (CM_block (sr (wm (wm ?_))))))
   obtain ⟨a15, rfl, hb16, he17⟩ := q4 (by omega)
   refine wv (vix 4 k8 underlying219 type239) ?_
   obtain ⟨_, e21, hc18⟩ := he17 k8 _ (gt_some (show k8 < x0.length from by omega))
   obtain ⟨v19, rfl, r20⟩ := tyLVersion_rd e21
   have r26 := r20
   obtain ⟨m22, A23, c24, rfl, q25⟩ := r20
   refine wv (fun W hm => rv_loadN (cs := [.int .i64 ((gt x0 k8).Id), .slice A23 ((gt x0 k8).Values).length c24, .int .i64 ((gt x0 k8).Born), .int .i64 ((gt x0 k8).Died)]) underlying239 type239 rfl rfl (hm.elCells (show (a15.add (k8 * 4)).block < w.heap.size from by rw [add_block]; exact hb16.1) hc18)) ?_
   refine wm ?_
   refine wcv (cl_fn cb230 rfl) (fun W hm => laws_szVersion_c W _ (gt x0 k8) s9 (tyLVersion_mk (x := (gt x0 k8)) (hm.rdS0 r26))) ?_
   refine wa (nt' (sr (wm ?_)))
   refine wv vlss ?_
   refine nt' ?_
   by_cases h27 : (laws_szVersion_m (gt x0 k8) s9) < 0
   ·have g28 : (decide ((laws_szVersion_m (gt x0 k8) s9) < 0)) = true := decide_eq_true h27
    refine CM_condT rfl g28 ?_
    refine sr (wa (nt' (CM_ret (QM_block_ret (QM_then_ret (QM_then_ret (QM_block_ret (QM_then_ret ?_))))))))
    exact rti (h := by unfold laws_szVersionS_m; exact cond_f g7 (fin_inl (rng_ret (body := F1) (k := k8) (s := s9) (show k8 < x0.length from by omega) (show laws_szVersionS_b1 x0 k8 s9 = Sum.inl (-1) from by unfold laws_szVersionS_b1; exact cond_t g28 (rfl)) hF11) rfl))
   ·have g28 : (decide ((laws_szVersion_m (gt x0 k8) s9) < 0)) = false := decide_eq_false h27
    refine CM_condF rfl g28 ?_
    refine CM_skip (QM_block_normal (QM_then (CM_region (wm ?_))))
    refine wv (vadN k8 1 (by omega)) ?_
    refine wa (WM_nil ?_)
    have hn29 := rng_next (R := Int) (body := F1) (k := k8) (s := s9) (s' := (laws_szVersion_m (gt x0 k8) s9)) (show k8 < x0.length from by omega) (show laws_szVersionS_b1 x0 k8 s9 = Sum.inr (laws_szVersion_m (gt x0 k8) s9) from by unfold laws_szVersionS_b1; exact cond_f g28 (rfl)) hF11
    exact QM_round (k8 + 1, (laws_szVersion_m (gt x0 k8) s9), ()) sl3 (fun W hm => hm) ⟨(by omega), hn29⟩ (rl (by omega))
  ·have g14 : (decide (((k8 : Nat) : Int) < ((x0.length : Nat) : Int))) = false := decide_eq_false (by omega)
   refine CM_condF rfl g14 ?_
   refine CM_exit (QM_then_exit (QM_then_exit ?_))
   have hE30 : R2 (x0.length - 0) 0 (IntKind.i64.wrap (x1 - ((x0.length : Nat) : Int))) = Sum.inr s9 := rng_end hl13 hF11
   refine QM_block_hit (QM_then (sr (wm (wa (nt' (CM_ret ?_))))))
   exact rti (h := by unfold laws_szVersionS_m; exact cond_f g7 (fin_inr hE30 (rfl)))

def laws_szVersionSS_b1 (x0 : (List (List DVersion))) (k8 : Nat) (s9 : Int) : Int ⊕ (Int) :=
 cond (decide ((laws_szVersionS_m (gt x0 k8) s9) < 0)) (Sum.inl (-1)) (Sum.inr (laws_szVersionS_m (gt x0 k8) s9))
def laws_szVersionSS_m (x0 : (List (List DVersion))) (x1 : Int) : Int :=
 cond (decide ((IntKind.i64.wrap (x1 - ((x0.length : Nat) : Int))) < 0)) (-1) (Sum.elim id (fun (s : Int) => s) (rng (R := Int) (fun k (s : Int) => laws_szVersionSS_b1 x0 k s) (x0.length - 0) 0 (IntKind.i64.wrap (x1 - ((x0.length : Nat) : Int)))))
theorem cb155 : Cb Tryz.prog 155 := ⟨f155, _, func155, rfl, by decide⟩
theorem laws_szVersionSS_c (w : World) (z0 : Value) (x0 : (List (List DVersion))) (x1 : Int) (r_0 : rdS (tSl tyLVersion 239) w w.heap.size z0 x0) :
  Calls Tryz.prog 155 #[z0, .int .i64 x1] w fun e w' => e = .returned (.int .i64 (laws_szVersionSS_m x0 x1)) ∧ Below w.heap.size w w' := by
 have r5 := r_0
 obtain ⟨m1, A2, c3, rfl, q4⟩ := r_0
 refine ce2 (L := [(0, .slice A2 x0.length c3), (1, .int .i64 x1)]) (N := 27) func155 ?_
 refine sr (wa (nt' (sr (wm (wm ?_)))))
 refine wv (vlen underlying22) ?_
 refine wv (fun W hm => rv_sub rfl rfl) ?_
 refine wa (nt' (CM_seq (sr (wm ?_))))
 refine wv vlss ?_
 refine nt' ?_
 by_cases h6 : (IntKind.i64.wrap (x1 - ((x0.length : Nat) : Int))) < 0
 ·have g7 : (decide ((IntKind.i64.wrap (x1 - ((x0.length : Nat) : Int))) < 0)) = true := decide_eq_true h6
  refine CM_condT rfl g7 ?_
  refine sr (wa (nt' (CM_ret (QM_then_ret ?_))))
  exact rti (h := by unfold laws_szVersionSS_m; exact cond_t g7 (rfl))
 ·have g7 : (decide ((IntKind.i64.wrap (x1 - ((x0.length : Nat) : Int))) < 0)) = false := decide_eq_false h6
  refine CM_condF rfl g7 ?_
  refine CM_skip (QM_then (CM_seq (sr (wa (nt' (CM_block ?_))))))
  let F1 := fun k (s : Int) => laws_szVersionSS_b1 x0 k s
  let R2 := rng (R := Int) F1
  refine CM_loop (σ := Nat × (Int) × (Unit)) (fun s => [(0, .slice A2 x0.length c3), (1, .int .i64 s.2.1), (5, .int .i64 ((s.1 : Nat) : Int))]) (fun s => []) (fun s => s.1 ≤ x0.length ∧ R2 (x0.length - s.1) s.1 s.2.1 = R2 (x0.length - 0) 0 (IntKind.i64.wrap (x1 - ((x0.length : Nat) : Int)))) (fun s => x0.length - s.1) (0, (IntKind.i64.wrap (x1 - ((x0.length : Nat) : Int))), ()) sl3 (fun W hm => hm) ⟨(by omega), rfl⟩ ?_
  rintro ⟨k8, s9, ⟨⟩⟩ H12
  obtain ⟨hk10, hF11⟩ : k8 ≤ x0.length ∧ R2 (x0.length - k8) k8 s9 = R2 (x0.length - 0) 0 (IntKind.i64.wrap (x1 - ((x0.length : Nat) : Int))) := H12
  show CM Tryz.prog 27 _ _ _ _ [(0, .slice A2 x0.length c3), (1, .int .i64 s9), (5, .int .i64 ((k8 : Nat) : Int))] []
  refine CM_seq (sr (wm (wm ?_)))
  refine wv (vlen underlying22) ?_
  refine wv vlss ?_
  refine nt' ?_
  by_cases hl13 : k8 < x0.length
  ·have g14 : (decide (((k8 : Nat) : Int) < ((x0.length : Nat) : Int))) = true := decide_eq_true (by omega)
   refine CM_condT rfl g14 ?_
   refine CM_skip (QM_then (CM_seq (CM_block (sr (wm (wm ?_))))))
   obtain ⟨a15, rfl, hb16, he17⟩ := q4 (by omega)
   refine wv (vix 1 k8 underlying22 type219) ?_
   obtain ⟨_, e19, hc18⟩ := he17 k8 _ (gt_some (show k8 < x0.length from by omega))
   obtain ⟨v20, rfl, r21⟩ := e19
   have r26 := r21
   obtain ⟨m22, A23, c24, rfl, q25⟩ := r21
   refine wv (fun W hm => rv_load underlying219 rfl rfl ((hm.cell0 (show (a15.add (k8 * 1)).block < w.heap.size from by rw [add_block]; exact hb16.1)).trans (hc18 0 _ rfl))) ?_
   refine wm ?_
   refine wcv (cl_fn cb211 rfl) (fun W hm => laws_szVersionS_c W _ (gt x0 k8) s9 (hm.rdS0 r26)) ?_
   refine wa (nt' (sr (wm ?_)))
   refine wv vlss ?_
   refine nt' ?_
   by_cases h27 : (laws_szVersionS_m (gt x0 k8) s9) < 0
   ·have g28 : (decide ((laws_szVersionS_m (gt x0 k8) s9) < 0)) = true := decide_eq_true h27
    refine CM_condT rfl g28 ?_
    refine sr (wa (nt' (CM_ret (QM_block_ret (QM_then_ret (QM_then_ret (QM_block_ret (QM_then_ret ?_))))))))
    exact rti (h := by unfold laws_szVersionSS_m; exact cond_f g7 (fin_inl (rng_ret (body := F1) (k := k8) (s := s9) (show k8 < x0.length from by omega) (show laws_szVersionSS_b1 x0 k8 s9 = Sum.inl (-1) from by unfold laws_szVersionSS_b1; exact cond_t g28 (rfl)) hF11) rfl))
   ·have g28 : (decide ((laws_szVersionS_m (gt x0 k8) s9) < 0)) = false := decide_eq_false h27
    refine CM_condF rfl g28 ?_
    refine CM_skip (QM_block_normal (QM_then (CM_region (wm ?_))))
    refine wv (vadN k8 1 (by omega)) ?_
    refine wa (WM_nil ?_)
    have hn29 := rng_next (R := Int) (body := F1) (k := k8) (s := s9) (s' := (laws_szVersionS_m (gt x0 k8) s9)) (show k8 < x0.length from by omega) (show laws_szVersionSS_b1 x0 k8 s9 = Sum.inr (laws_szVersionS_m (gt x0 k8) s9) from by unfold laws_szVersionSS_b1; exact cond_f g28 (rfl)) hF11
    exact QM_round (k8 + 1, (laws_szVersionS_m (gt x0 k8) s9), ()) sl3 (fun W hm => hm) ⟨(by omega), hn29⟩ (rl (by omega))
  ·have g14 : (decide (((k8 : Nat) : Int) < ((x0.length : Nat) : Int))) = false := decide_eq_false (by omega)
   refine CM_condF rfl g14 ?_
   refine CM_exit (QM_then_exit (QM_then_exit ?_))
   have hE30 : R2 (x0.length - 0) 0 (IntKind.i64.wrap (x1 - ((x0.length : Nat) : Int))) = Sum.inr s9 := rng_end hl13 hF11
   refine QM_block_hit (QM_then (sr (wm (wa (nt' (CM_ret ?_))))))
   exact rti (h := by unfold laws_szVersionSS_m; exact cond_f g7 (fin_inr hE30 (rfl)))

def laws_szStore_m (x0 : DStore) (x1 : Int) : Int :=
 cond (decide ((laws_szVersionSS_m x0.Segments x1) < 0)) (-1) (laws_szVersionSS_m x0.Segments x1)
theorem cb76 : Cb Tryz.prog 76 := ⟨f76, _, func76, rfl, by decide⟩
theorem laws_szStore_c (w : World) (z0 : List Value) (x0 : DStore) (x1 : Int) (r_0 : tyLStore.rd w w.heap.size z0 x0) :
  Calls Tryz.prog 76 #[.agg z0.toArray, .int .i64 x1] w fun e w' => e = .returned (.int .i64 (laws_szStore_m x0 x1)) ∧ Below w.heap.size w w' := by
 obtain ⟨v1, rfl, r2⟩ := tyLStore_rd r_0
 have r7 := r2
 obtain ⟨m3, A4, c5, rfl, q6⟩ := r2
 refine ce2 (L := [(0, .agg #[.slice A4 x0.Segments.length c5, .int .i64 x0.Now]), (1, .int .i64 x1)]) (N := 12) func76 ?_
 refine sr ?_
 refine WM_box rfl (Wd_none rfl) (by decide) (fun p8 => ?_)
 refine wa (nt' (sr ?_))
 refine wv (vf underlying24 rfl type22) ?_
 refine wv (vl 0 0 underlying22) ?_
 refine wm ?_
 refine wcv (cl_fn cb155 rfl) (fun W hm => laws_szVersionSS_c W _ x0.Segments x1 (hm.rdS0 r7)) ?_
 refine wa (nt' (CM_seq (sr (wm ?_))))
 refine wv vlss ?_
 refine nt' ?_
 by_cases h9 : (laws_szVersionSS_m x0.Segments x1) < 0
 ·have g10 : (decide ((laws_szVersionSS_m x0.Segments x1) < 0)) = true := decide_eq_true h9
  refine CM_condT rfl g10 ?_
  refine sr (wa (nt' (CM_ret (QM_then_ret ?_))))
  exact rti (h := by unfold laws_szStore_m; exact cond_t g10 (rfl))
 ·have g10 : (decide ((laws_szVersionSS_m x0.Segments x1) < 0)) = false := decide_eq_false h9
  refine CM_condF rfl g10 ?_
  refine CM_skip (QM_then (sr (wm (wa (nt' (CM_ret ?_))))))
  exact rti (h := by unfold laws_szStore_m; exact cond_f g10 (rfl))

def laws_szCondS_m (x0 : (List DCond)) (x1 : Int) : Int :=
 cond (decide ((IntKind.i64.wrap (x1 - ((x0.length : Nat) : Int))) < 0)) (-1) (IntKind.i64.wrap (x1 - ((x0.length : Nat) : Int)))
theorem cb143 : Cb Tryz.prog 143 := ⟨f143, _, func143, rfl, by decide⟩
theorem laws_szCondS_c (w : World) (z0 : Value) (x0 : (List DCond)) (x1 : Int) (r_0 : rdS tyLCond w w.heap.size z0 x0) :
  Calls Tryz.prog 143 #[z0, .int .i64 x1] w fun e w' => e = .returned (.int .i64 (laws_szCondS_m x0 x1)) ∧ Below w.heap.size w w' := by
 have r5 := r_0
 obtain ⟨m1, A2, c3, rfl, q4⟩ := r_0
 refine ce2 (L := [(0, .slice A2 x0.length c3), (1, .int .i64 x1)]) (N := 12) func143 ?_
 refine sr (wa (nt' (sr (wm (wm ?_)))))
 refine wv (vlen underlying85) ?_
 refine wv (fun W hm => rv_sub rfl rfl) ?_
 refine wa (nt' (CM_seq (sr (wm ?_))))
 refine wv vlss ?_
 refine nt' ?_
 by_cases h6 : (IntKind.i64.wrap (x1 - ((x0.length : Nat) : Int))) < 0
 ·have g7 : (decide ((IntKind.i64.wrap (x1 - ((x0.length : Nat) : Int))) < 0)) = true := decide_eq_true h6
  refine CM_condT rfl g7 ?_
  refine sr (wa (nt' (CM_ret (QM_then_ret ?_))))
  exact rti (h := by unfold laws_szCondS_m; exact cond_t g7 (rfl))
 ·have g7 : (decide ((IntKind.i64.wrap (x1 - ((x0.length : Nat) : Int))) < 0)) = false := decide_eq_false h6
  refine CM_condF rfl g7 ?_
  refine CM_skip (QM_then (sr (wm (wa (nt' (CM_ret ?_))))))
  exact rti (h := by unfold laws_szCondS_m; exact cond_f g7 (rfl))

def laws_szQuery_m (x0 : DQuery) (x1 : Int) : Int :=
 cond (decide ((laws_szCondS_m x0.Conds x1) < 0)) (-1) (cond (decide ((laws_szIntS_m x0.Out (laws_szCondS_m x0.Conds x1)) < 0)) (-1) (laws_szIntS_m x0.Out (laws_szCondS_m x0.Conds x1)))
theorem cb52 : Cb Tryz.prog 52 := ⟨f52, _, func52, rfl, by decide⟩
theorem laws_szQuery_c (w : World) (z0 : List Value) (x0 : DQuery) (x1 : Int) (r_0 : tyLQuery.rd w w.heap.size z0 x0) :
  Calls Tryz.prog 52 #[.agg z0.toArray, .int .i64 x1] w fun e w' => e = .returned (.int .i64 (laws_szQuery_m x0 x1)) ∧ Below w.heap.size w w' := by
 obtain ⟨v1, v3, rfl, r2, r4⟩ := tyLQuery_rd r_0
 have r9 := r2
 obtain ⟨m5, A6, c7, rfl, q8⟩ := r2
 have r14 := r4
 obtain ⟨m10, A11, c12, rfl, q13⟩ := r4
 refine ce2 (L := [(0, .agg #[.int .i64 x0.Id, .int .i64 x0.Tenant, .slice A6 x0.Conds.length c7, .slice A11 x0.Out.length c12]), (1, .int .i64 x1)]) (N := 18) func52 ?_
 refine sr ?_
 refine WM_box rfl (Wd_none rfl) (by decide) (fun p15 => ?_)
 refine wa (nt' (sr ?_))
 refine wv (vf underlying87 rfl type85) ?_
 refine wv (vl 0 2 underlying85) ?_
 refine wm ?_
 refine wcv (cl_fn cb143 rfl) (fun W hm => laws_szCondS_c W _ x0.Conds x1 (hm.rdS0 r9)) ?_
 refine wa (nt' (CM_seq (sr (wm ?_))))
 refine wv vlss ?_
 refine nt' ?_
 by_cases h16 : (laws_szCondS_m x0.Conds x1) < 0
 ·have g17 : (decide ((laws_szCondS_m x0.Conds x1) < 0)) = true := decide_eq_true h16
  refine CM_condT rfl g17 ?_
  refine sr (wa (nt' (CM_ret (QM_then_ret ?_))))
  exact rti (h := by unfold laws_szQuery_m; exact cond_t g17 (rfl))
 ·have g17 : (decide ((laws_szCondS_m x0.Conds x1) < 0)) = false := decide_eq_false h16
  refine CM_condF rfl g17 ?_
  refine CM_skip (QM_then (sr ?_))
  refine wv (vf underlying87 rfl type25) ?_
  refine wv (vl 0 3 underlying25) ?_
  refine wm ?_
  refine wcv (cl_fn cb77 rfl) (fun W hm => laws_szIntS_c W _ x0.Out (laws_szCondS_m x0.Conds x1) (hm.rdS0 r14)) ?_
  refine wa (nt' (CM_seq (sr (wm ?_))))
  refine wv vlss ?_
  refine nt' ?_
  by_cases h18 : (laws_szIntS_m x0.Out (laws_szCondS_m x0.Conds x1)) < 0
  ·have g19 : (decide ((laws_szIntS_m x0.Out (laws_szCondS_m x0.Conds x1)) < 0)) = true := decide_eq_true h18
   refine CM_condT rfl g19 ?_
   refine sr (wa (nt' (CM_ret (QM_then_ret ?_))))
   exact rti (h := by unfold laws_szQuery_m; exact cond_f g17 (cond_t g19 (rfl)))
  ·have g19 : (decide ((laws_szIntS_m x0.Out (laws_szCondS_m x0.Conds x1)) < 0)) = false := decide_eq_false h18
   refine CM_condF rfl g19 ?_
   refine CM_skip (QM_then (sr (wm (wa (nt' (CM_ret ?_))))))
   exact rti (h := by unfold laws_szQuery_m; exact cond_f g17 (cond_f g19 (rfl)))

def laws_szRow_m (x0 : DRow) (x1 : Int) : Int :=
 cond (decide ((laws_szIntS_m x0.Values x1) < 0)) (-1) (laws_szIntS_m x0.Values x1)
theorem cb147 : Cb Tryz.prog 147 := ⟨f147, _, func147, rfl, by decide⟩
theorem laws_szRow_c (w : World) (z0 : List Value) (x0 : DRow) (x1 : Int) (r_0 : tyLRow.rd w w.heap.size z0 x0) :
  Calls Tryz.prog 147 #[.agg z0.toArray, .int .i64 x1] w fun e w' => e = .returned (.int .i64 (laws_szRow_m x0 x1)) ∧ Below w.heap.size w w' := by
 obtain ⟨v1, rfl, r2⟩ := tyLRow_rd r_0
 have r7 := r2
 obtain ⟨m3, A4, c5, rfl, q6⟩ := r2
 refine ce2 (L := [(0, .agg #[.int .i64 x0.Id, .slice A4 x0.Values.length c5]), (1, .int .i64 x1)]) (N := 12) func147 ?_
 refine sr ?_
 refine WM_box rfl (Wd_none rfl) (by decide) (fun p8 => ?_)
 refine wa (nt' (sr ?_))
 refine wv (vf underlying93 rfl type25) ?_
 refine wv (vl 0 1 underlying25) ?_
 refine wm ?_
 refine wcv (cl_fn cb77 rfl) (fun W hm => laws_szIntS_c W _ x0.Values x1 (hm.rdS0 r7)) ?_
 refine wa (nt' (CM_seq (sr (wm ?_))))
 refine wv vlss ?_
 refine nt' ?_
 by_cases h9 : (laws_szIntS_m x0.Values x1) < 0
 ·have g10 : (decide ((laws_szIntS_m x0.Values x1) < 0)) = true := decide_eq_true h9
  refine CM_condT rfl g10 ?_
  refine sr (wa (nt' (CM_ret (QM_then_ret ?_))))
  exact rti (h := by unfold laws_szRow_m; exact cond_t g10 (rfl))
 ·have g10 : (decide ((laws_szIntS_m x0.Values x1) < 0)) = false := decide_eq_false h9
  refine CM_condF rfl g10 ?_
  refine CM_skip (QM_then (sr (wm (wa (nt' (CM_ret ?_))))))
  exact rti (h := by unfold laws_szRow_m; exact cond_f g10 (rfl))

def laws_szRowS_b1 (x0 : (List DRow)) (k8 : Nat) (s9 : Int) : Int ⊕ (Int) :=
 cond (decide ((laws_szRow_m (gt x0 k8) s9) < 0)) (Sum.inl (-1)) (Sum.inr (laws_szRow_m (gt x0 k8) s9))
def laws_szRowS_m (x0 : (List DRow)) (x1 : Int) : Int :=
 cond (decide ((IntKind.i64.wrap (x1 - ((x0.length : Nat) : Int))) < 0)) (-1) (Sum.elim id (fun (s : Int) => s) (rng (R := Int) (fun k (s : Int) => laws_szRowS_b1 x0 k s) (x0.length - 0) 0 (IntKind.i64.wrap (x1 - ((x0.length : Nat) : Int)))))
theorem cb212 : Cb Tryz.prog 212 := ⟨f212, _, func212, rfl, by decide⟩
theorem laws_szRowS_c (w : World) (z0 : Value) (x0 : (List DRow)) (x1 : Int) (r_0 : rdS tyLRow w w.heap.size z0 x0) :
  Calls Tryz.prog 212 #[z0, .int .i64 x1] w fun e w' => e = .returned (.int .i64 (laws_szRowS_m x0 x1)) ∧ Below w.heap.size w w' := by
 have r5 := r_0
 obtain ⟨m1, A2, c3, rfl, q4⟩ := r_0
 refine ce2 (L := [(0, .slice A2 x0.length c3), (1, .int .i64 x1)]) (N := 27) func212 ?_
 refine sr (wa (nt' (sr (wm (wm ?_)))))
 refine wv (vlen underlying169) ?_
 refine wv (fun W hm => rv_sub rfl rfl) ?_
 refine wa (nt' (CM_seq (sr (wm ?_))))
 refine wv vlss ?_
 refine nt' ?_
 by_cases h6 : (IntKind.i64.wrap (x1 - ((x0.length : Nat) : Int))) < 0
 ·have g7 : (decide ((IntKind.i64.wrap (x1 - ((x0.length : Nat) : Int))) < 0)) = true := decide_eq_true h6
  refine CM_condT rfl g7 ?_
  refine sr (wa (nt' (CM_ret (QM_then_ret ?_))))
  exact rti (h := by unfold laws_szRowS_m; exact cond_t g7 (rfl))
 ·have g7 : (decide ((IntKind.i64.wrap (x1 - ((x0.length : Nat) : Int))) < 0)) = false := decide_eq_false h6
  refine CM_condF rfl g7 ?_
  refine CM_skip (QM_then (CM_seq (sr (wa (nt' (CM_block ?_))))))
  let F1 := fun k (s : Int) => laws_szRowS_b1 x0 k s
  let R2 := rng (R := Int) F1
  refine CM_loop (σ := Nat × (Int) × (Unit)) (fun s => [(0, .slice A2 x0.length c3), (1, .int .i64 s.2.1), (5, .int .i64 ((s.1 : Nat) : Int))]) (fun s => []) (fun s => s.1 ≤ x0.length ∧ R2 (x0.length - s.1) s.1 s.2.1 = R2 (x0.length - 0) 0 (IntKind.i64.wrap (x1 - ((x0.length : Nat) : Int)))) (fun s => x0.length - s.1) (0, (IntKind.i64.wrap (x1 - ((x0.length : Nat) : Int))), ()) sl3 (fun W hm => hm) ⟨(by omega), rfl⟩ ?_
  rintro ⟨k8, s9, ⟨⟩⟩ H12
  obtain ⟨hk10, hF11⟩ : k8 ≤ x0.length ∧ R2 (x0.length - k8) k8 s9 = R2 (x0.length - 0) 0 (IntKind.i64.wrap (x1 - ((x0.length : Nat) : Int))) := H12
  show CM Tryz.prog 27 _ _ _ _ [(0, .slice A2 x0.length c3), (1, .int .i64 s9), (5, .int .i64 ((k8 : Nat) : Int))] []
  refine CM_seq (sr (wm (wm ?_)))
  refine wv (vlen underlying169) ?_
  refine wv vlss ?_
  refine nt' ?_
  by_cases hl13 : k8 < x0.length
  ·have g14 : (decide (((k8 : Nat) : Int) < ((x0.length : Nat) : Int))) = true := decide_eq_true (by omega)
   refine CM_condT rfl g14 ?_
   refine CM_skip (QM_then (CM_seq (CM_block (sr (wm (wm ?_))))))
   obtain ⟨a15, rfl, hb16, he17⟩ := q4 (by omega)
   refine wv (vix 2 k8 underlying169 type93) ?_
   obtain ⟨_, e21, hc18⟩ := he17 k8 _ (gt_some (show k8 < x0.length from by omega))
   obtain ⟨v19, rfl, r20⟩ := tyLRow_rd e21
   have r26 := r20
   obtain ⟨m22, A23, c24, rfl, q25⟩ := r20
   refine wv (fun W hm => rv_loadN (cs := [.int .i64 ((gt x0 k8).Id), .slice A23 ((gt x0 k8).Values).length c24]) underlying93 type93 rfl rfl (hm.elCells (show (a15.add (k8 * 2)).block < w.heap.size from by rw [add_block]; exact hb16.1) hc18)) ?_
   refine wm ?_
   refine wcv (cl_fn cb147 rfl) (fun W hm => laws_szRow_c W _ (gt x0 k8) s9 (tyLRow_mk (x := (gt x0 k8)) (hm.rdS0 r26))) ?_
   refine wa (nt' (sr (wm ?_)))
   refine wv vlss ?_
   refine nt' ?_
   by_cases h27 : (laws_szRow_m (gt x0 k8) s9) < 0
   ·have g28 : (decide ((laws_szRow_m (gt x0 k8) s9) < 0)) = true := decide_eq_true h27
    refine CM_condT rfl g28 ?_
    refine sr (wa (nt' (CM_ret (QM_block_ret (QM_then_ret (QM_then_ret (QM_block_ret (QM_then_ret ?_))))))))
    exact rti (h := by unfold laws_szRowS_m; exact cond_f g7 (fin_inl (rng_ret (body := F1) (k := k8) (s := s9) (show k8 < x0.length from by omega) (show laws_szRowS_b1 x0 k8 s9 = Sum.inl (-1) from by unfold laws_szRowS_b1; exact cond_t g28 (rfl)) hF11) rfl))
   ·have g28 : (decide ((laws_szRow_m (gt x0 k8) s9) < 0)) = false := decide_eq_false h27
    refine CM_condF rfl g28 ?_
    refine CM_skip (QM_block_normal (QM_then (CM_region (wm ?_))))
    refine wv (vadN k8 1 (by omega)) ?_
    refine wa (WM_nil ?_)
    have hn29 := rng_next (R := Int) (body := F1) (k := k8) (s := s9) (s' := (laws_szRow_m (gt x0 k8) s9)) (show k8 < x0.length from by omega) (show laws_szRowS_b1 x0 k8 s9 = Sum.inr (laws_szRow_m (gt x0 k8) s9) from by unfold laws_szRowS_b1; exact cond_f g28 (rfl)) hF11
    exact QM_round (k8 + 1, (laws_szRow_m (gt x0 k8) s9), ()) sl3 (fun W hm => hm) ⟨(by omega), hn29⟩ (rl (by omega))
  ·have g14 : (decide (((k8 : Nat) : Int) < ((x0.length : Nat) : Int))) = false := decide_eq_false (by omega)
   refine CM_condF rfl g14 ?_
   refine CM_exit (QM_then_exit (QM_then_exit ?_))
   have hE30 : R2 (x0.length - 0) 0 (IntKind.i64.wrap (x1 - ((x0.length : Nat) : Int))) = Sum.inr s9 := rng_end hl13 hF11
   refine QM_block_hit (QM_then (sr (wm (wa (nt' (CM_ret ?_))))))
   exact rti (h := by unfold laws_szRowS_m; exact cond_f g7 (fin_inr hE30 (rfl)))

def laws_szActive_m (x0 : DActive) (x1 : Int) : Int :=
 cond (decide ((laws_szQuery_m x0.Query x1) < 0)) (-1) (cond (decide ((laws_szIntS_m x0.Todo (laws_szQuery_m x0.Query x1)) < 0)) (-1) (cond (decide ((laws_szRowS_m x0.Rows (laws_szIntS_m x0.Todo (laws_szQuery_m x0.Query x1))) < 0)) (-1) (laws_szRowS_m x0.Rows (laws_szIntS_m x0.Todo (laws_szQuery_m x0.Query x1)))))
theorem cb156 : Cb Tryz.prog 156 := ⟨f156, _, func156, rfl, by decide⟩
theorem laws_szActive_c (w : World) (z0 : List Value) (x0 : DActive) (x1 : Int) (r_0 : tyLActive.rd w w.heap.size z0 x0) :
  Calls Tryz.prog 156 #[.agg z0.toArray, .int .i64 x1] w fun e w' => e = .returned (.int .i64 (laws_szActive_m x0 x1)) ∧ Below w.heap.size w w' := by
 obtain ⟨v1, v3, v5, v7, rfl, r2, r4, r6, r8⟩ := tyLActive_rd r_0
 have r13 := r2
 obtain ⟨m9, A10, c11, rfl, q12⟩ := r2
 have r18 := r4
 obtain ⟨m14, A15, c16, rfl, q17⟩ := r4
 have r23 := r6
 obtain ⟨m19, A20, c21, rfl, q22⟩ := r6
 have r28 := r8
 obtain ⟨m24, A25, c26, rfl, q27⟩ := r8
 refine ce2 (L := [(0, .agg #[.int .i64 x0.Query.Id, .int .i64 x0.Query.Tenant, .slice A10 x0.Query.Conds.length c11, .slice A15 x0.Query.Out.length c16, .int .i64 x0.Time, .slice A20 x0.Todo.length c21, .int .i64 x0.Age, .int .i64 x0.Sent, .int .i64 x0.Cap, .slice A25 x0.Rows.length c26]), (1, .int .i64 x1)]) (N := 24) func156 ?_
 refine sr ?_
 refine WM_box rfl (Wd_none rfl) (by decide) (fun p29 => ?_)
 refine wa (nt' (sr ?_))
 refine wv (vf underlying171 rfl type87) ?_
 refine wv (fun W hm => rv_loadN (cs := [.int .i64 x0.Query.Id, .int .i64 x0.Query.Tenant, .slice A10 x0.Query.Conds.length c11, .slice A15 x0.Query.Out.length c16]) underlying87 type87 rfl rfl (hm.boxPart (n := 0) rfl rfl)) ?_
 refine wm ?_
 refine wcv (cl_fn cb52 rfl) (fun W hm => laws_szQuery_c W _ x0.Query x1 (tyLQuery_mk (x := x0.Query) (hm.rdS0 r13) (hm.rdS0 r18))) ?_
 refine wa (nt' (CM_seq (sr (wm ?_))))
 refine wv vlss ?_
 refine nt' ?_
 by_cases h30 : (laws_szQuery_m x0.Query x1) < 0
 ·have g31 : (decide ((laws_szQuery_m x0.Query x1) < 0)) = true := decide_eq_true h30
  refine CM_condT rfl g31 ?_
  refine sr (wa (nt' (CM_ret (QM_then_ret ?_))))
  exact rti (h := by unfold laws_szActive_m; exact cond_t g31 (rfl))
 ·have g31 : (decide ((laws_szQuery_m x0.Query x1) < 0)) = false := decide_eq_false h30
  refine CM_condF rfl g31 ?_
  refine CM_skip (QM_then (sr ?_))
  refine wv (vf underlying171 rfl type25) ?_
  refine wv (vl 0 5 underlying25) ?_
  refine wm ?_
  refine wcv (cl_fn cb77 rfl) (fun W hm => laws_szIntS_c W _ x0.Todo (laws_szQuery_m x0.Query x1) (hm.rdS0 r23)) ?_
  refine wa (nt' (CM_seq (sr (wm ?_))))
  refine wv vlss ?_
  refine nt' ?_
  by_cases h32 : (laws_szIntS_m x0.Todo (laws_szQuery_m x0.Query x1)) < 0
  ·have g33 : (decide ((laws_szIntS_m x0.Todo (laws_szQuery_m x0.Query x1)) < 0)) = true := decide_eq_true h32
   refine CM_condT rfl g33 ?_
   refine sr (wa (nt' (CM_ret (QM_then_ret ?_))))
   exact rti (h := by unfold laws_szActive_m; exact cond_f g31 (cond_t g33 (rfl)))
  ·have g33 : (decide ((laws_szIntS_m x0.Todo (laws_szQuery_m x0.Query x1)) < 0)) = false := decide_eq_false h32
   refine CM_condF rfl g33 ?_
   refine CM_skip (QM_then (sr ?_))
   refine wv (vf underlying171 rfl type169) ?_
   refine wv (vl 0 9 underlying169) ?_
   refine wm ?_
   refine wcv (cl_fn cb212 rfl) (fun W hm => laws_szRowS_c W _ x0.Rows (laws_szIntS_m x0.Todo (laws_szQuery_m x0.Query x1)) (hm.rdS0 r28)) ?_
   refine wa (nt' (CM_seq (sr (wm ?_))))
   refine wv vlss ?_
   refine nt' ?_
   by_cases h34 : (laws_szRowS_m x0.Rows (laws_szIntS_m x0.Todo (laws_szQuery_m x0.Query x1))) < 0
   ·have g35 : (decide ((laws_szRowS_m x0.Rows (laws_szIntS_m x0.Todo (laws_szQuery_m x0.Query x1))) < 0)) = true := decide_eq_true h34
    refine CM_condT rfl g35 ?_
    refine sr (wa (nt' (CM_ret (QM_then_ret ?_))))
    exact rti (h := by unfold laws_szActive_m; exact cond_f g31 (cond_f g33 (cond_t g35 (rfl))))
   ·have g35 : (decide ((laws_szRowS_m x0.Rows (laws_szIntS_m x0.Todo (laws_szQuery_m x0.Query x1))) < 0)) = false := decide_eq_false h34
    refine CM_condF rfl g35 ?_
    refine CM_skip (QM_then (sr (wm (wa (nt' (CM_ret ?_))))))
    exact rti (h := by unfold laws_szActive_m; exact cond_f g31 (cond_f g33 (cond_f g35 (rfl))))

def laws_szActiveS_b1 (x0 : (List DActive)) (k8 : Nat) (s9 : Int) : Int ⊕ (Int) :=
 cond (decide ((laws_szActive_m (gt x0 k8) s9) < 0)) (Sum.inl (-1)) (Sum.inr (laws_szActive_m (gt x0 k8) s9))
def laws_szActiveS_m (x0 : (List DActive)) (x1 : Int) : Int :=
 cond (decide ((IntKind.i64.wrap (x1 - ((x0.length : Nat) : Int))) < 0)) (-1) (Sum.elim id (fun (s : Int) => s) (rng (R := Int) (fun k (s : Int) => laws_szActiveS_b1 x0 k s) (x0.length - 0) 0 (IntKind.i64.wrap (x1 - ((x0.length : Nat) : Int)))))
theorem cb78 : Cb Tryz.prog 78 := ⟨f78, _, func78, rfl, by decide⟩
theorem laws_szActiveS_c (w : World) (z0 : Value) (x0 : (List DActive)) (x1 : Int) (r_0 : rdS tyLActive w w.heap.size z0 x0) :
  Calls Tryz.prog 78 #[z0, .int .i64 x1] w fun e w' => e = .returned (.int .i64 (laws_szActiveS_m x0 x1)) ∧ Below w.heap.size w w' := by
 have r5 := r_0
 obtain ⟨m1, A2, c3, rfl, q4⟩ := r_0
 refine ce2 (L := [(0, .slice A2 x0.length c3), (1, .int .i64 x1)]) (N := 27) func78 ?_
 refine sr (wa (nt' (sr (wm (wm ?_)))))
 refine wv (vlen underlying26) ?_
 refine wv (fun W hm => rv_sub rfl rfl) ?_
 refine wa (nt' (CM_seq (sr (wm ?_))))
 refine wv vlss ?_
 refine nt' ?_
 by_cases h6 : (IntKind.i64.wrap (x1 - ((x0.length : Nat) : Int))) < 0
 ·have g7 : (decide ((IntKind.i64.wrap (x1 - ((x0.length : Nat) : Int))) < 0)) = true := decide_eq_true h6
  refine CM_condT rfl g7 ?_
  refine sr (wa (nt' (CM_ret (QM_then_ret ?_))))
  exact rti (h := by unfold laws_szActiveS_m; exact cond_t g7 (rfl))
 ·have g7 : (decide ((IntKind.i64.wrap (x1 - ((x0.length : Nat) : Int))) < 0)) = false := decide_eq_false h6
  refine CM_condF rfl g7 ?_
  refine CM_skip (QM_then (CM_seq (sr (wa (nt' (CM_block ?_))))))
  let F1 := fun k (s : Int) => laws_szActiveS_b1 x0 k s
  let R2 := rng (R := Int) F1
  refine CM_loop (σ := Nat × (Int) × (Unit)) (fun s => [(0, .slice A2 x0.length c3), (1, .int .i64 s.2.1), (5, .int .i64 ((s.1 : Nat) : Int))]) (fun s => []) (fun s => s.1 ≤ x0.length ∧ R2 (x0.length - s.1) s.1 s.2.1 = R2 (x0.length - 0) 0 (IntKind.i64.wrap (x1 - ((x0.length : Nat) : Int)))) (fun s => x0.length - s.1) (0, (IntKind.i64.wrap (x1 - ((x0.length : Nat) : Int))), ()) sl3 (fun W hm => hm) ⟨(by omega), rfl⟩ ?_
  rintro ⟨k8, s9, ⟨⟩⟩ H12
  obtain ⟨hk10, hF11⟩ : k8 ≤ x0.length ∧ R2 (x0.length - k8) k8 s9 = R2 (x0.length - 0) 0 (IntKind.i64.wrap (x1 - ((x0.length : Nat) : Int))) := H12
  show CM Tryz.prog 27 _ _ _ _ [(0, .slice A2 x0.length c3), (1, .int .i64 s9), (5, .int .i64 ((k8 : Nat) : Int))] []
  refine CM_seq (sr (wm (wm ?_)))
  refine wv (vlen underlying26) ?_
  refine wv vlss ?_
  refine nt' ?_
  by_cases hl13 : k8 < x0.length
  ·have g14 : (decide (((k8 : Nat) : Int) < ((x0.length : Nat) : Int))) = true := decide_eq_true (by omega)
   refine CM_condT rfl g14 ?_
   refine CM_skip (QM_then (CM_seq (CM_block (sr (wm (wm ?_))))))
   obtain ⟨a15, rfl, hb16, he17⟩ := q4 (by omega)
   refine wv (vix 10 k8 underlying26 type171) ?_
   obtain ⟨_, e27, hc18⟩ := he17 k8 _ (gt_some (show k8 < x0.length from by omega))
   obtain ⟨v19, v21, v23, v25, rfl, r20, r22, r24, r26⟩ := tyLActive_rd e27
   have r32 := r20
   obtain ⟨m28, A29, c30, rfl, q31⟩ := r20
   have r37 := r22
   obtain ⟨m33, A34, c35, rfl, q36⟩ := r22
   have r42 := r24
   obtain ⟨m38, A39, c40, rfl, q41⟩ := r24
   have r47 := r26
   obtain ⟨m43, A44, c45, rfl, q46⟩ := r26
   refine wv (fun W hm => rv_loadN (cs := [.int .i64 ((gt x0 k8).Query.Id), .int .i64 ((gt x0 k8).Query.Tenant), .slice A29 ((gt x0 k8).Query.Conds).length c30, .slice A34 ((gt x0 k8).Query.Out).length c35, .int .i64 ((gt x0 k8).Time), .slice A39 ((gt x0 k8).Todo).length c40, .int .i64 ((gt x0 k8).Age), .int .i64 ((gt x0 k8).Sent), .int .i64 ((gt x0 k8).Cap), .slice A44 ((gt x0 k8).Rows).length c45]) underlying171 type171 rfl rfl (hm.elCells (show (a15.add (k8 * 10)).block < w.heap.size from by rw [add_block]; exact hb16.1) hc18)) ?_
   refine wm ?_
   refine wcv (cl_fn cb156 rfl) (fun W hm => laws_szActive_c W _ (gt x0 k8) s9 (tyLActive_mk (x := (gt x0 k8)) (hm.rdS0 r32) (hm.rdS0 r37) (hm.rdS0 r42) (hm.rdS0 r47))) ?_
   refine wa (nt' (sr (wm ?_)))
   refine wv vlss ?_
   refine nt' ?_
   by_cases h48 : (laws_szActive_m (gt x0 k8) s9) < 0
   ·have g49 : (decide ((laws_szActive_m (gt x0 k8) s9) < 0)) = true := decide_eq_true h48
    refine CM_condT rfl g49 ?_
    refine sr (wa (nt' (CM_ret (QM_block_ret (QM_then_ret (QM_then_ret (QM_block_ret (QM_then_ret ?_))))))))
    exact rti (h := by unfold laws_szActiveS_m; exact cond_f g7 (fin_inl (rng_ret (body := F1) (k := k8) (s := s9) (show k8 < x0.length from by omega) (show laws_szActiveS_b1 x0 k8 s9 = Sum.inl (-1) from by unfold laws_szActiveS_b1; exact cond_t g49 (rfl)) hF11) rfl))
   ·have g49 : (decide ((laws_szActive_m (gt x0 k8) s9) < 0)) = false := decide_eq_false h48
    refine CM_condF rfl g49 ?_
    refine CM_skip (QM_block_normal (QM_then (CM_region (wm ?_))))
    refine wv (vadN k8 1 (by omega)) ?_
    refine wa (WM_nil ?_)
    have hn50 := rng_next (R := Int) (body := F1) (k := k8) (s := s9) (s' := (laws_szActive_m (gt x0 k8) s9)) (show k8 < x0.length from by omega) (show laws_szActiveS_b1 x0 k8 s9 = Sum.inr (laws_szActive_m (gt x0 k8) s9) from by unfold laws_szActiveS_b1; exact cond_f g49 (rfl)) hF11
    exact QM_round (k8 + 1, (laws_szActive_m (gt x0 k8) s9), ()) sl3 (fun W hm => hm) ⟨(by omega), hn50⟩ (rl (by omega))
  ·have g14 : (decide (((k8 : Nat) : Int) < ((x0.length : Nat) : Int))) = false := decide_eq_false (by omega)
   refine CM_condF rfl g14 ?_
   refine CM_exit (QM_then_exit (QM_then_exit ?_))
   have hE51 : R2 (x0.length - 0) 0 (IntKind.i64.wrap (x1 - ((x0.length : Nat) : Int))) = Sum.inr s9 := rng_end hl13 hF11
   refine QM_block_hit (QM_then (sr (wm (wa (nt' (CM_ret ?_))))))
   exact rti (h := by unfold laws_szActiveS_m; exact cond_f g7 (fin_inr hE51 (rfl)))

def laws_szFinished_m (x0 : DFinished) (x1 : Int) : Int :=
 cond (decide ((laws_szQuery_m x0.Query x1) < 0)) (-1) (cond (decide ((laws_szRowS_m x0.Rows (laws_szQuery_m x0.Query x1)) < 0)) (-1) (laws_szRowS_m x0.Rows (laws_szQuery_m x0.Query x1)))
theorem cb157 : Cb Tryz.prog 157 := ⟨f157, _, func157, rfl, by decide⟩
theorem laws_szFinished_c (w : World) (z0 : List Value) (x0 : DFinished) (x1 : Int) (r_0 : tyLFinished.rd w w.heap.size z0 x0) :
  Calls Tryz.prog 157 #[.agg z0.toArray, .int .i64 x1] w fun e w' => e = .returned (.int .i64 (laws_szFinished_m x0 x1)) ∧ Below w.heap.size w w' := by
 obtain ⟨v1, v3, v5, rfl, r2, r4, r6⟩ := tyLFinished_rd r_0
 have r11 := r2
 obtain ⟨m7, A8, c9, rfl, q10⟩ := r2
 have r16 := r4
 obtain ⟨m12, A13, c14, rfl, q15⟩ := r4
 have r21 := r6
 obtain ⟨m17, A18, c19, rfl, q20⟩ := r6
 refine ce2 (L := [(0, .agg #[.int .i64 x0.Query.Id, .int .i64 x0.Query.Tenant, .slice A8 x0.Query.Conds.length c9, .slice A13 x0.Query.Out.length c14, .int .i64 x0.Time, .int .i64 x0.Steps, .slice A18 x0.Rows.length c19]), (1, .int .i64 x1)]) (N := 18) func157 ?_
 refine sr ?_
 refine WM_box rfl (Wd_none rfl) (by decide) (fun p22 => ?_)
 refine wa (nt' (sr ?_))
 refine wv (vf underlying174 rfl type87) ?_
 refine wv (fun W hm => rv_loadN (cs := [.int .i64 x0.Query.Id, .int .i64 x0.Query.Tenant, .slice A8 x0.Query.Conds.length c9, .slice A13 x0.Query.Out.length c14]) underlying87 type87 rfl rfl (hm.boxPart (n := 0) rfl rfl)) ?_
 refine wm ?_
 refine wcv (cl_fn cb52 rfl) (fun W hm => laws_szQuery_c W _ x0.Query x1 (tyLQuery_mk (x := x0.Query) (hm.rdS0 r11) (hm.rdS0 r16))) ?_
 refine wa (nt' (CM_seq (sr (wm ?_))))
 refine wv vlss ?_
 refine nt' ?_
 by_cases h23 : (laws_szQuery_m x0.Query x1) < 0
 ·have g24 : (decide ((laws_szQuery_m x0.Query x1) < 0)) = true := decide_eq_true h23
  refine CM_condT rfl g24 ?_
  refine sr (wa (nt' (CM_ret (QM_then_ret ?_))))
  exact rti (h := by unfold laws_szFinished_m; exact cond_t g24 (rfl))
 ·have g24 : (decide ((laws_szQuery_m x0.Query x1) < 0)) = false := decide_eq_false h23
  refine CM_condF rfl g24 ?_
  refine CM_skip (QM_then (sr ?_))
  refine wv (vf underlying174 rfl type169) ?_
  refine wv (vl 0 6 underlying169) ?_
  refine wm ?_
  refine wcv (cl_fn cb212 rfl) (fun W hm => laws_szRowS_c W _ x0.Rows (laws_szQuery_m x0.Query x1) (hm.rdS0 r21)) ?_
  refine wa (nt' (CM_seq (sr (wm ?_))))
  refine wv vlss ?_
  refine nt' ?_
  by_cases h25 : (laws_szRowS_m x0.Rows (laws_szQuery_m x0.Query x1)) < 0
  ·have g26 : (decide ((laws_szRowS_m x0.Rows (laws_szQuery_m x0.Query x1)) < 0)) = true := decide_eq_true h25
   refine CM_condT rfl g26 ?_
   refine sr (wa (nt' (CM_ret (QM_then_ret ?_))))
   exact rti (h := by unfold laws_szFinished_m; exact cond_f g24 (cond_t g26 (rfl)))
  ·have g26 : (decide ((laws_szRowS_m x0.Rows (laws_szQuery_m x0.Query x1)) < 0)) = false := decide_eq_false h25
   refine CM_condF rfl g26 ?_
   refine CM_skip (QM_then (sr (wm (wa (nt' (CM_ret ?_))))))
   exact rti (h := by unfold laws_szFinished_m; exact cond_f g24 (cond_f g26 (rfl)))

def laws_szFinishedS_b1 (x0 : (List DFinished)) (k8 : Nat) (s9 : Int) : Int ⊕ (Int) :=
 cond (decide ((laws_szFinished_m (gt x0 k8) s9) < 0)) (Sum.inl (-1)) (Sum.inr (laws_szFinished_m (gt x0 k8) s9))
def laws_szFinishedS_m (x0 : (List DFinished)) (x1 : Int) : Int :=
 cond (decide ((IntKind.i64.wrap (x1 - ((x0.length : Nat) : Int))) < 0)) (-1) (Sum.elim id (fun (s : Int) => s) (rng (R := Int) (fun k (s : Int) => laws_szFinishedS_b1 x0 k s) (x0.length - 0) 0 (IntKind.i64.wrap (x1 - ((x0.length : Nat) : Int)))))
theorem cb79 : Cb Tryz.prog 79 := ⟨f79, _, func79, rfl, by decide⟩
theorem laws_szFinishedS_c (w : World) (z0 : Value) (x0 : (List DFinished)) (x1 : Int) (r_0 : rdS tyLFinished w w.heap.size z0 x0) :
  Calls Tryz.prog 79 #[z0, .int .i64 x1] w fun e w' => e = .returned (.int .i64 (laws_szFinishedS_m x0 x1)) ∧ Below w.heap.size w w' := by
 have r5 := r_0
 obtain ⟨m1, A2, c3, rfl, q4⟩ := r_0
 refine ce2 (L := [(0, .slice A2 x0.length c3), (1, .int .i64 x1)]) (N := 27) func79 ?_
 refine sr (wa (nt' (sr (wm (wm ?_)))))
 refine wv (vlen underlying27) ?_
 refine wv (fun W hm => rv_sub rfl rfl) ?_
 refine wa (nt' (CM_seq (sr (wm ?_))))
 refine wv vlss ?_
 refine nt' ?_
 by_cases h6 : (IntKind.i64.wrap (x1 - ((x0.length : Nat) : Int))) < 0
 ·have g7 : (decide ((IntKind.i64.wrap (x1 - ((x0.length : Nat) : Int))) < 0)) = true := decide_eq_true h6
  refine CM_condT rfl g7 ?_
  refine sr (wa (nt' (CM_ret (QM_then_ret ?_))))
  exact rti (h := by unfold laws_szFinishedS_m; exact cond_t g7 (rfl))
 ·have g7 : (decide ((IntKind.i64.wrap (x1 - ((x0.length : Nat) : Int))) < 0)) = false := decide_eq_false h6
  refine CM_condF rfl g7 ?_
  refine CM_skip (QM_then (CM_seq (sr (wa (nt' (CM_block ?_))))))
  let F1 := fun k (s : Int) => laws_szFinishedS_b1 x0 k s
  let R2 := rng (R := Int) F1
  refine CM_loop (σ := Nat × (Int) × (Unit)) (fun s => [(0, .slice A2 x0.length c3), (1, .int .i64 s.2.1), (5, .int .i64 ((s.1 : Nat) : Int))]) (fun s => []) (fun s => s.1 ≤ x0.length ∧ R2 (x0.length - s.1) s.1 s.2.1 = R2 (x0.length - 0) 0 (IntKind.i64.wrap (x1 - ((x0.length : Nat) : Int)))) (fun s => x0.length - s.1) (0, (IntKind.i64.wrap (x1 - ((x0.length : Nat) : Int))), ()) sl3 (fun W hm => hm) ⟨(by omega), rfl⟩ ?_
  rintro ⟨k8, s9, ⟨⟩⟩ H12
  obtain ⟨hk10, hF11⟩ : k8 ≤ x0.length ∧ R2 (x0.length - k8) k8 s9 = R2 (x0.length - 0) 0 (IntKind.i64.wrap (x1 - ((x0.length : Nat) : Int))) := H12
  show CM Tryz.prog 27 _ _ _ _ [(0, .slice A2 x0.length c3), (1, .int .i64 s9), (5, .int .i64 ((k8 : Nat) : Int))] []
  refine CM_seq (sr (wm (wm ?_)))
  refine wv (vlen underlying27) ?_
  refine wv vlss ?_
  refine nt' ?_
  by_cases hl13 : k8 < x0.length
  ·have g14 : (decide (((k8 : Nat) : Int) < ((x0.length : Nat) : Int))) = true := decide_eq_true (by omega)
   refine CM_condT rfl g14 ?_
   refine CM_skip (QM_then (CM_seq (CM_block (sr (wm (wm ?_))))))
   obtain ⟨a15, rfl, hb16, he17⟩ := q4 (by omega)
   refine wv (vix 7 k8 underlying27 type174) ?_
   obtain ⟨_, e25, hc18⟩ := he17 k8 _ (gt_some (show k8 < x0.length from by omega))
   obtain ⟨v19, v21, v23, rfl, r20, r22, r24⟩ := tyLFinished_rd e25
   have r30 := r20
   obtain ⟨m26, A27, c28, rfl, q29⟩ := r20
   have r35 := r22
   obtain ⟨m31, A32, c33, rfl, q34⟩ := r22
   have r40 := r24
   obtain ⟨m36, A37, c38, rfl, q39⟩ := r24
   refine wv (fun W hm => rv_loadN (cs := [.int .i64 ((gt x0 k8).Query.Id), .int .i64 ((gt x0 k8).Query.Tenant), .slice A27 ((gt x0 k8).Query.Conds).length c28, .slice A32 ((gt x0 k8).Query.Out).length c33, .int .i64 ((gt x0 k8).Time), .int .i64 ((gt x0 k8).Steps), .slice A37 ((gt x0 k8).Rows).length c38]) underlying174 type174 rfl rfl (hm.elCells (show (a15.add (k8 * 7)).block < w.heap.size from by rw [add_block]; exact hb16.1) hc18)) ?_
   refine wm ?_
   refine wcv (cl_fn cb157 rfl) (fun W hm => laws_szFinished_c W _ (gt x0 k8) s9 (tyLFinished_mk (x := (gt x0 k8)) (hm.rdS0 r30) (hm.rdS0 r35) (hm.rdS0 r40))) ?_
   refine wa (nt' (sr (wm ?_)))
   refine wv vlss ?_
   refine nt' ?_
   by_cases h41 : (laws_szFinished_m (gt x0 k8) s9) < 0
   ·have g42 : (decide ((laws_szFinished_m (gt x0 k8) s9) < 0)) = true := decide_eq_true h41
    refine CM_condT rfl g42 ?_
    refine sr (wa (nt' (CM_ret (QM_block_ret (QM_then_ret (QM_then_ret (QM_block_ret (QM_then_ret ?_))))))))
    exact rti (h := by unfold laws_szFinishedS_m; exact cond_f g7 (fin_inl (rng_ret (body := F1) (k := k8) (s := s9) (show k8 < x0.length from by omega) (show laws_szFinishedS_b1 x0 k8 s9 = Sum.inl (-1) from by unfold laws_szFinishedS_b1; exact cond_t g42 (rfl)) hF11) rfl))
   ·have g42 : (decide ((laws_szFinished_m (gt x0 k8) s9) < 0)) = false := decide_eq_false h41
    refine CM_condF rfl g42 ?_
    refine CM_skip (QM_block_normal (QM_then (CM_region (wm ?_))))
    refine wv (vadN k8 1 (by omega)) ?_
    refine wa (WM_nil ?_)
    have hn43 := rng_next (R := Int) (body := F1) (k := k8) (s := s9) (s' := (laws_szFinished_m (gt x0 k8) s9)) (show k8 < x0.length from by omega) (show laws_szFinishedS_b1 x0 k8 s9 = Sum.inr (laws_szFinished_m (gt x0 k8) s9) from by unfold laws_szFinishedS_b1; exact cond_f g42 (rfl)) hF11
    exact QM_round (k8 + 1, (laws_szFinished_m (gt x0 k8) s9), ()) sl3 (fun W hm => hm) ⟨(by omega), hn43⟩ (rl (by omega))
  ·have g14 : (decide (((k8 : Nat) : Int) < ((x0.length : Nat) : Int))) = false := decide_eq_false (by omega)
   refine CM_condF rfl g14 ?_
   refine CM_exit (QM_then_exit (QM_then_exit ?_))
   have hE44 : R2 (x0.length - 0) 0 (IntKind.i64.wrap (x1 - ((x0.length : Nat) : Int))) = Sum.inr s9 := rng_end hl13 hF11
   refine QM_block_hit (QM_then (sr (wm (wa (nt' (CM_ret ?_))))))
   exact rti (h := by unfold laws_szFinishedS_m; exact cond_f g7 (fin_inr hE44 (rfl)))

def laws_szCharge_m (x0 : DCharge) (x1 : Int) : Int :=
 cond (decide ((laws_szIntS_m x0.Ids x1) < 0)) (-1) (cond (decide ((laws_szIntS_m x0.Tenants (laws_szIntS_m x0.Ids x1)) < 0)) (-1) (cond (decide ((laws_szIntS_m x0.Rows (laws_szIntS_m x0.Tenants (laws_szIntS_m x0.Ids x1))) < 0)) (-1) (laws_szIntS_m x0.Rows (laws_szIntS_m x0.Tenants (laws_szIntS_m x0.Ids x1)))))
theorem cb158 : Cb Tryz.prog 158 := ⟨f158, _, func158, rfl, by decide⟩
theorem laws_szCharge_c (w : World) (z0 : List Value) (x0 : DCharge) (x1 : Int) (r_0 : tyLCharge.rd w w.heap.size z0 x0) :
  Calls Tryz.prog 158 #[.agg z0.toArray, .int .i64 x1] w fun e w' => e = .returned (.int .i64 (laws_szCharge_m x0 x1)) ∧ Below w.heap.size w w' := by
 obtain ⟨v1, v3, v5, rfl, r2, r4, r6⟩ := tyLCharge_rd r_0
 have r11 := r2
 obtain ⟨m7, A8, c9, rfl, q10⟩ := r2
 have r16 := r4
 obtain ⟨m12, A13, c14, rfl, q15⟩ := r4
 have r21 := r6
 obtain ⟨m17, A18, c19, rfl, q20⟩ := r6
 refine ce2 (L := [(0, .agg #[.int .i64 x0.Segment, .int .i64 x0.Base, .slice A8 x0.Ids.length c9, .slice A13 x0.Tenants.length c14, .slice A18 x0.Rows.length c19]), (1, .int .i64 x1)]) (N := 24) func158 ?_
 refine sr ?_
 refine WM_box rfl (Wd_none rfl) (by decide) (fun p22 => ?_)
 refine wa (nt' (sr ?_))
 refine wv (vf underlying176 rfl type25) ?_
 refine wv (vl 0 2 underlying25) ?_
 refine wm ?_
 refine wcv (cl_fn cb77 rfl) (fun W hm => laws_szIntS_c W _ x0.Ids x1 (hm.rdS0 r11)) ?_
 refine wa (nt' (CM_seq (sr (wm ?_))))
 refine wv vlss ?_
 refine nt' ?_
 by_cases h23 : (laws_szIntS_m x0.Ids x1) < 0
 ·have g24 : (decide ((laws_szIntS_m x0.Ids x1) < 0)) = true := decide_eq_true h23
  refine CM_condT rfl g24 ?_
  refine sr (wa (nt' (CM_ret (QM_then_ret ?_))))
  exact rti (h := by unfold laws_szCharge_m; exact cond_t g24 (rfl))
 ·have g24 : (decide ((laws_szIntS_m x0.Ids x1) < 0)) = false := decide_eq_false h23
  refine CM_condF rfl g24 ?_
  refine CM_skip (QM_then (sr ?_))
  refine wv (vf underlying176 rfl type25) ?_
  refine wv (vl 0 3 underlying25) ?_
  refine wm ?_
  refine wcv (cl_fn cb77 rfl) (fun W hm => laws_szIntS_c W _ x0.Tenants (laws_szIntS_m x0.Ids x1) (hm.rdS0 r16)) ?_
  refine wa (nt' (CM_seq (sr (wm ?_))))
  refine wv vlss ?_
  refine nt' ?_
  by_cases h25 : (laws_szIntS_m x0.Tenants (laws_szIntS_m x0.Ids x1)) < 0
  ·have g26 : (decide ((laws_szIntS_m x0.Tenants (laws_szIntS_m x0.Ids x1)) < 0)) = true := decide_eq_true h25
   refine CM_condT rfl g26 ?_
   refine sr (wa (nt' (CM_ret (QM_then_ret ?_))))
   exact rti (h := by unfold laws_szCharge_m; exact cond_f g24 (cond_t g26 (rfl)))
  ·have g26 : (decide ((laws_szIntS_m x0.Tenants (laws_szIntS_m x0.Ids x1)) < 0)) = false := decide_eq_false h25
   refine CM_condF rfl g26 ?_
   refine CM_skip (QM_then (sr ?_))
   refine wv (vf underlying176 rfl type25) ?_
   refine wv (vl 0 4 underlying25) ?_
   refine wm ?_
   refine wcv (cl_fn cb77 rfl) (fun W hm => laws_szIntS_c W _ x0.Rows (laws_szIntS_m x0.Tenants (laws_szIntS_m x0.Ids x1)) (hm.rdS0 r21)) ?_
   refine wa (nt' (CM_seq (sr (wm ?_))))
   refine wv vlss ?_
   refine nt' ?_
   by_cases h27 : (laws_szIntS_m x0.Rows (laws_szIntS_m x0.Tenants (laws_szIntS_m x0.Ids x1))) < 0
   ·have g28 : (decide ((laws_szIntS_m x0.Rows (laws_szIntS_m x0.Tenants (laws_szIntS_m x0.Ids x1))) < 0)) = true := decide_eq_true h27
    refine CM_condT rfl g28 ?_
    refine sr (wa (nt' (CM_ret (QM_then_ret ?_))))
    exact rti (h := by unfold laws_szCharge_m; exact cond_f g24 (cond_f g26 (cond_t g28 (rfl))))
   ·have g28 : (decide ((laws_szIntS_m x0.Rows (laws_szIntS_m x0.Tenants (laws_szIntS_m x0.Ids x1))) < 0)) = false := decide_eq_false h27
    refine CM_condF rfl g28 ?_
    refine CM_skip (QM_then (sr (wm (wa (nt' (CM_ret ?_))))))
    exact rti (h := by unfold laws_szCharge_m; exact cond_f g24 (cond_f g26 (cond_f g28 (rfl))))

def laws_szChargeS_b1 (x0 : (List DCharge)) (k8 : Nat) (s9 : Int) : Int ⊕ (Int) :=
 cond (decide ((laws_szCharge_m (gt x0 k8) s9) < 0)) (Sum.inl (-1)) (Sum.inr (laws_szCharge_m (gt x0 k8) s9))
def laws_szChargeS_m (x0 : (List DCharge)) (x1 : Int) : Int :=
 cond (decide ((IntKind.i64.wrap (x1 - ((x0.length : Nat) : Int))) < 0)) (-1) (Sum.elim id (fun (s : Int) => s) (rng (R := Int) (fun k (s : Int) => laws_szChargeS_b1 x0 k s) (x0.length - 0) 0 (IntKind.i64.wrap (x1 - ((x0.length : Nat) : Int)))))
theorem cb80 : Cb Tryz.prog 80 := ⟨f80, _, func80, rfl, by decide⟩
theorem laws_szChargeS_c (w : World) (z0 : Value) (x0 : (List DCharge)) (x1 : Int) (r_0 : rdS tyLCharge w w.heap.size z0 x0) :
  Calls Tryz.prog 80 #[z0, .int .i64 x1] w fun e w' => e = .returned (.int .i64 (laws_szChargeS_m x0 x1)) ∧ Below w.heap.size w w' := by
 have r5 := r_0
 obtain ⟨m1, A2, c3, rfl, q4⟩ := r_0
 refine ce2 (L := [(0, .slice A2 x0.length c3), (1, .int .i64 x1)]) (N := 27) func80 ?_
 refine sr (wa (nt' (sr (wm (wm ?_)))))
 refine wv (vlen underlying28) ?_
 refine wv (fun W hm => rv_sub rfl rfl) ?_
 refine wa (nt' (CM_seq (sr (wm ?_))))
 refine wv vlss ?_
 refine nt' ?_
 by_cases h6 : (IntKind.i64.wrap (x1 - ((x0.length : Nat) : Int))) < 0
 ·have g7 : (decide ((IntKind.i64.wrap (x1 - ((x0.length : Nat) : Int))) < 0)) = true := decide_eq_true h6
  refine CM_condT rfl g7 ?_
  refine sr (wa (nt' (CM_ret (QM_then_ret ?_))))
  exact rti (h := by unfold laws_szChargeS_m; exact cond_t g7 (rfl))
 ·have g7 : (decide ((IntKind.i64.wrap (x1 - ((x0.length : Nat) : Int))) < 0)) = false := decide_eq_false h6
  refine CM_condF rfl g7 ?_
  refine CM_skip (QM_then (CM_seq (sr (wa (nt' (CM_block ?_))))))
  let F1 := fun k (s : Int) => laws_szChargeS_b1 x0 k s
  let R2 := rng (R := Int) F1
  refine CM_loop (σ := Nat × (Int) × (Unit)) (fun s => [(0, .slice A2 x0.length c3), (1, .int .i64 s.2.1), (5, .int .i64 ((s.1 : Nat) : Int))]) (fun s => []) (fun s => s.1 ≤ x0.length ∧ R2 (x0.length - s.1) s.1 s.2.1 = R2 (x0.length - 0) 0 (IntKind.i64.wrap (x1 - ((x0.length : Nat) : Int)))) (fun s => x0.length - s.1) (0, (IntKind.i64.wrap (x1 - ((x0.length : Nat) : Int))), ()) sl3 (fun W hm => hm) ⟨(by omega), rfl⟩ ?_
  rintro ⟨k8, s9, ⟨⟩⟩ H12
  obtain ⟨hk10, hF11⟩ : k8 ≤ x0.length ∧ R2 (x0.length - k8) k8 s9 = R2 (x0.length - 0) 0 (IntKind.i64.wrap (x1 - ((x0.length : Nat) : Int))) := H12
  show CM Tryz.prog 27 _ _ _ _ [(0, .slice A2 x0.length c3), (1, .int .i64 s9), (5, .int .i64 ((k8 : Nat) : Int))] []
  refine CM_seq (sr (wm (wm ?_)))
  refine wv (vlen underlying28) ?_
  refine wv vlss ?_
  refine nt' ?_
  by_cases hl13 : k8 < x0.length
  ·have g14 : (decide (((k8 : Nat) : Int) < ((x0.length : Nat) : Int))) = true := decide_eq_true (by omega)
   refine CM_condT rfl g14 ?_
   refine CM_skip (QM_then (CM_seq (CM_block (sr (wm (wm ?_))))))
   obtain ⟨a15, rfl, hb16, he17⟩ := q4 (by omega)
   refine wv (vix 5 k8 underlying28 type176) ?_
   obtain ⟨_, e25, hc18⟩ := he17 k8 _ (gt_some (show k8 < x0.length from by omega))
   obtain ⟨v19, v21, v23, rfl, r20, r22, r24⟩ := tyLCharge_rd e25
   have r30 := r20
   obtain ⟨m26, A27, c28, rfl, q29⟩ := r20
   have r35 := r22
   obtain ⟨m31, A32, c33, rfl, q34⟩ := r22
   have r40 := r24
   obtain ⟨m36, A37, c38, rfl, q39⟩ := r24
   refine wv (fun W hm => rv_loadN (cs := [.int .i64 ((gt x0 k8).Segment), .int .i64 ((gt x0 k8).Base), .slice A27 ((gt x0 k8).Ids).length c28, .slice A32 ((gt x0 k8).Tenants).length c33, .slice A37 ((gt x0 k8).Rows).length c38]) underlying176 type176 rfl rfl (hm.elCells (show (a15.add (k8 * 5)).block < w.heap.size from by rw [add_block]; exact hb16.1) hc18)) ?_
   refine wm ?_
   refine wcv (cl_fn cb158 rfl) (fun W hm => laws_szCharge_c W _ (gt x0 k8) s9 (tyLCharge_mk (x := (gt x0 k8)) (hm.rdS0 r30) (hm.rdS0 r35) (hm.rdS0 r40))) ?_
   refine wa (nt' (sr (wm ?_)))
   refine wv vlss ?_
   refine nt' ?_
   by_cases h41 : (laws_szCharge_m (gt x0 k8) s9) < 0
   ·have g42 : (decide ((laws_szCharge_m (gt x0 k8) s9) < 0)) = true := decide_eq_true h41
    refine CM_condT rfl g42 ?_
    refine sr (wa (nt' (CM_ret (QM_block_ret (QM_then_ret (QM_then_ret (QM_block_ret (QM_then_ret ?_))))))))
    exact rti (h := by unfold laws_szChargeS_m; exact cond_f g7 (fin_inl (rng_ret (body := F1) (k := k8) (s := s9) (show k8 < x0.length from by omega) (show laws_szChargeS_b1 x0 k8 s9 = Sum.inl (-1) from by unfold laws_szChargeS_b1; exact cond_t g42 (rfl)) hF11) rfl))
   ·have g42 : (decide ((laws_szCharge_m (gt x0 k8) s9) < 0)) = false := decide_eq_false h41
    refine CM_condF rfl g42 ?_
    refine CM_skip (QM_block_normal (QM_then (CM_region (wm ?_))))
    refine wv (vadN k8 1 (by omega)) ?_
    refine wa (WM_nil ?_)
    have hn43 := rng_next (R := Int) (body := F1) (k := k8) (s := s9) (s' := (laws_szCharge_m (gt x0 k8) s9)) (show k8 < x0.length from by omega) (show laws_szChargeS_b1 x0 k8 s9 = Sum.inr (laws_szCharge_m (gt x0 k8) s9) from by unfold laws_szChargeS_b1; exact cond_f g42 (rfl)) hF11
    exact QM_round (k8 + 1, (laws_szCharge_m (gt x0 k8) s9), ()) sl3 (fun W hm => hm) ⟨(by omega), hn43⟩ (rl (by omega))
  ·have g14 : (decide (((k8 : Nat) : Int) < ((x0.length : Nat) : Int))) = false := decide_eq_false (by omega)
   refine CM_condF rfl g14 ?_
   refine CM_exit (QM_then_exit (QM_then_exit ?_))
   have hE44 : R2 (x0.length - 0) 0 (IntKind.i64.wrap (x1 - ((x0.length : Nat) : Int))) = Sum.inr s9 := rng_end hl13 hF11
   refine QM_block_hit (QM_then (sr (wm (wa (nt' (CM_ret ?_))))))
   exact rti (h := by unfold laws_szChargeS_m; exact cond_f g7 (fin_inr hE44 (rfl)))

def laws_szEngine_m (x0 : DEngine) (x1 : Int) : Int :=
 cond (decide ((laws_szStore_m x0.Store x1) < 0)) (-1) (cond (decide ((laws_szIntS_m x0.Order (laws_szStore_m x0.Store x1)) < 0)) (-1) (cond (decide ((laws_szActiveS_m x0.Active (laws_szIntS_m x0.Order (laws_szStore_m x0.Store x1))) < 0)) (-1) (cond (decide ((laws_szFinishedS_m x0.Done (laws_szActiveS_m x0.Active (laws_szIntS_m x0.Order (laws_szStore_m x0.Store x1)))) < 0)) (-1) (cond (decide ((laws_szChargeS_m x0.Ledger (laws_szFinishedS_m x0.Done (laws_szActiveS_m x0.Active (laws_szIntS_m x0.Order (laws_szStore_m x0.Store x1))))) < 0)) (-1) (laws_szChargeS_m x0.Ledger (laws_szFinishedS_m x0.Done (laws_szActiveS_m x0.Active (laws_szIntS_m x0.Order (laws_szStore_m x0.Store x1)))))))))
theorem cb14 : Cb Tryz.prog 14 := ⟨f14, _, func14, rfl, by decide⟩
theorem laws_szEngine_c (w : World) (z0 : List Value) (x0 : DEngine) (x1 : Int) (r_0 : tyLEngine.rd w w.heap.size z0 x0) :
  Calls Tryz.prog 14 #[.agg z0.toArray, .int .i64 x1] w fun e w' => e = .returned (.int .i64 (laws_szEngine_m x0 x1)) ∧ Below w.heap.size w w' := by
 obtain ⟨v1, v3, v5, v7, v9, rfl, r2, r4, r6, r8, r10⟩ := tyLEngine_rd r_0
 have r15 := r2
 obtain ⟨m11, A12, c13, rfl, q14⟩ := r2
 have r20 := r4
 obtain ⟨m16, A17, c18, rfl, q19⟩ := r4
 have r25 := r6
 obtain ⟨m21, A22, c23, rfl, q24⟩ := r6
 have r30 := r8
 obtain ⟨m26, A27, c28, rfl, q29⟩ := r8
 have r35 := r10
 obtain ⟨m31, A32, c33, rfl, q34⟩ := r10
 refine ce2 (L := [(0, .agg #[.slice A12 x0.Store.Segments.length c13, .int .i64 x0.Store.Now, .int .i64 x0.Cursor, .slice A17 x0.Order.length c18, .slice A22 x0.Active.length c23, .slice A27 x0.Done.length c28, .slice A32 x0.Ledger.length c33, .int .i64 x0.Steps]), (1, .int .i64 x1)]) (N := 36) func14 ?_
 refine sr ?_
 refine WM_box rfl (Wd_none rfl) (by decide) (fun p36 => ?_)
 refine wa (nt' (sr ?_))
 refine wv (vf underlying30 rfl type24) ?_
 refine wv (fun W hm => rv_loadN (cs := [.slice A12 x0.Store.Segments.length c13, .int .i64 x0.Store.Now]) underlying24 type24 rfl rfl (hm.boxPart (n := 0) rfl rfl)) ?_
 refine wm ?_
 refine wcv (cl_fn cb76 rfl) (fun W hm => laws_szStore_c W _ x0.Store x1 (tyLStore_mk (x := x0.Store) (hm.rdS0 r15))) ?_
 refine wa (nt' (CM_seq (sr (wm ?_))))
 refine wv vlss ?_
 refine nt' ?_
 by_cases h37 : (laws_szStore_m x0.Store x1) < 0
 ·have g38 : (decide ((laws_szStore_m x0.Store x1) < 0)) = true := decide_eq_true h37
  refine CM_condT rfl g38 ?_
  refine sr (wa (nt' (CM_ret (QM_then_ret ?_))))
  exact rti (h := by unfold laws_szEngine_m; exact cond_t g38 (rfl))
 ·have g38 : (decide ((laws_szStore_m x0.Store x1) < 0)) = false := decide_eq_false h37
  refine CM_condF rfl g38 ?_
  refine CM_skip (QM_then (sr ?_))
  refine wv (vf underlying30 rfl type25) ?_
  refine wv (vl 0 3 underlying25) ?_
  refine wm ?_
  refine wcv (cl_fn cb77 rfl) (fun W hm => laws_szIntS_c W _ x0.Order (laws_szStore_m x0.Store x1) (hm.rdS0 r20)) ?_
  refine wa (nt' (CM_seq (sr (wm ?_))))
  refine wv vlss ?_
  refine nt' ?_
  by_cases h39 : (laws_szIntS_m x0.Order (laws_szStore_m x0.Store x1)) < 0
  ·have g40 : (decide ((laws_szIntS_m x0.Order (laws_szStore_m x0.Store x1)) < 0)) = true := decide_eq_true h39
   refine CM_condT rfl g40 ?_
   refine sr (wa (nt' (CM_ret (QM_then_ret ?_))))
   exact rti (h := by unfold laws_szEngine_m; exact cond_f g38 (cond_t g40 (rfl)))
  ·have g40 : (decide ((laws_szIntS_m x0.Order (laws_szStore_m x0.Store x1)) < 0)) = false := decide_eq_false h39
   refine CM_condF rfl g40 ?_
   refine CM_skip (QM_then (sr ?_))
   refine wv (vf underlying30 rfl type26) ?_
   refine wv (vl 0 4 underlying26) ?_
   refine wm ?_
   refine wcv (cl_fn cb78 rfl) (fun W hm => laws_szActiveS_c W _ x0.Active (laws_szIntS_m x0.Order (laws_szStore_m x0.Store x1)) (hm.rdS0 r25)) ?_
   refine wa (nt' (CM_seq (sr (wm ?_))))
   refine wv vlss ?_
   refine nt' ?_
   by_cases h41 : (laws_szActiveS_m x0.Active (laws_szIntS_m x0.Order (laws_szStore_m x0.Store x1))) < 0
   ·have g42 : (decide ((laws_szActiveS_m x0.Active (laws_szIntS_m x0.Order (laws_szStore_m x0.Store x1))) < 0)) = true := decide_eq_true h41
    refine CM_condT rfl g42 ?_
    refine sr (wa (nt' (CM_ret (QM_then_ret ?_))))
    exact rti (h := by unfold laws_szEngine_m; exact cond_f g38 (cond_f g40 (cond_t g42 (rfl))))
   ·have g42 : (decide ((laws_szActiveS_m x0.Active (laws_szIntS_m x0.Order (laws_szStore_m x0.Store x1))) < 0)) = false := decide_eq_false h41
    refine CM_condF rfl g42 ?_
    refine CM_skip (QM_then (sr ?_))
    refine wv (vf underlying30 rfl type27) ?_
    refine wv (vl 0 5 underlying27) ?_
    refine wm ?_
    refine wcv (cl_fn cb79 rfl) (fun W hm => laws_szFinishedS_c W _ x0.Done (laws_szActiveS_m x0.Active (laws_szIntS_m x0.Order (laws_szStore_m x0.Store x1))) (hm.rdS0 r30)) ?_
    refine wa (nt' (CM_seq (sr (wm ?_))))
    refine wv vlss ?_
    refine nt' ?_
    by_cases h43 : (laws_szFinishedS_m x0.Done (laws_szActiveS_m x0.Active (laws_szIntS_m x0.Order (laws_szStore_m x0.Store x1)))) < 0
    ·have g44 : (decide ((laws_szFinishedS_m x0.Done (laws_szActiveS_m x0.Active (laws_szIntS_m x0.Order (laws_szStore_m x0.Store x1)))) < 0)) = true := decide_eq_true h43
     refine CM_condT rfl g44 ?_
     refine sr (wa (nt' (CM_ret (QM_then_ret ?_))))
     exact rti (h := by unfold laws_szEngine_m; exact cond_f g38 (cond_f g40 (cond_f g42 (cond_t g44 (rfl)))))
    ·have g44 : (decide ((laws_szFinishedS_m x0.Done (laws_szActiveS_m x0.Active (laws_szIntS_m x0.Order (laws_szStore_m x0.Store x1)))) < 0)) = false := decide_eq_false h43
     refine CM_condF rfl g44 ?_
     refine CM_skip (QM_then (sr ?_))
     refine wv (vf underlying30 rfl type28) ?_
     refine wv (vl 0 6 underlying28) ?_
     refine wm ?_
     refine wcv (cl_fn cb80 rfl) (fun W hm => laws_szChargeS_c W _ x0.Ledger (laws_szFinishedS_m x0.Done (laws_szActiveS_m x0.Active (laws_szIntS_m x0.Order (laws_szStore_m x0.Store x1)))) (hm.rdS0 r35)) ?_
     refine wa (nt' (CM_seq (sr (wm ?_))))
     refine wv vlss ?_
     refine nt' ?_
     by_cases h45 : (laws_szChargeS_m x0.Ledger (laws_szFinishedS_m x0.Done (laws_szActiveS_m x0.Active (laws_szIntS_m x0.Order (laws_szStore_m x0.Store x1))))) < 0
     ·have g46 : (decide ((laws_szChargeS_m x0.Ledger (laws_szFinishedS_m x0.Done (laws_szActiveS_m x0.Active (laws_szIntS_m x0.Order (laws_szStore_m x0.Store x1))))) < 0)) = true := decide_eq_true h45
      refine CM_condT rfl g46 ?_
      refine sr (wa (nt' (CM_ret (QM_then_ret ?_))))
      exact rti (h := by unfold laws_szEngine_m; exact cond_f g38 (cond_f g40 (cond_f g42 (cond_f g44 (cond_t g46 (rfl))))))
     ·have g46 : (decide ((laws_szChargeS_m x0.Ledger (laws_szFinishedS_m x0.Done (laws_szActiveS_m x0.Active (laws_szIntS_m x0.Order (laws_szStore_m x0.Store x1))))) < 0)) = false := decide_eq_false h45
      refine CM_condF rfl g46 ?_
      refine CM_skip (QM_then (sr (wm (wa (nt' (CM_ret ?_))))))
      exact rti (h := by unfold laws_szEngine_m; exact cond_f g38 (cond_f g40 (cond_f g42 (cond_f g44 (cond_f g46 (rfl))))))

def laws_toIntS_b1 (x0 : (List Int)) (k9 : Nat) (d10 : (List Int)) : (List Int) ⊕ ((List Int)) :=
 Sum.inr (d10.set k9 (gt x0 k9))
def laws_toIntS_m (x0 : (List Int)) : (List Int) :=
 Sum.elim id (fun (s : (List Int)) => s) (rng (R := (List Int)) (fun k (s : (List Int)) => laws_toIntS_b1 x0 k s) (x0.length - 0) 0 (List.replicate x0.length (0 : Int)))
theorem cb48 : Cb Tryz.prog 48 := ⟨f48, _, func48, rfl, by decide⟩
theorem laws_toIntS_c (w : World) (z0 : Value) (x0 : (List Int)) (r_0 : rdS tInt w w.heap.size z0 x0) (s_0 : x0.length ≤ 68719476736) :
  Calls Tryz.prog 48 #[z0] w fun e w' => ∃ v : Value, e = .returned (v) ∧ Mem w.heap.size w [iOwn (tSl tInt 3) [v] (laws_toIntS_m x0)] w' := by
 have r5 := r_0
 obtain ⟨m1, A2, c3, rfl, q4⟩ := r_0
 have l6 : x0.length ≤ 68719476736 := s_0
 refine ce1 (L := [(0, .slice A2 x0.length c3)]) (N := 22) func48 ?_
 refine sr (wa (nt' (sr (wm ?_))))
 refine wv (vlen underlying25) ?_
 refine WM_make (E := tInt) (n := x0.length) (x0 := (0 : Int)) underlying25 type3 rfl rfl rfl (fun _ => tInt_own) rfl rfl (show x0.length * 8 ≤ 281474976710656 from by omega) (by omega) (Wd_none rfl) (by decide) (fun p7 => ?_)
 refine wa (nt' (CM_seq (sr (wa (nt' (CM_block ?_))))))
 let F1 := fun k (s : (List Int)) => laws_toIntS_b1 x0 k s
 let R2 := rng (R := (List Int)) F1
 refine CM_loop (σ := Nat × ((List Int)) × (Unit)) (fun s => [(0, .slice A2 x0.length c3), (3, .slice (some ⟨p7, 0, none⟩) x0.length x0.length), (4, .int .i64 ((s.1 : Nat) : Int))]) (fun s => [iOwn (tSl tInt 3) [.slice (some ⟨p7, 0, none⟩) x0.length x0.length] s.2.1]) (fun s => s.1 ≤ x0.length ∧ R2 (x0.length - s.1) s.1 s.2.1 = R2 (x0.length - 0) 0 (List.replicate x0.length (0 : Int))) (fun s => x0.length - s.1) (0, (List.replicate x0.length (0 : Int)), ()) sl3 (fun W hm => hm) ⟨(by omega), rfl⟩ ?_
 rintro ⟨k9, d10, ⟨⟩⟩ H13
 obtain ⟨hk11, hF12⟩ : k9 ≤ x0.length ∧ R2 (x0.length - k9) k9 d10 = R2 (x0.length - 0) 0 (List.replicate x0.length (0 : Int)) := H13
 show CM Tryz.prog 22 _ _ _ _ [(0, .slice A2 x0.length c3), (3, .slice (some ⟨p7, 0, none⟩) x0.length x0.length), (4, .int .i64 ((k9 : Nat) : Int))] [iOwn (tSl tInt 3) [.slice (some ⟨p7, 0, none⟩) x0.length x0.length] d10]
 refine CM_seq (sr (wm (wm ?_)))
 refine wv (vlen underlying25) ?_
 refine wv vlss ?_
 refine nt' ?_
 by_cases hl14 : k9 < x0.length
 ·have g15 : (decide (((k9 : Nat) : Int) < ((x0.length : Nat) : Int))) = true := decide_eq_true (by omega)
  refine CM_condT rfl g15 ?_
  refine CM_skip (QM_then (CM_seq (CM_block (CM_region (wm (wm (wm (wm ?_))))))))
  obtain ⟨a16, rfl, hb17, he18⟩ := q4 (by omega)
  refine wv (vix 1 k9 underlying25 type3) ?_
  refine wv (fun W hm => rv_load underlying3 rfl rfl ((hm.cell0 (show (a16.add (k9 * 1)).block < w.heap.size from by rw [add_block]; exact hb17.1)).trans (rdS_int he18 k9 (by omega)))) ?_
  refine wv (vix 1 k9 underlying25 type3) ?_
  refine WM_setEl (E := tInt) (e := 3) (u := .int .i64 (gt x0 k9)) (k := k9) (p := p7) (n := x0.length) (xs := d10) (eis := []) (js := []) (yv := (gt x0 k9)) (fun W hm => hm) (fun _ _ hs => (Sep.nil hs ▸ tInt_own)) rfl type3 rfl (by omega) rfl rfl (Wd_none rfl) ?_
  refine WM_nil (QM_block_normal (QM_then (CM_region (wm ?_))))
  refine wv (vadN k9 1 (by omega)) ?_
  refine wa (WM_nil ?_)
  have hn19 := rng_next (R := (List Int)) (body := F1) (k := k9) (s := d10) (s' := (d10.set k9 (gt x0 k9))) (show k9 < x0.length from by omega) (show laws_toIntS_b1 x0 k9 d10 = Sum.inr (d10.set k9 (gt x0 k9)) from by unfold laws_toIntS_b1; exact rfl) hF12
  exact QM_round (k9 + 1, (d10.set k9 (gt x0 k9)), ()) sl3 (fun W hm => hm) ⟨(by omega), hn19⟩ (rl (by omega))
 ·have g15 : (decide (((k9 : Nat) : Int) < ((x0.length : Nat) : Int))) = false := decide_eq_false (by omega)
  refine CM_condF rfl g15 ?_
  refine CM_exit (QM_then_exit (QM_then_exit ?_))
  have hE20 : R2 (x0.length - 0) 0 (List.replicate x0.length (0 : Int)) = Sum.inr d10 := rng_end hl14 hF12
  refine QM_block_hit (QM_then (sr (wm (wa (nt' (CM_ret ?_))))))
  refine QM_r1 rfl (RR_tmp rfl) (fun W hm => ⟨.slice (some ⟨p7, 0, none⟩) x0.length x0.length, ?_, ?_⟩)
  ·first | rw [(show laws_toIntS_m x0 = d10 from by unfold laws_toIntS_m; exact fin_inr hE20 (rfl))] | rfl
  ·rw [(show laws_toIntS_m x0 = d10 from by unfold laws_toIntS_m; exact fin_inr hE20 (rfl))]; exact hm

def laws_toVersion_m (x0 : DVersion) : DVersion :=
 (⟨x0.Id, (laws_toIntS_m x0.Values), x0.Born, x0.Died⟩ : DVersion)
theorem cb232 : Cb Tryz.prog 232 := ⟨f232, _, func232, rfl, by decide⟩
theorem laws_toVersion_c (w : World) (z0 : List Value) (x0 : DVersion) (r_0 : tyLVersion.rd w w.heap.size z0 x0) (s_0 : smVersion 68719476736 x0) :
  Calls Tryz.prog 232 #[.agg z0.toArray] w fun e w' => ∃ v : List Value, e = .returned (.agg v.toArray) ∧ Mem w.heap.size w [iOwn tyVersion v (laws_toVersion_m x0)] w' := by
 obtain ⟨v1, rfl, r2⟩ := tyLVersion_rd r_0
 have r7 := r2
 obtain ⟨m3, A4, c5, rfl, q6⟩ := r2
 have l8 : x0.Values.length ≤ 68719476736 := s_0
 refine ce1 (L := [(0, .agg #[.int .i64 x0.Id, .slice A4 x0.Values.length c5, .int .i64 x0.Born, .int .i64 x0.Died])]) (N := 18) func232 ?_
 refine sr ?_
 refine WM_box rfl (Wd_none rfl) (by decide) (fun p9 => ?_)
 refine WM_alloc type191 rfl (Wd_none rfl) (by decide) (fun p10 => ?_)
 refine nt' (sr ?_)
 refine WM_alloc type191 rfl (Wd_none rfl) (by decide) (fun p11 => ?_)
 refine nt' (sr ?_)
 refine wv (vf underlying239 rfl type3) ?_
 refine wv (vl 2 0 underlying3) ?_
 refine wv (vf underlying191 rfl type3) ?_
 let K1 : List Value := [.int .i64 x0.Id, .slice A4 x0.Values.length c5, .int .i64 x0.Born, .int .i64 x0.Died]
 let I3 : It := iBox p10 191 [.int .i64 0, .slice none 0 0, .int .i64 0, .int .i64 0]
 refine sb 0 [.int .i64 x0.Id, .slice none 0 0, .int .i64 0, .int .i64 0] [I3, iBox p9 239 K1] (fun W hm => hm) type3 ?_
 refine nt' (sr ?_)
 refine wv (vf underlying239 rfl type25) ?_
 refine wv (vl 2 1 underlying25) ?_
 refine wcl (tSl tInt 3) (laws_toIntS_m x0.Values) (cl_fn cb48 rfl) (fun W hm => laws_toIntS_c W _ x0.Values (hm.rdS0 r7) s_0) (fun z12 => ?_)
 refine WM_form (n := 0) rfl ?_
 rintro A13 c14 rfl m15
 refine wv (vf underlying191 rfl type25) ?_
 let I4 : It := iOwn (tSl tInt 3) [.slice A13 (laws_toIntS_m x0.Values).length c14] (laws_toIntS_m x0.Values)
 refine sb 1 [.int .i64 x0.Id, .slice A13 (laws_toIntS_m x0.Values).length c14, .int .i64 0, .int .i64 0] [I4, I3, iBox p9 239 K1] (pk [1, 0, 2, 3]) type25 ?_
 refine nt' (sr ?_)
 refine wv (vf underlying239 rfl type3) ?_
 refine wv (vl 3 2 underlying3) ?_
 refine wv (vf underlying191 rfl type3) ?_
 refine sb 2 [.int .i64 x0.Id, .slice A13 (laws_toIntS_m x0.Values).length c14, .int .i64 x0.Born, .int .i64 0] [I4, I3, iBox p9 239 K1] (fun W hm => hm) type3 ?_
 refine nt' (sr ?_)
 refine wv (vf underlying239 rfl type3) ?_
 refine wv (vl 3 3 underlying3) ?_
 refine wv (vf underlying191 rfl type3) ?_
 let K2 : List Value := [.int .i64 x0.Id, .slice A13 (laws_toIntS_m x0.Values).length c14, .int .i64 x0.Born, .int .i64 x0.Died]
 refine sb 3 K2 [I4, I3, iBox p9 239 K1] (fun W hm => hm) type3 ?_
 refine nt' (sr ?_)
 refine wv (fun W hm => rv_loadN (cs := K2) underlying191 type191 rfl rfl (hm.boxCells (n := 0) rfl)) ?_
 refine sb 0 K2 [iBox p11 191 K2, I4, iBox p9 239 K1] (pk [2, 0, 1, 3]) type191 ?_
 refine nt' (CM_ret ?_)
 refine QM_r1 rfl (RR_cell (n := 0) rfl rfl underlying191 type191 rfl) (fun W hm => ⟨K2, ?_, ?_⟩)
 ·first | rw [(show laws_toVersion_m x0 = (⟨x0.Id, (laws_toIntS_m x0.Values), x0.Born, x0.Died⟩ : DVersion) from by unfold laws_toVersion_m; exact rfl)] | rfl
 ·rw [(show laws_toVersion_m x0 = (⟨x0.Id, (laws_toIntS_m x0.Values), x0.Born, x0.Died⟩ : DVersion) from by unfold laws_toVersion_m; exact rfl)]; exact Mem.join (is := [I4]) (js := []) (fun _ _ hs => tyVersion_join (x := (⟨x0.Id, (laws_toIntS_m x0.Values), x0.Born, x0.Died⟩ : DVersion)) hs) (hm.pick [2] (by decide))

def laws_toVersionS_b1 (x0 : (List DVersion)) (k9 : Nat) (d10 : (List DVersion)) : (List DVersion) ⊕ ((List DVersion)) :=
 Sum.inr (d10.set k9 (laws_toVersion_m (gt x0 k9)))
def laws_toVersionS_m (x0 : (List DVersion)) : (List DVersion) :=
 Sum.elim id (fun (s : (List DVersion)) => s) (rng (R := (List DVersion)) (fun k (s : (List DVersion)) => laws_toVersionS_b1 x0 k s) (x0.length - 0) 0 (List.replicate x0.length (⟨(0 : Int), [], (0 : Int), (0 : Int)⟩ : DVersion)))
theorem cb215 : Cb Tryz.prog 215 := ⟨f215, _, func215, rfl, by decide⟩
theorem laws_toVersionS_c (w : World) (z0 : Value) (x0 : (List DVersion)) (r_0 : rdS tyLVersion w w.heap.size z0 x0) (s_0 : (x0.length ≤ 68719476736 ∧ ∀ y ∈ x0, smVersion 68719476736 y)) :
  Calls Tryz.prog 215 #[z0] w fun e w' => ∃ v : Value, e = .returned (v) ∧ Mem w.heap.size w [iOwn (tSl tyVersion 191) [v] (laws_toVersionS_m x0)] w' := by
 have r5 := r_0
 obtain ⟨m1, A2, c3, rfl, q4⟩ := r_0
 have l6 : x0.length ≤ 68719476736 := s_0.1
 refine ce1 (L := [(0, .slice A2 x0.length c3)]) (N := 23) func215 ?_
 refine sr (wa (nt' (sr (wm ?_))))
 refine wv (vlen underlying219) ?_
 refine WM_make (E := tyVersion) (n := x0.length) (x0 := (⟨(0 : Int), [], (0 : Int), (0 : Int)⟩ : DVersion)) underlying131 type191 rfl rfl rfl (fun _ => ⟨[], [], _, _, rfl, rfl, tInt_own, ⟨[], [], _, _, rfl, rfl, own_nil, ⟨[], [], _, _, rfl, rfl, tInt_own, tInt_own⟩⟩⟩) rfl rfl (show x0.length * 48 ≤ 281474976710656 from by omega) (by omega) (Wd_none rfl) (by decide) (fun p7 => ?_)
 refine wa (nt' (CM_seq (sr (wa (nt' (CM_block ?_))))))
 let F1 := fun k (s : (List DVersion)) => laws_toVersionS_b1 x0 k s
 let R2 := rng (R := (List DVersion)) F1
 refine CM_loop (σ := Nat × ((List DVersion)) × (Unit)) (fun s => [(0, .slice A2 x0.length c3), (3, .slice (some ⟨p7, 0, none⟩) x0.length x0.length), (4, .int .i64 ((s.1 : Nat) : Int))]) (fun s => [iOwn (tSl tyVersion 191) [.slice (some ⟨p7, 0, none⟩) x0.length x0.length] s.2.1]) (fun s => s.1 ≤ x0.length ∧ R2 (x0.length - s.1) s.1 s.2.1 = R2 (x0.length - 0) 0 (List.replicate x0.length (⟨(0 : Int), [], (0 : Int), (0 : Int)⟩ : DVersion))) (fun s => x0.length - s.1) (0, (List.replicate x0.length (⟨(0 : Int), [], (0 : Int), (0 : Int)⟩ : DVersion)), ()) sl3 (fun W hm => hm) ⟨(by omega), rfl⟩ ?_
 rintro ⟨k9, d10, ⟨⟩⟩ H13
 obtain ⟨hk11, hF12⟩ : k9 ≤ x0.length ∧ R2 (x0.length - k9) k9 d10 = R2 (x0.length - 0) 0 (List.replicate x0.length (⟨(0 : Int), [], (0 : Int), (0 : Int)⟩ : DVersion)) := H13
 show CM Tryz.prog 23 _ _ _ _ [(0, .slice A2 x0.length c3), (3, .slice (some ⟨p7, 0, none⟩) x0.length x0.length), (4, .int .i64 ((k9 : Nat) : Int))] [iOwn (tSl tyVersion 191) [.slice (some ⟨p7, 0, none⟩) x0.length x0.length] d10]
 refine CM_seq (sr (wm (wm ?_)))
 refine wv (vlen underlying219) ?_
 refine wv vlss ?_
 refine nt' ?_
 by_cases hl14 : k9 < x0.length
 ·have g15 : (decide (((k9 : Nat) : Int) < ((x0.length : Nat) : Int))) = true := decide_eq_true (by omega)
  refine CM_condT rfl g15 ?_
  refine CM_skip (QM_then (CM_seq (CM_block (CM_region (wm (wm (wm (wm ?_))))))))
  obtain ⟨a16, rfl, hb17, he18⟩ := q4 (by omega)
  refine wv (vix 4 k9 underlying219 type239) ?_
  obtain ⟨_, e22, hc19⟩ := he18 k9 _ (gt_some (show k9 < x0.length from by omega))
  obtain ⟨v20, rfl, r21⟩ := tyLVersion_rd e22
  have l23 : ((gt x0 k9).Values).length ≤ 68719476736 := (s_0.2 _ (gt_mem (show k9 < x0.length from by omega)))
  have r28 := r21
  obtain ⟨m24, A25, c26, rfl, q27⟩ := r21
  refine wv (fun W hm => rv_loadN (cs := [.int .i64 ((gt x0 k9).Id), .slice A25 ((gt x0 k9).Values).length c26, .int .i64 ((gt x0 k9).Born), .int .i64 ((gt x0 k9).Died)]) underlying239 type239 rfl rfl (hm.elCells (show (a16.add (k9 * 4)).block < w.heap.size from by rw [add_block]; exact hb17.1) hc19)) ?_
  refine wcs tyVersion (laws_toVersion_m (gt x0 k9)) (cl_fn cb232 rfl) (fun W hm => laws_toVersion_c W _ (gt x0 k9) (tyLVersion_mk (x := (gt x0 k9)) (hm.rdS0 r28)) (s_0.2 _ (gt_mem (show k9 < x0.length from by omega)))) (fun z29 => ?_)
  refine tyVersion_sp ?_
  rintro v30 rfl
  refine WM_form (n := 0) rfl ?_
  rintro A31 c32 rfl m33
  refine wv (vix 4 k9 underlying131 type191) ?_
  refine WM_setEl (E := tyVersion) (e := 191) (u := .agg #[.int .i64 ((laws_toVersion_m (gt x0 k9)).Id), .slice A31 ((laws_toVersion_m (gt x0 k9)).Values).length c32, .int .i64 ((laws_toVersion_m (gt x0 k9)).Born), .int .i64 ((laws_toVersion_m (gt x0 k9)).Died)]) (k := k9) (p := p7) (n := x0.length) (xs := d10) (eis := [iOwn (tSl tInt 3) [.slice A31 ((laws_toVersion_m (gt x0 k9)).Values).length c32] ((laws_toVersion_m (gt x0 k9)).Values)]) (js := []) (yv := (laws_toVersion_m (gt x0 k9))) (pk [1, 0]) (fun _ _ hs => (tyVersion_join (x := (laws_toVersion_m (gt x0 k9))) hs)) rfl type191 rfl (by omega) rfl rfl (Wd_none rfl) ?_
  refine WM_nil (QM_block_normal (QM_then (CM_region (wm ?_))))
  refine wv (vadN k9 1 (by omega)) ?_
  refine wa (WM_nil ?_)
  have hn35 := rng_next (R := (List DVersion)) (body := F1) (k := k9) (s := d10) (s' := (d10.set k9 (laws_toVersion_m (gt x0 k9)))) (show k9 < x0.length from by omega) (show laws_toVersionS_b1 x0 k9 d10 = Sum.inr (d10.set k9 (laws_toVersion_m (gt x0 k9))) from by unfold laws_toVersionS_b1; exact rfl) hF12
  exact QM_round (k9 + 1, (d10.set k9 (laws_toVersion_m (gt x0 k9))), ()) sl3 (fun W hm => hm) ⟨(by omega), hn35⟩ (rl (by omega))
 ·have g15 : (decide (((k9 : Nat) : Int) < ((x0.length : Nat) : Int))) = false := decide_eq_false (by omega)
  refine CM_condF rfl g15 ?_
  refine CM_exit (QM_then_exit (QM_then_exit ?_))
  have hE36 : R2 (x0.length - 0) 0 (List.replicate x0.length (⟨(0 : Int), [], (0 : Int), (0 : Int)⟩ : DVersion)) = Sum.inr d10 := rng_end hl14 hF12
  refine QM_block_hit (QM_then (sr (wm (wa (nt' (CM_ret ?_))))))
  refine QM_r1 rfl (RR_tmp rfl) (fun W hm => ⟨.slice (some ⟨p7, 0, none⟩) x0.length x0.length, ?_, ?_⟩)
  ·first | rw [(show laws_toVersionS_m x0 = d10 from by unfold laws_toVersionS_m; exact fin_inr hE36 (rfl))] | rfl
  ·rw [(show laws_toVersionS_m x0 = d10 from by unfold laws_toVersionS_m; exact fin_inr hE36 (rfl))]; exact hm

def laws_toVersionSS_b1 (x0 : (List (List DVersion))) (k9 : Nat) (d10 : (List (List DVersion))) : (List (List DVersion)) ⊕ ((List (List DVersion))) :=
 Sum.inr (d10.set k9 (laws_toVersionS_m (gt x0 k9)))
def laws_toVersionSS_m (x0 : (List (List DVersion))) : (List (List DVersion)) :=
 Sum.elim id (fun (s : (List (List DVersion))) => s) (rng (R := (List (List DVersion))) (fun k (s : (List (List DVersion))) => laws_toVersionSS_b1 x0 k s) (x0.length - 0) 0 (List.replicate x0.length []))
theorem cb162 : Cb Tryz.prog 162 := ⟨f162, _, func162, rfl, by decide⟩
theorem laws_toVersionSS_c (w : World) (z0 : Value) (x0 : (List (List DVersion))) (r_0 : rdS (tSl tyLVersion 239) w w.heap.size z0 x0) (s_0 : (x0.length ≤ 68719476736 ∧ ∀ y ∈ x0, (y.length ≤ 68719476736 ∧ ∀ y1 ∈ y, smVersion 68719476736 y1))) :
  Calls Tryz.prog 162 #[z0] w fun e w' => ∃ v : Value, e = .returned (v) ∧ Mem w.heap.size w [iOwn (tSl (tSl tyVersion 191) 131) [v] (laws_toVersionSS_m x0)] w' := by
 have r5 := r_0
 obtain ⟨m1, A2, c3, rfl, q4⟩ := r_0
 have l6 : x0.length ≤ 68719476736 := s_0.1
 refine ce1 (L := [(0, .slice A2 x0.length c3)]) (N := 23) func162 ?_
 refine sr (wa (nt' (sr (wm ?_))))
 refine wv (vlen underlying22) ?_
 refine WM_make (E := (tSl tyVersion 191)) (n := x0.length) (x0 := []) underlying40 type131 rfl rfl rfl (fun _ => own_nil) rfl rfl (show x0.length * 24 ≤ 281474976710656 from by omega) (by omega) (Wd_none rfl) (by decide) (fun p7 => ?_)
 refine wa (nt' (CM_seq (sr (wa (nt' (CM_block ?_))))))
 let F1 := fun k (s : (List (List DVersion))) => laws_toVersionSS_b1 x0 k s
 let R2 := rng (R := (List (List DVersion))) F1
 refine CM_loop (σ := Nat × ((List (List DVersion))) × (Unit)) (fun s => [(0, .slice A2 x0.length c3), (3, .slice (some ⟨p7, 0, none⟩) x0.length x0.length), (4, .int .i64 ((s.1 : Nat) : Int))]) (fun s => [iOwn (tSl (tSl tyVersion 191) 131) [.slice (some ⟨p7, 0, none⟩) x0.length x0.length] s.2.1]) (fun s => s.1 ≤ x0.length ∧ R2 (x0.length - s.1) s.1 s.2.1 = R2 (x0.length - 0) 0 (List.replicate x0.length [])) (fun s => x0.length - s.1) (0, (List.replicate x0.length []), ()) sl3 (fun W hm => hm) ⟨(by omega), rfl⟩ ?_
 rintro ⟨k9, d10, ⟨⟩⟩ H13
 obtain ⟨hk11, hF12⟩ : k9 ≤ x0.length ∧ R2 (x0.length - k9) k9 d10 = R2 (x0.length - 0) 0 (List.replicate x0.length []) := H13
 show CM Tryz.prog 23 _ _ _ _ [(0, .slice A2 x0.length c3), (3, .slice (some ⟨p7, 0, none⟩) x0.length x0.length), (4, .int .i64 ((k9 : Nat) : Int))] [iOwn (tSl (tSl tyVersion 191) 131) [.slice (some ⟨p7, 0, none⟩) x0.length x0.length] d10]
 refine CM_seq (sr (wm (wm ?_)))
 refine wv (vlen underlying22) ?_
 refine wv vlss ?_
 refine nt' ?_
 by_cases hl14 : k9 < x0.length
 ·have g15 : (decide (((k9 : Nat) : Int) < ((x0.length : Nat) : Int))) = true := decide_eq_true (by omega)
  refine CM_condT rfl g15 ?_
  refine CM_skip (QM_then (CM_seq (CM_block (CM_region (wm (wm (wm (wm ?_))))))))
  obtain ⟨a16, rfl, hb17, he18⟩ := q4 (by omega)
  refine wv (vix 1 k9 underlying22 type219) ?_
  obtain ⟨_, e20, hc19⟩ := he18 k9 _ (gt_some (show k9 < x0.length from by omega))
  have l21 : (gt x0 k9).length ≤ 68719476736 := (s_0.2 _ (gt_mem (show k9 < x0.length from by omega))).1
  obtain ⟨v22, rfl, r23⟩ := e20
  have r28 := r23
  obtain ⟨m24, A25, c26, rfl, q27⟩ := r23
  refine wv (fun W hm => rv_load underlying219 rfl rfl ((hm.cell0 (show (a16.add (k9 * 1)).block < w.heap.size from by rw [add_block]; exact hb17.1)).trans (hc19 0 _ rfl))) ?_
  refine wcl (tSl tyVersion 191) (laws_toVersionS_m (gt x0 k9)) (cl_fn cb215 rfl) (fun W hm => laws_toVersionS_c W _ (gt x0 k9) (hm.rdS0 r28) (s_0.2 _ (gt_mem (show k9 < x0.length from by omega)))) (fun z29 => ?_)
  refine WM_form (n := 0) rfl ?_
  rintro A30 c31 rfl m32
  refine wv (vix 1 k9 underlying40 type131) ?_
  refine WM_setEl (E := (tSl tyVersion 191)) (e := 131) (u := .slice A30 (laws_toVersionS_m (gt x0 k9)).length c31) (k := k9) (p := p7) (n := x0.length) (xs := d10) (eis := [iOwn (tSl tyVersion 191) [.slice A30 (laws_toVersionS_m (gt x0 k9)).length c31] (laws_toVersionS_m (gt x0 k9))]) (js := []) (yv := (laws_toVersionS_m (gt x0 k9))) (pk [1, 0]) (fun _ _ hs => (Sep.one hs)) rfl type131 rfl (by omega) rfl rfl (Wd_none rfl) ?_
  refine WM_nil (QM_block_normal (QM_then (CM_region (wm ?_))))
  refine wv (vadN k9 1 (by omega)) ?_
  refine wa (WM_nil ?_)
  have hn34 := rng_next (R := (List (List DVersion))) (body := F1) (k := k9) (s := d10) (s' := (d10.set k9 (laws_toVersionS_m (gt x0 k9)))) (show k9 < x0.length from by omega) (show laws_toVersionSS_b1 x0 k9 d10 = Sum.inr (d10.set k9 (laws_toVersionS_m (gt x0 k9))) from by unfold laws_toVersionSS_b1; exact rfl) hF12
  exact QM_round (k9 + 1, (d10.set k9 (laws_toVersionS_m (gt x0 k9))), ()) sl3 (fun W hm => hm) ⟨(by omega), hn34⟩ (rl (by omega))
 ·have g15 : (decide (((k9 : Nat) : Int) < ((x0.length : Nat) : Int))) = false := decide_eq_false (by omega)
  refine CM_condF rfl g15 ?_
  refine CM_exit (QM_then_exit (QM_then_exit ?_))
  have hE35 : R2 (x0.length - 0) 0 (List.replicate x0.length []) = Sum.inr d10 := rng_end hl14 hF12
  refine QM_block_hit (QM_then (sr (wm (wa (nt' (CM_ret ?_))))))
  refine QM_r1 rfl (RR_tmp rfl) (fun W hm => ⟨.slice (some ⟨p7, 0, none⟩) x0.length x0.length, ?_, ?_⟩)
  ·first | rw [(show laws_toVersionSS_m x0 = d10 from by unfold laws_toVersionSS_m; exact fin_inr hE35 (rfl))] | rfl
  ·rw [(show laws_toVersionSS_m x0 = d10 from by unfold laws_toVersionSS_m; exact fin_inr hE35 (rfl))]; exact hm

def laws_toStore_m (x0 : DStore) : DStore :=
 (⟨(laws_toVersionSS_m x0.Segments), x0.Now⟩ : DStore)
theorem cb82 : Cb Tryz.prog 82 := ⟨f82, _, func82, rfl, by decide⟩
theorem laws_toStore_c (w : World) (z0 : List Value) (x0 : DStore) (r_0 : tyLStore.rd w w.heap.size z0 x0) (s_0 : smStore 68719476736 x0) :
  Calls Tryz.prog 82 #[.agg z0.toArray] w fun e w' => ∃ v : List Value, e = .returned (.agg v.toArray) ∧ Mem w.heap.size w [iOwn tyStore v (laws_toStore_m x0)] w' := by
 obtain ⟨v1, rfl, r2⟩ := tyLStore_rd r_0
 have r7 := r2
 obtain ⟨m3, A4, c5, rfl, q6⟩ := r2
 have l8 : x0.Segments.length ≤ 68719476736 := s_0.1
 refine ce1 (L := [(0, .agg #[.slice A4 x0.Segments.length c5, .int .i64 x0.Now])]) (N := 12) func82 ?_
 refine sr ?_
 refine WM_box rfl (Wd_none rfl) (by decide) (fun p9 => ?_)
 refine WM_alloc type42 rfl (Wd_none rfl) (by decide) (fun p10 => ?_)
 refine nt' (sr ?_)
 refine WM_alloc type42 rfl (Wd_none rfl) (by decide) (fun p11 => ?_)
 refine nt' (sr ?_)
 refine wv (vf underlying24 rfl type22) ?_
 refine wv (vl 2 0 underlying22) ?_
 refine wcl (tSl (tSl tyVersion 191) 131) (laws_toVersionSS_m x0.Segments) (cl_fn cb162 rfl) (fun W hm => laws_toVersionSS_c W _ x0.Segments (hm.rdS0 r7) s_0) (fun z12 => ?_)
 refine WM_form (n := 0) rfl ?_
 rintro A13 c14 rfl m15
 refine wv (vf underlying42 rfl type40) ?_
 let I2 : It := iOwn (tSl (tSl tyVersion 191) 131) [.slice A13 (laws_toVersionSS_m x0.Segments).length c14] (laws_toVersionSS_m x0.Segments)
 let I3 : It := iBox p9 24 [.slice A4 x0.Segments.length c5, .int .i64 x0.Now]
 refine sb 0 [.slice A13 (laws_toVersionSS_m x0.Segments).length c14, .int .i64 0] [I2, iBox p10 42 [.slice none 0 0, .int .i64 0], I3] (pk [1, 0, 2, 3]) type40 ?_
 refine nt' (sr ?_)
 refine wv (vf underlying24 rfl type3) ?_
 refine wv (vl 3 1 underlying3) ?_
 refine wv (vf underlying42 rfl type3) ?_
 let K1 : List Value := [.slice A13 (laws_toVersionSS_m x0.Segments).length c14, .int .i64 x0.Now]
 refine sb 1 K1 [I2, iBox p10 42 [.slice none 0 0, .int .i64 0], I3] (fun W hm => hm) type3 ?_
 refine nt' (sr ?_)
 refine wv (fun W hm => rv_loadN (cs := K1) underlying42 type42 rfl rfl (hm.boxCells (n := 0) rfl)) ?_
 refine sb 0 K1 [iBox p11 42 K1, I2, I3] (pk [2, 0, 1, 3]) type42 ?_
 refine nt' (CM_ret ?_)
 refine QM_r1 rfl (RR_cell (n := 0) rfl rfl underlying42 type42 rfl) (fun W hm => ⟨K1, ?_, ?_⟩)
 ·first | rw [(show laws_toStore_m x0 = (⟨(laws_toVersionSS_m x0.Segments), x0.Now⟩ : DStore) from by unfold laws_toStore_m; exact rfl)] | rfl
 ·rw [(show laws_toStore_m x0 = (⟨(laws_toVersionSS_m x0.Segments), x0.Now⟩ : DStore) from by unfold laws_toStore_m; exact rfl)]; exact Mem.join (is := [I2]) (js := []) (fun _ _ hs => tyStore_join (x := (⟨(laws_toVersionSS_m x0.Segments), x0.Now⟩ : DStore)) hs) (hm.pick [2] (by decide))

def laws_toCond_m (x0 : DCond) : DCond :=
 x0
theorem cb203 : Cb Tryz.prog 203 := ⟨f203, _, func203, rfl, by decide⟩
theorem laws_toCond_c (w : World) (z0 : List Value) (x0 : DCond) (r_0 : tyLCond.rd w w.heap.size z0 x0) :
  Calls Tryz.prog 203 #[.agg z0.toArray] w fun e w' => ∃ v : List Value, e = .returned (.agg v.toArray) ∧ Mem w.heap.size w [iOwn tyCond v (laws_toCond_m x0)] w' := by
 obtain rfl := tyLCond_rd r_0
 refine ce1 (L := [(0, .agg #[.int .i64 x0.Field, .int .i64 x0.Low, .int .i64 x0.High])]) (N := 14) func203 ?_
 refine sr ?_
 refine WM_box rfl (Wd_none rfl) (by decide) (fun p1 => ?_)
 refine WM_alloc type201 rfl (Wd_none rfl) (by decide) (fun p2 => ?_)
 refine nt' (sr ?_)
 refine WM_alloc type201 rfl (Wd_none rfl) (by decide) (fun p3 => ?_)
 refine nt' (sr ?_)
 refine wv (vf underlying215 rfl type3) ?_
 refine wv (vl 2 0 underlying3) ?_
 refine wv (vf underlying201 rfl type3) ?_
 let I1 : It := iBox p2 201 [.int .i64 0, .int .i64 0, .int .i64 0]
 let I2 : It := iBox p1 215 [.int .i64 x0.Field, .int .i64 x0.Low, .int .i64 x0.High]
 refine sb 0 [.int .i64 x0.Field, .int .i64 0, .int .i64 0] [I1, I2] (fun W hm => hm) type3 ?_
 refine nt' (sr ?_)
 refine wv (vf underlying215 rfl type3) ?_
 refine wv (vl 2 1 underlying3) ?_
 refine wv (vf underlying201 rfl type3) ?_
 refine sb 1 [.int .i64 x0.Field, .int .i64 x0.Low, .int .i64 0] [I1, I2] (fun W hm => hm) type3 ?_
 refine nt' (sr ?_)
 refine wv (vf underlying215 rfl type3) ?_
 refine wv (vl 2 2 underlying3) ?_
 refine wv (vf underlying201 rfl type3) ?_
 refine sb 2 [.int .i64 x0.Field, .int .i64 x0.Low, .int .i64 x0.High] [I1, I2] (fun W hm => hm) type3 ?_
 refine nt' (sr ?_)
 refine wv (fun W hm => rv_loadN (cs := [.int .i64 x0.Field, .int .i64 x0.Low, .int .i64 x0.High]) underlying201 type201 rfl rfl (hm.boxCells (n := 0) rfl)) ?_
 refine sb 0 [.int .i64 x0.Field, .int .i64 x0.Low, .int .i64 x0.High] [iBox p3 201 [.int .i64 x0.Field, .int .i64 x0.Low, .int .i64 x0.High], I2] (pk [1, 0, 2]) type201 ?_
 refine nt' (CM_ret ?_)
 refine QM_r1 rfl (RR_cell (n := 0) rfl rfl underlying201 type201 rfl) (fun W hm => ⟨[.int .i64 x0.Field, .int .i64 x0.Low, .int .i64 x0.High], ?_, ?_⟩)
 ·first | rw [(show laws_toCond_m x0 = x0 from by unfold laws_toCond_m; exact rfl)] | rfl
 ·rw [(show laws_toCond_m x0 = x0 from by unfold laws_toCond_m; exact rfl)]; exact Mem.join (is := []) (js := []) (fun _ _ hs => tyCond_join (x := x0) hs) (hm.pick [] (by decide))

def laws_toCondS_b1 (x0 : (List DCond)) (k9 : Nat) (d10 : (List DCond)) : (List DCond) ⊕ ((List DCond)) :=
 Sum.inr (d10.set k9 (laws_toCond_m (gt x0 k9)))
def laws_toCondS_m (x0 : (List DCond)) : (List DCond) :=
 Sum.elim id (fun (s : (List DCond)) => s) (rng (R := (List DCond)) (fun k (s : (List DCond)) => laws_toCondS_b1 x0 k s) (x0.length - 0) 0 (List.replicate x0.length (⟨(0 : Int), (0 : Int), (0 : Int)⟩ : DCond)))
theorem cb144 : Cb Tryz.prog 144 := ⟨f144, _, func144, rfl, by decide⟩
theorem laws_toCondS_c (w : World) (z0 : Value) (x0 : (List DCond)) (r_0 : rdS tyLCond w w.heap.size z0 x0) (s_0 : x0.length ≤ 68719476736) :
  Calls Tryz.prog 144 #[z0] w fun e w' => ∃ v : Value, e = .returned (v) ∧ Mem w.heap.size w [iOwn (tSl tyCond 201) [v] (laws_toCondS_m x0)] w' := by
 have r5 := r_0
 obtain ⟨m1, A2, c3, rfl, q4⟩ := r_0
 have l6 : x0.length ≤ 68719476736 := s_0
 refine ce1 (L := [(0, .slice A2 x0.length c3)]) (N := 23) func144 ?_
 refine sr (wa (nt' (sr (wm ?_))))
 refine wv (vlen underlying85) ?_
 refine WM_make (E := tyCond) (n := x0.length) (x0 := (⟨(0 : Int), (0 : Int), (0 : Int)⟩ : DCond)) underlying32 type201 rfl rfl rfl (fun _ => ⟨[], [], _, _, rfl, rfl, tInt_own, ⟨[], [], _, _, rfl, rfl, tInt_own, tInt_own⟩⟩) rfl rfl (show x0.length * 24 ≤ 281474976710656 from by omega) (by omega) (Wd_none rfl) (by decide) (fun p7 => ?_)
 refine wa (nt' (CM_seq (sr (wa (nt' (CM_block ?_))))))
 let F1 := fun k (s : (List DCond)) => laws_toCondS_b1 x0 k s
 let R2 := rng (R := (List DCond)) F1
 refine CM_loop (σ := Nat × ((List DCond)) × (Unit)) (fun s => [(0, .slice A2 x0.length c3), (3, .slice (some ⟨p7, 0, none⟩) x0.length x0.length), (4, .int .i64 ((s.1 : Nat) : Int))]) (fun s => [iOwn (tSl tyCond 201) [.slice (some ⟨p7, 0, none⟩) x0.length x0.length] s.2.1]) (fun s => s.1 ≤ x0.length ∧ R2 (x0.length - s.1) s.1 s.2.1 = R2 (x0.length - 0) 0 (List.replicate x0.length (⟨(0 : Int), (0 : Int), (0 : Int)⟩ : DCond))) (fun s => x0.length - s.1) (0, (List.replicate x0.length (⟨(0 : Int), (0 : Int), (0 : Int)⟩ : DCond)), ()) sl3 (fun W hm => hm) ⟨(by omega), rfl⟩ ?_
 rintro ⟨k9, d10, ⟨⟩⟩ H13
 obtain ⟨hk11, hF12⟩ : k9 ≤ x0.length ∧ R2 (x0.length - k9) k9 d10 = R2 (x0.length - 0) 0 (List.replicate x0.length (⟨(0 : Int), (0 : Int), (0 : Int)⟩ : DCond)) := H13
 show CM Tryz.prog 23 _ _ _ _ [(0, .slice A2 x0.length c3), (3, .slice (some ⟨p7, 0, none⟩) x0.length x0.length), (4, .int .i64 ((k9 : Nat) : Int))] [iOwn (tSl tyCond 201) [.slice (some ⟨p7, 0, none⟩) x0.length x0.length] d10]
 refine CM_seq (sr (wm (wm ?_)))
 refine wv (vlen underlying85) ?_
 refine wv vlss ?_
 refine nt' ?_
 by_cases hl14 : k9 < x0.length
 ·have g15 : (decide (((k9 : Nat) : Int) < ((x0.length : Nat) : Int))) = true := decide_eq_true (by omega)
  refine CM_condT rfl g15 ?_
  refine CM_skip (QM_then (CM_seq (CM_block (CM_region (wm (wm (wm (wm ?_))))))))
  obtain ⟨a16, rfl, hb17, he18⟩ := q4 (by omega)
  refine wv (vix 3 k9 underlying85 type215) ?_
  obtain ⟨_, e20, hc19⟩ := he18 k9 _ (gt_some (show k9 < x0.length from by omega))
  obtain rfl := tyLCond_rd e20
  refine wv (fun W hm => rv_loadN (cs := [.int .i64 ((gt x0 k9).Field), .int .i64 ((gt x0 k9).Low), .int .i64 ((gt x0 k9).High)]) underlying215 type215 rfl rfl (hm.elCells (show (a16.add (k9 * 3)).block < w.heap.size from by rw [add_block]; exact hb17.1) hc19)) ?_
  refine wcs tyCond (laws_toCond_m (gt x0 k9)) (cl_fn cb203 rfl) (fun W hm => laws_toCond_c W _ (gt x0 k9) (tyLCond_mk (x := (gt x0 k9)))) (fun z21 => ?_)
  refine tyCond_sp ?_
  rintro ⟨⟩ rfl
  refine wv (vix 3 k9 underlying32 type201) ?_
  refine WM_setEl (E := tyCond) (e := 201) (u := .agg #[.int .i64 ((laws_toCond_m (gt x0 k9)).Field), .int .i64 ((laws_toCond_m (gt x0 k9)).Low), .int .i64 ((laws_toCond_m (gt x0 k9)).High)]) (k := k9) (p := p7) (n := x0.length) (xs := d10) (eis := []) (js := []) (yv := (laws_toCond_m (gt x0 k9))) (fun W hm => hm) (fun _ _ hs => (tyCond_join (x := (laws_toCond_m (gt x0 k9))) hs)) rfl type201 rfl (by omega) rfl rfl (Wd_none rfl) ?_
  refine WM_nil (QM_block_normal (QM_then (CM_region (wm ?_))))
  refine wv (vadN k9 1 (by omega)) ?_
  refine wa (WM_nil ?_)
  have hn22 := rng_next (R := (List DCond)) (body := F1) (k := k9) (s := d10) (s' := (d10.set k9 (laws_toCond_m (gt x0 k9)))) (show k9 < x0.length from by omega) (show laws_toCondS_b1 x0 k9 d10 = Sum.inr (d10.set k9 (laws_toCond_m (gt x0 k9))) from by unfold laws_toCondS_b1; exact rfl) hF12
  exact QM_round (k9 + 1, (d10.set k9 (laws_toCond_m (gt x0 k9))), ()) sl3 (fun W hm => hm) ⟨(by omega), hn22⟩ (rl (by omega))
 ·have g15 : (decide (((k9 : Nat) : Int) < ((x0.length : Nat) : Int))) = false := decide_eq_false (by omega)
  refine CM_condF rfl g15 ?_
  refine CM_exit (QM_then_exit (QM_then_exit ?_))
  have hE23 : R2 (x0.length - 0) 0 (List.replicate x0.length (⟨(0 : Int), (0 : Int), (0 : Int)⟩ : DCond)) = Sum.inr d10 := rng_end hl14 hF12
  refine QM_block_hit (QM_then (sr (wm (wa (nt' (CM_ret ?_))))))
  refine QM_r1 rfl (RR_tmp rfl) (fun W hm => ⟨.slice (some ⟨p7, 0, none⟩) x0.length x0.length, ?_, ?_⟩)
  ·first | rw [(show laws_toCondS_m x0 = d10 from by unfold laws_toCondS_m; exact fin_inr hE23 (rfl))] | rfl
  ·rw [(show laws_toCondS_m x0 = d10 from by unfold laws_toCondS_m; exact fin_inr hE23 (rfl))]; exact hm

def laws_toQuery_m (x0 : DQuery) : DQuery :=
 (⟨x0.Id, x0.Tenant, (laws_toCondS_m x0.Conds), (laws_toIntS_m x0.Out)⟩ : DQuery)
theorem cb53 : Cb Tryz.prog 53 := ⟨f53, _, func53, rfl, by decide⟩
theorem laws_toQuery_c (w : World) (z0 : List Value) (x0 : DQuery) (r_0 : tyLQuery.rd w w.heap.size z0 x0) (s_0 : smQuery 68719476736 x0) :
  Calls Tryz.prog 53 #[.agg z0.toArray] w fun e w' => ∃ v : List Value, e = .returned (.agg v.toArray) ∧ Mem w.heap.size w [iOwn tyQuery v (laws_toQuery_m x0)] w' := by
 obtain ⟨v1, v3, rfl, r2, r4⟩ := tyLQuery_rd r_0
 have r9 := r2
 obtain ⟨m5, A6, c7, rfl, q8⟩ := r2
 have r14 := r4
 obtain ⟨m10, A11, c12, rfl, q13⟩ := r4
 have l15 : x0.Conds.length ≤ 68719476736 := s_0.1
 have l16 : x0.Out.length ≤ 68719476736 := s_0.2
 refine ce1 (L := [(0, .agg #[.int .i64 x0.Id, .int .i64 x0.Tenant, .slice A6 x0.Conds.length c7, .slice A11 x0.Out.length c12])]) (N := 19) func53 ?_
 refine sr ?_
 refine WM_box rfl (Wd_none rfl) (by decide) (fun p17 => ?_)
 refine WM_alloc type34 rfl (Wd_none rfl) (by decide) (fun p18 => ?_)
 refine nt' (sr ?_)
 refine WM_alloc type34 rfl (Wd_none rfl) (by decide) (fun p19 => ?_)
 refine nt' (sr ?_)
 refine wv (vf underlying87 rfl type3) ?_
 refine wv (vl 2 0 underlying3) ?_
 refine wv (vf underlying34 rfl type3) ?_
 let K1 : List Value := [.int .i64 0, .int .i64 0, .slice none 0 0, .slice none 0 0]
 let K2 : List Value := [.int .i64 x0.Id, .int .i64 x0.Tenant, .slice A6 x0.Conds.length c7, .slice A11 x0.Out.length c12]
 refine sb 0 [.int .i64 x0.Id, .int .i64 0, .slice none 0 0, .slice none 0 0] [iBox p18 34 K1, iBox p17 87 K2] (fun W hm => hm) type3 ?_
 refine nt' (sr ?_)
 refine wv (vf underlying87 rfl type3) ?_
 refine wv (vl 2 1 underlying3) ?_
 refine wv (vf underlying34 rfl type3) ?_
 refine sb 1 [.int .i64 x0.Id, .int .i64 x0.Tenant, .slice none 0 0, .slice none 0 0] [iBox p18 34 K1, iBox p17 87 K2] (fun W hm => hm) type3 ?_
 refine nt' (sr ?_)
 refine wv (vf underlying87 rfl type85) ?_
 refine wv (vl 2 2 underlying85) ?_
 refine wcl (tSl tyCond 201) (laws_toCondS_m x0.Conds) (cl_fn cb144 rfl) (fun W hm => laws_toCondS_c W _ x0.Conds (hm.rdS0 r9) s_0.1) (fun z20 => ?_)
 refine WM_form (n := 0) rfl ?_
 rintro A21 c22 rfl m23
 refine wv (vf underlying34 rfl type32) ?_
 let I4 : It := iOwn (tSl tyCond 201) [.slice A21 (laws_toCondS_m x0.Conds).length c22] (laws_toCondS_m x0.Conds)
 refine sb 2 [.int .i64 x0.Id, .int .i64 x0.Tenant, .slice A21 (laws_toCondS_m x0.Conds).length c22, .slice none 0 0] [I4, iBox p18 34 K1, iBox p17 87 K2] (pk [1, 0, 2, 3]) type32 ?_
 refine nt' (sr ?_)
 refine wv (vf underlying87 rfl type25) ?_
 refine wv (vl 3 3 underlying25) ?_
 refine wcl (tSl tInt 3) (laws_toIntS_m x0.Out) (cl_fn cb48 rfl) (fun W hm => laws_toIntS_c W _ x0.Out (hm.rdS0 r14) s_0.2) (fun z25 => ?_)
 refine WM_form (n := 0) rfl ?_
 rintro A26 c27 rfl m28
 refine wv (vf underlying34 rfl type25) ?_
 let K3 : List Value := [.int .i64 x0.Id, .int .i64 x0.Tenant, .slice A21 (laws_toCondS_m x0.Conds).length c22, .slice A26 (laws_toIntS_m x0.Out).length c27]
 let I5 : It := iOwn (tSl tInt 3) [.slice A26 (laws_toIntS_m x0.Out).length c27] (laws_toIntS_m x0.Out)
 refine sb 3 K3 [I5, I4, iBox p18 34 K1, iBox p17 87 K2] (pk [1, 0, 2, 3, 4]) type25 ?_
 refine nt' (sr ?_)
 refine wv (fun W hm => rv_loadN (cs := K3) underlying34 type34 rfl rfl (hm.boxCells (n := 0) rfl)) ?_
 refine sb 0 K3 [iBox p19 34 K3, I5, I4, iBox p17 87 K2] (pk [3, 0, 1, 2, 4]) type34 ?_
 refine nt' (CM_ret ?_)
 refine QM_r1 rfl (RR_cell (n := 0) rfl rfl underlying34 type34 rfl) (fun W hm => ⟨K3, ?_, ?_⟩)
 ·first | rw [(show laws_toQuery_m x0 = (⟨x0.Id, x0.Tenant, (laws_toCondS_m x0.Conds), (laws_toIntS_m x0.Out)⟩ : DQuery) from by unfold laws_toQuery_m; exact rfl)] | rfl
 ·rw [(show laws_toQuery_m x0 = (⟨x0.Id, x0.Tenant, (laws_toCondS_m x0.Conds), (laws_toIntS_m x0.Out)⟩ : DQuery) from by unfold laws_toQuery_m; exact rfl)]; exact Mem.join (is := [I4, I5]) (js := []) (fun _ _ hs => tyQuery_join (x := (⟨x0.Id, x0.Tenant, (laws_toCondS_m x0.Conds), (laws_toIntS_m x0.Out)⟩ : DQuery)) hs) (hm.pick [3, 2] (by decide))

def laws_toRow_m (x0 : DRow) : DRow :=
 (⟨x0.Id, (laws_toIntS_m x0.Values)⟩ : DRow)
theorem cb148 : Cb Tryz.prog 148 := ⟨f148, _, func148, rfl, by decide⟩
theorem laws_toRow_c (w : World) (z0 : List Value) (x0 : DRow) (r_0 : tyLRow.rd w w.heap.size z0 x0) (s_0 : smRow 68719476736 x0) :
  Calls Tryz.prog 148 #[.agg z0.toArray] w fun e w' => ∃ v : List Value, e = .returned (.agg v.toArray) ∧ Mem w.heap.size w [iOwn tyRow v (laws_toRow_m x0)] w' := by
 obtain ⟨v1, rfl, r2⟩ := tyLRow_rd r_0
 have r7 := r2
 obtain ⟨m3, A4, c5, rfl, q6⟩ := r2
 have l8 : x0.Values.length ≤ 68719476736 := s_0
 refine ce1 (L := [(0, .agg #[.int .i64 x0.Id, .slice A4 x0.Values.length c5])]) (N := 12) func148 ?_
 refine sr ?_
 refine WM_box rfl (Wd_none rfl) (by decide) (fun p9 => ?_)
 refine WM_alloc type73 rfl (Wd_none rfl) (by decide) (fun p10 => ?_)
 refine nt' (sr ?_)
 refine WM_alloc type73 rfl (Wd_none rfl) (by decide) (fun p11 => ?_)
 refine nt' (sr ?_)
 refine wv (vf underlying93 rfl type3) ?_
 refine wv (vl 2 0 underlying3) ?_
 refine wv (vf underlying73 rfl type3) ?_
 let I2 : It := iBox p9 93 [.int .i64 x0.Id, .slice A4 x0.Values.length c5]
 refine sb 0 [.int .i64 x0.Id, .slice none 0 0] [iBox p10 73 [.int .i64 0, .slice none 0 0], I2] (fun W hm => hm) type3 ?_
 refine nt' (sr ?_)
 refine wv (vf underlying93 rfl type25) ?_
 refine wv (vl 2 1 underlying25) ?_
 refine wcl (tSl tInt 3) (laws_toIntS_m x0.Values) (cl_fn cb48 rfl) (fun W hm => laws_toIntS_c W _ x0.Values (hm.rdS0 r7) s_0) (fun z12 => ?_)
 refine WM_form (n := 0) rfl ?_
 rintro A13 c14 rfl m15
 refine wv (vf underlying73 rfl type25) ?_
 let K1 : List Value := [.int .i64 x0.Id, .slice A13 (laws_toIntS_m x0.Values).length c14]
 let I3 : It := iOwn (tSl tInt 3) [.slice A13 (laws_toIntS_m x0.Values).length c14] (laws_toIntS_m x0.Values)
 refine sb 1 K1 [I3, iBox p10 73 [.int .i64 0, .slice none 0 0], I2] (pk [1, 0, 2, 3]) type25 ?_
 refine nt' (sr ?_)
 refine wv (fun W hm => rv_loadN (cs := K1) underlying73 type73 rfl rfl (hm.boxCells (n := 0) rfl)) ?_
 refine sb 0 K1 [iBox p11 73 K1, I3, I2] (pk [2, 0, 1, 3]) type73 ?_
 refine nt' (CM_ret ?_)
 refine QM_r1 rfl (RR_cell (n := 0) rfl rfl underlying73 type73 rfl) (fun W hm => ⟨K1, ?_, ?_⟩)
 ·first | rw [(show laws_toRow_m x0 = (⟨x0.Id, (laws_toIntS_m x0.Values)⟩ : DRow) from by unfold laws_toRow_m; exact rfl)] | rfl
 ·rw [(show laws_toRow_m x0 = (⟨x0.Id, (laws_toIntS_m x0.Values)⟩ : DRow) from by unfold laws_toRow_m; exact rfl)]; exact Mem.join (is := [I3]) (js := []) (fun _ _ hs => tyRow_join (x := (⟨x0.Id, (laws_toIntS_m x0.Values)⟩ : DRow)) hs) (hm.pick [2] (by decide))

def laws_toRowS_b1 (x0 : (List DRow)) (k9 : Nat) (d10 : (List DRow)) : (List DRow) ⊕ ((List DRow)) :=
 Sum.inr (d10.set k9 (laws_toRow_m (gt x0 k9)))
def laws_toRowS_m (x0 : (List DRow)) : (List DRow) :=
 Sum.elim id (fun (s : (List DRow)) => s) (rng (R := (List DRow)) (fun k (s : (List DRow)) => laws_toRowS_b1 x0 k s) (x0.length - 0) 0 (List.replicate x0.length (⟨(0 : Int), []⟩ : DRow)))
theorem cb216 : Cb Tryz.prog 216 := ⟨f216, _, func216, rfl, by decide⟩
theorem laws_toRowS_c (w : World) (z0 : Value) (x0 : (List DRow)) (r_0 : rdS tyLRow w w.heap.size z0 x0) (s_0 : (x0.length ≤ 68719476736 ∧ ∀ y ∈ x0, smRow 68719476736 y)) :
  Calls Tryz.prog 216 #[z0] w fun e w' => ∃ v : Value, e = .returned (v) ∧ Mem w.heap.size w [iOwn (tSl tyRow 73) [v] (laws_toRowS_m x0)] w' := by
 have r5 := r_0
 obtain ⟨m1, A2, c3, rfl, q4⟩ := r_0
 have l6 : x0.length ≤ 68719476736 := s_0.1
 refine ce1 (L := [(0, .slice A2 x0.length c3)]) (N := 23) func216 ?_
 refine sr (wa (nt' (sr (wm ?_))))
 refine wv (vlen underlying169) ?_
 refine WM_make (E := tyRow) (n := x0.length) (x0 := (⟨(0 : Int), []⟩ : DRow)) underlying35 type73 rfl rfl rfl (fun _ => ⟨[], [], _, _, rfl, rfl, tInt_own, own_nil⟩) rfl rfl (show x0.length * 32 ≤ 281474976710656 from by omega) (by omega) (Wd_none rfl) (by decide) (fun p7 => ?_)
 refine wa (nt' (CM_seq (sr (wa (nt' (CM_block ?_))))))
 let F1 := fun k (s : (List DRow)) => laws_toRowS_b1 x0 k s
 let R2 := rng (R := (List DRow)) F1
 refine CM_loop (σ := Nat × ((List DRow)) × (Unit)) (fun s => [(0, .slice A2 x0.length c3), (3, .slice (some ⟨p7, 0, none⟩) x0.length x0.length), (4, .int .i64 ((s.1 : Nat) : Int))]) (fun s => [iOwn (tSl tyRow 73) [.slice (some ⟨p7, 0, none⟩) x0.length x0.length] s.2.1]) (fun s => s.1 ≤ x0.length ∧ R2 (x0.length - s.1) s.1 s.2.1 = R2 (x0.length - 0) 0 (List.replicate x0.length (⟨(0 : Int), []⟩ : DRow))) (fun s => x0.length - s.1) (0, (List.replicate x0.length (⟨(0 : Int), []⟩ : DRow)), ()) sl3 (fun W hm => hm) ⟨(by omega), rfl⟩ ?_
 rintro ⟨k9, d10, ⟨⟩⟩ H13
 obtain ⟨hk11, hF12⟩ : k9 ≤ x0.length ∧ R2 (x0.length - k9) k9 d10 = R2 (x0.length - 0) 0 (List.replicate x0.length (⟨(0 : Int), []⟩ : DRow)) := H13
 show CM Tryz.prog 23 _ _ _ _ [(0, .slice A2 x0.length c3), (3, .slice (some ⟨p7, 0, none⟩) x0.length x0.length), (4, .int .i64 ((k9 : Nat) : Int))] [iOwn (tSl tyRow 73) [.slice (some ⟨p7, 0, none⟩) x0.length x0.length] d10]
 refine CM_seq (sr (wm (wm ?_)))
 refine wv (vlen underlying169) ?_
 refine wv vlss ?_
 refine nt' ?_
 by_cases hl14 : k9 < x0.length
 ·have g15 : (decide (((k9 : Nat) : Int) < ((x0.length : Nat) : Int))) = true := decide_eq_true (by omega)
  refine CM_condT rfl g15 ?_
  refine CM_skip (QM_then (CM_seq (CM_block (CM_region (wm (wm (wm (wm ?_))))))))
  obtain ⟨a16, rfl, hb17, he18⟩ := q4 (by omega)
  refine wv (vix 2 k9 underlying169 type93) ?_
  obtain ⟨_, e22, hc19⟩ := he18 k9 _ (gt_some (show k9 < x0.length from by omega))
  obtain ⟨v20, rfl, r21⟩ := tyLRow_rd e22
  have l23 : ((gt x0 k9).Values).length ≤ 68719476736 := (s_0.2 _ (gt_mem (show k9 < x0.length from by omega)))
  have r28 := r21
  obtain ⟨m24, A25, c26, rfl, q27⟩ := r21
  refine wv (fun W hm => rv_loadN (cs := [.int .i64 ((gt x0 k9).Id), .slice A25 ((gt x0 k9).Values).length c26]) underlying93 type93 rfl rfl (hm.elCells (show (a16.add (k9 * 2)).block < w.heap.size from by rw [add_block]; exact hb17.1) hc19)) ?_
  refine wcs tyRow (laws_toRow_m (gt x0 k9)) (cl_fn cb148 rfl) (fun W hm => laws_toRow_c W _ (gt x0 k9) (tyLRow_mk (x := (gt x0 k9)) (hm.rdS0 r28)) (s_0.2 _ (gt_mem (show k9 < x0.length from by omega)))) (fun z29 => ?_)
  refine tyRow_sp ?_
  rintro v30 rfl
  refine WM_form (n := 0) rfl ?_
  rintro A31 c32 rfl m33
  refine wv (vix 2 k9 underlying35 type73) ?_
  refine WM_setEl (E := tyRow) (e := 73) (u := .agg #[.int .i64 ((laws_toRow_m (gt x0 k9)).Id), .slice A31 ((laws_toRow_m (gt x0 k9)).Values).length c32]) (k := k9) (p := p7) (n := x0.length) (xs := d10) (eis := [iOwn (tSl tInt 3) [.slice A31 ((laws_toRow_m (gt x0 k9)).Values).length c32] ((laws_toRow_m (gt x0 k9)).Values)]) (js := []) (yv := (laws_toRow_m (gt x0 k9))) (pk [1, 0]) (fun _ _ hs => (tyRow_join (x := (laws_toRow_m (gt x0 k9))) hs)) rfl type73 rfl (by omega) rfl rfl (Wd_none rfl) ?_
  refine WM_nil (QM_block_normal (QM_then (CM_region (wm ?_))))
  refine wv (vadN k9 1 (by omega)) ?_
  refine wa (WM_nil ?_)
  have hn35 := rng_next (R := (List DRow)) (body := F1) (k := k9) (s := d10) (s' := (d10.set k9 (laws_toRow_m (gt x0 k9)))) (show k9 < x0.length from by omega) (show laws_toRowS_b1 x0 k9 d10 = Sum.inr (d10.set k9 (laws_toRow_m (gt x0 k9))) from by unfold laws_toRowS_b1; exact rfl) hF12
  exact QM_round (k9 + 1, (d10.set k9 (laws_toRow_m (gt x0 k9))), ()) sl3 (fun W hm => hm) ⟨(by omega), hn35⟩ (rl (by omega))
 ·have g15 : (decide (((k9 : Nat) : Int) < ((x0.length : Nat) : Int))) = false := decide_eq_false (by omega)
  refine CM_condF rfl g15 ?_
  refine CM_exit (QM_then_exit (QM_then_exit ?_))
  have hE36 : R2 (x0.length - 0) 0 (List.replicate x0.length (⟨(0 : Int), []⟩ : DRow)) = Sum.inr d10 := rng_end hl14 hF12
  refine QM_block_hit (QM_then (sr (wm (wa (nt' (CM_ret ?_))))))
  refine QM_r1 rfl (RR_tmp rfl) (fun W hm => ⟨.slice (some ⟨p7, 0, none⟩) x0.length x0.length, ?_, ?_⟩)
  ·first | rw [(show laws_toRowS_m x0 = d10 from by unfold laws_toRowS_m; exact fin_inr hE36 (rfl))] | rfl
  ·rw [(show laws_toRowS_m x0 = d10 from by unfold laws_toRowS_m; exact fin_inr hE36 (rfl))]; exact hm

def laws_toActive_m (x0 : DActive) : DActive :=
 (⟨(laws_toQuery_m x0.Query), x0.Time, (laws_toIntS_m x0.Todo), x0.Age, x0.Sent, x0.Cap, (laws_toRowS_m x0.Rows)⟩ : DActive)
theorem cb163 : Cb Tryz.prog 163 := ⟨f163, _, func163, rfl, by decide⟩
theorem laws_toActive_c (w : World) (z0 : List Value) (x0 : DActive) (r_0 : tyLActive.rd w w.heap.size z0 x0) (s_0 : smActive 68719476736 x0) :
  Calls Tryz.prog 163 #[.agg z0.toArray] w fun e w' => ∃ v : List Value, e = .returned (.agg v.toArray) ∧ Mem w.heap.size w [iOwn tyActive v (laws_toActive_m x0)] w' := by
 obtain ⟨v1, v3, v5, v7, rfl, r2, r4, r6, r8⟩ := tyLActive_rd r_0
 have r13 := r2
 obtain ⟨m9, A10, c11, rfl, q12⟩ := r2
 have r18 := r4
 obtain ⟨m14, A15, c16, rfl, q17⟩ := r4
 have r23 := r6
 obtain ⟨m19, A20, c21, rfl, q22⟩ := r6
 have r28 := r8
 obtain ⟨m24, A25, c26, rfl, q27⟩ := r8
 have l29 : x0.Query.Conds.length ≤ 68719476736 := s_0.1.1
 have l30 : x0.Query.Out.length ≤ 68719476736 := s_0.1.2
 have l31 : x0.Todo.length ≤ 68719476736 := s_0.2.1
 have l32 : x0.Rows.length ≤ 68719476736 := s_0.2.2.1
 refine ce1 (L := [(0, .agg #[.int .i64 x0.Query.Id, .int .i64 x0.Query.Tenant, .slice A10 x0.Query.Conds.length c11, .slice A15 x0.Query.Out.length c16, .int .i64 x0.Time, .slice A20 x0.Todo.length c21, .int .i64 x0.Age, .int .i64 x0.Sent, .int .i64 x0.Cap, .slice A25 x0.Rows.length c26])]) (N := 29) func163 ?_
 refine sr ?_
 refine WM_box rfl (Wd_none rfl) (by decide) (fun p33 => ?_)
 refine WM_alloc type64 rfl (Wd_none rfl) (by decide) (fun p34 => ?_)
 refine nt' (sr ?_)
 refine WM_alloc type64 rfl (Wd_none rfl) (by decide) (fun p35 => ?_)
 refine nt' (sr ?_)
 refine wv (vf underlying171 rfl type87) ?_
 refine wv (fun W hm => rv_loadN (cs := [.int .i64 x0.Query.Id, .int .i64 x0.Query.Tenant, .slice A10 x0.Query.Conds.length c11, .slice A15 x0.Query.Out.length c16]) underlying87 type87 rfl rfl (hm.boxPart (n := 2) rfl rfl)) ?_
 refine wcs tyQuery (laws_toQuery_m x0.Query) (cl_fn cb53 rfl) (fun W hm => laws_toQuery_c W _ x0.Query (tyLQuery_mk (x := x0.Query) (hm.rdS0 r13) (hm.rdS0 r18)) s_0.1) (fun z36 => ?_)
 refine tyQuery_sp ?_
 rintro ⟨v37, v38⟩ rfl
 refine WM_form (n := 0) rfl ?_
 rintro A39 c40 rfl m41
 refine WM_form (n := 1) rfl ?_
 rintro A43 c44 rfl m45
 refine wv (vf underlying64 rfl type34) ?_
 let K1 : List Value := [.int .i64 0, .int .i64 0, .slice none 0 0, .slice none 0 0, .int .i64 0, .slice none 0 0, .int .i64 0, .int .i64 0, .int .i64 0, .slice none 0 0]
 let K2 : List Value := [.int .i64 x0.Query.Id, .int .i64 x0.Query.Tenant, .slice A10 x0.Query.Conds.length c11, .slice A15 x0.Query.Out.length c16, .int .i64 x0.Time, .slice A20 x0.Todo.length c21, .int .i64 x0.Age, .int .i64 x0.Sent, .int .i64 x0.Cap, .slice A25 x0.Rows.length c26]
 let I4 : It := iOwn (tSl tyCond 201) [.slice A39 ((laws_toQuery_m x0.Query).Conds).length c40] ((laws_toQuery_m x0.Query).Conds)
 let I5 : It := iOwn (tSl tInt 3) [.slice A43 ((laws_toQuery_m x0.Query).Out).length c44] ((laws_toQuery_m x0.Query).Out)
 refine sb 0 [.int .i64 ((laws_toQuery_m x0.Query).Id), .int .i64 ((laws_toQuery_m x0.Query).Tenant), .slice A39 ((laws_toQuery_m x0.Query).Conds).length c40, .slice A43 ((laws_toQuery_m x0.Query).Out).length c44, .int .i64 0, .slice none 0 0, .int .i64 0, .int .i64 0, .int .i64 0, .slice none 0 0] [I4, I5, iBox p34 64 K1, iBox p33 171 K2] (pk [2, 0, 1, 3, 4]) type34 ?_
 refine nt' (sr ?_)
 refine wv (vf underlying171 rfl type3) ?_
 refine wv (vl 4 4 underlying3) ?_
 refine wv (vf underlying64 rfl type3) ?_
 refine sb 4 [.int .i64 ((laws_toQuery_m x0.Query).Id), .int .i64 ((laws_toQuery_m x0.Query).Tenant), .slice A39 ((laws_toQuery_m x0.Query).Conds).length c40, .slice A43 ((laws_toQuery_m x0.Query).Out).length c44, .int .i64 x0.Time, .slice none 0 0, .int .i64 0, .int .i64 0, .int .i64 0, .slice none 0 0] [I4, I5, iBox p34 64 K1, iBox p33 171 K2] (fun W hm => hm) type3 ?_
 refine nt' (sr ?_)
 refine wv (vf underlying171 rfl type25) ?_
 refine wv (vl 4 5 underlying25) ?_
 refine wcl (tSl tInt 3) (laws_toIntS_m x0.Todo) (cl_fn cb48 rfl) (fun W hm => laws_toIntS_c W _ x0.Todo (hm.rdS0 r23) s_0.2.1) (fun z47 => ?_)
 refine WM_form (n := 0) rfl ?_
 rintro A48 c49 rfl m50
 refine wv (vf underlying64 rfl type25) ?_
 let I6 : It := iOwn (tSl tInt 3) [.slice A48 (laws_toIntS_m x0.Todo).length c49] (laws_toIntS_m x0.Todo)
 refine sb 5 [.int .i64 ((laws_toQuery_m x0.Query).Id), .int .i64 ((laws_toQuery_m x0.Query).Tenant), .slice A39 ((laws_toQuery_m x0.Query).Conds).length c40, .slice A43 ((laws_toQuery_m x0.Query).Out).length c44, .int .i64 x0.Time, .slice A48 (laws_toIntS_m x0.Todo).length c49, .int .i64 0, .int .i64 0, .int .i64 0, .slice none 0 0] [I6, I4, I5, iBox p34 64 K1, iBox p33 171 K2] (pk [1, 0, 2, 3, 4, 5]) type25 ?_
 refine nt' (sr ?_)
 refine wv (vf underlying171 rfl type3) ?_
 refine wv (vl 5 6 underlying3) ?_
 refine wv (vf underlying64 rfl type3) ?_
 refine sb 6 [.int .i64 ((laws_toQuery_m x0.Query).Id), .int .i64 ((laws_toQuery_m x0.Query).Tenant), .slice A39 ((laws_toQuery_m x0.Query).Conds).length c40, .slice A43 ((laws_toQuery_m x0.Query).Out).length c44, .int .i64 x0.Time, .slice A48 (laws_toIntS_m x0.Todo).length c49, .int .i64 x0.Age, .int .i64 0, .int .i64 0, .slice none 0 0] [I6, I4, I5, iBox p34 64 K1, iBox p33 171 K2] (fun W hm => hm) type3 ?_
 refine nt' (sr ?_)
 refine wv (vf underlying171 rfl type3) ?_
 refine wv (vl 5 7 underlying3) ?_
 refine wv (vf underlying64 rfl type3) ?_
 refine sb 7 [.int .i64 ((laws_toQuery_m x0.Query).Id), .int .i64 ((laws_toQuery_m x0.Query).Tenant), .slice A39 ((laws_toQuery_m x0.Query).Conds).length c40, .slice A43 ((laws_toQuery_m x0.Query).Out).length c44, .int .i64 x0.Time, .slice A48 (laws_toIntS_m x0.Todo).length c49, .int .i64 x0.Age, .int .i64 x0.Sent, .int .i64 0, .slice none 0 0] [I6, I4, I5, iBox p34 64 K1, iBox p33 171 K2] (fun W hm => hm) type3 ?_
 refine nt' (sr ?_)
 refine wv (vf underlying171 rfl type3) ?_
 refine wv (vl 5 8 underlying3) ?_
 refine wv (vf underlying64 rfl type3) ?_
 refine sb 8 [.int .i64 ((laws_toQuery_m x0.Query).Id), .int .i64 ((laws_toQuery_m x0.Query).Tenant), .slice A39 ((laws_toQuery_m x0.Query).Conds).length c40, .slice A43 ((laws_toQuery_m x0.Query).Out).length c44, .int .i64 x0.Time, .slice A48 (laws_toIntS_m x0.Todo).length c49, .int .i64 x0.Age, .int .i64 x0.Sent, .int .i64 x0.Cap, .slice none 0 0] [I6, I4, I5, iBox p34 64 K1, iBox p33 171 K2] (fun W hm => hm) type3 ?_
 refine nt' (sr ?_)
 refine wv (vf underlying171 rfl type169) ?_
 refine wv (vl 5 9 underlying169) ?_
 refine wcl (tSl tyRow 73) (laws_toRowS_m x0.Rows) (cl_fn cb216 rfl) (fun W hm => laws_toRowS_c W _ x0.Rows (hm.rdS0 r28) s_0.2.2) (fun z52 => ?_)
 refine WM_form (n := 0) rfl ?_
 rintro A53 c54 rfl m55
 refine wv (vf underlying64 rfl type35) ?_
 let K3 : List Value := [.int .i64 ((laws_toQuery_m x0.Query).Id), .int .i64 ((laws_toQuery_m x0.Query).Tenant), .slice A39 ((laws_toQuery_m x0.Query).Conds).length c40, .slice A43 ((laws_toQuery_m x0.Query).Out).length c44, .int .i64 x0.Time, .slice A48 (laws_toIntS_m x0.Todo).length c49, .int .i64 x0.Age, .int .i64 x0.Sent, .int .i64 x0.Cap, .slice A53 (laws_toRowS_m x0.Rows).length c54]
 let I7 : It := iOwn (tSl tyRow 73) [.slice A53 (laws_toRowS_m x0.Rows).length c54] (laws_toRowS_m x0.Rows)
 refine sb 9 K3 [I7, I6, I4, I5, iBox p34 64 K1, iBox p33 171 K2] (pk [1, 0, 2, 3, 4, 5, 6]) type35 ?_
 refine nt' (sr ?_)
 refine wv (fun W hm => rv_loadN (cs := K3) underlying64 type64 rfl rfl (hm.boxCells (n := 0) rfl)) ?_
 refine sb 0 K3 [iBox p35 64 K3, I7, I6, I4, I5, iBox p33 171 K2] (pk [5, 0, 1, 2, 3, 4, 6]) type64 ?_
 refine nt' (CM_ret ?_)
 refine QM_r1 rfl (RR_cell (n := 0) rfl rfl underlying64 type64 rfl) (fun W hm => ⟨K3, ?_, ?_⟩)
 ·first | rw [(show laws_toActive_m x0 = (⟨(laws_toQuery_m x0.Query), x0.Time, (laws_toIntS_m x0.Todo), x0.Age, x0.Sent, x0.Cap, (laws_toRowS_m x0.Rows)⟩ : DActive) from by unfold laws_toActive_m; exact rfl)] | rfl
 ·rw [(show laws_toActive_m x0 = (⟨(laws_toQuery_m x0.Query), x0.Time, (laws_toIntS_m x0.Todo), x0.Age, x0.Sent, x0.Cap, (laws_toRowS_m x0.Rows)⟩ : DActive) from by unfold laws_toActive_m; exact rfl)]; exact Mem.join (is := [I4, I5, I6, I7]) (js := []) (fun _ _ hs => tyActive_join (x := (⟨(laws_toQuery_m x0.Query), x0.Time, (laws_toIntS_m x0.Todo), x0.Age, x0.Sent, x0.Cap, (laws_toRowS_m x0.Rows)⟩ : DActive)) hs) (hm.pick [4, 5, 3, 2] (by decide))

def laws_toActiveS_b1 (x0 : (List DActive)) (k9 : Nat) (d10 : (List DActive)) : (List DActive) ⊕ ((List DActive)) :=
 Sum.inr (d10.set k9 (laws_toActive_m (gt x0 k9)))
def laws_toActiveS_m (x0 : (List DActive)) : (List DActive) :=
 Sum.elim id (fun (s : (List DActive)) => s) (rng (R := (List DActive)) (fun k (s : (List DActive)) => laws_toActiveS_b1 x0 k s) (x0.length - 0) 0 (List.replicate x0.length (⟨(⟨(0 : Int), (0 : Int), [], []⟩ : DQuery), (0 : Int), [], (0 : Int), (0 : Int), (0 : Int), []⟩ : DActive)))
theorem cb83 : Cb Tryz.prog 83 := ⟨f83, _, func83, rfl, by decide⟩
theorem laws_toActiveS_c (w : World) (z0 : Value) (x0 : (List DActive)) (r_0 : rdS tyLActive w w.heap.size z0 x0) (s_0 : (x0.length ≤ 68719476736 ∧ ∀ y ∈ x0, smActive 68719476736 y)) :
  Calls Tryz.prog 83 #[z0] w fun e w' => ∃ v : Value, e = .returned (v) ∧ Mem w.heap.size w [iOwn (tSl tyActive 64) [v] (laws_toActiveS_m x0)] w' := by
 have r5 := r_0
 obtain ⟨m1, A2, c3, rfl, q4⟩ := r_0
 have l6 : x0.length ≤ 68719476736 := s_0.1
 refine ce1 (L := [(0, .slice A2 x0.length c3)]) (N := 23) func83 ?_
 refine sr (wa (nt' (sr (wm ?_))))
 refine wv (vlen underlying26) ?_
 refine WM_make (E := tyActive) (n := x0.length) (x0 := (⟨(⟨(0 : Int), (0 : Int), [], []⟩ : DQuery), (0 : Int), [], (0 : Int), (0 : Int), (0 : Int), []⟩ : DActive)) underlying43 type64 rfl rfl rfl (fun _ => ⟨[], [], _, _, rfl, rfl, ⟨[], [], _, _, rfl, rfl, tInt_own, ⟨[], [], _, _, rfl, rfl, tInt_own, ⟨[], [], _, _, rfl, rfl, own_nil, own_nil⟩⟩⟩, ⟨[], [], _, _, rfl, rfl, tInt_own, ⟨[], [], _, _, rfl, rfl, own_nil, ⟨[], [], _, _, rfl, rfl, tInt_own, ⟨[], [], _, _, rfl, rfl, tInt_own, ⟨[], [], _, _, rfl, rfl, tInt_own, own_nil⟩⟩⟩⟩⟩⟩) rfl rfl (show x0.length * 144 ≤ 281474976710656 from by omega) (by omega) (Wd_none rfl) (by decide) (fun p7 => ?_)
 refine wa (nt' (CM_seq (sr (wa (nt' (CM_block ?_))))))
 let F1 := fun k (s : (List DActive)) => laws_toActiveS_b1 x0 k s
 let R2 := rng (R := (List DActive)) F1
 refine CM_loop (σ := Nat × ((List DActive)) × (Unit)) (fun s => [(0, .slice A2 x0.length c3), (3, .slice (some ⟨p7, 0, none⟩) x0.length x0.length), (4, .int .i64 ((s.1 : Nat) : Int))]) (fun s => [iOwn (tSl tyActive 64) [.slice (some ⟨p7, 0, none⟩) x0.length x0.length] s.2.1]) (fun s => s.1 ≤ x0.length ∧ R2 (x0.length - s.1) s.1 s.2.1 = R2 (x0.length - 0) 0 (List.replicate x0.length (⟨(⟨(0 : Int), (0 : Int), [], []⟩ : DQuery), (0 : Int), [], (0 : Int), (0 : Int), (0 : Int), []⟩ : DActive))) (fun s => x0.length - s.1) (0, (List.replicate x0.length (⟨(⟨(0 : Int), (0 : Int), [], []⟩ : DQuery), (0 : Int), [], (0 : Int), (0 : Int), (0 : Int), []⟩ : DActive)), ()) sl3 (fun W hm => hm) ⟨(by omega), rfl⟩ ?_
 rintro ⟨k9, d10, ⟨⟩⟩ H13
 obtain ⟨hk11, hF12⟩ : k9 ≤ x0.length ∧ R2 (x0.length - k9) k9 d10 = R2 (x0.length - 0) 0 (List.replicate x0.length (⟨(⟨(0 : Int), (0 : Int), [], []⟩ : DQuery), (0 : Int), [], (0 : Int), (0 : Int), (0 : Int), []⟩ : DActive)) := H13
 show CM Tryz.prog 23 _ _ _ _ [(0, .slice A2 x0.length c3), (3, .slice (some ⟨p7, 0, none⟩) x0.length x0.length), (4, .int .i64 ((k9 : Nat) : Int))] [iOwn (tSl tyActive 64) [.slice (some ⟨p7, 0, none⟩) x0.length x0.length] d10]
 refine CM_seq (sr (wm (wm ?_)))
 refine wv (vlen underlying26) ?_
 refine wv vlss ?_
 refine nt' ?_
 by_cases hl14 : k9 < x0.length
 ·have g15 : (decide (((k9 : Nat) : Int) < ((x0.length : Nat) : Int))) = true := decide_eq_true (by omega)
  refine CM_condT rfl g15 ?_
  refine CM_skip (QM_then (CM_seq (CM_block (CM_region (wm (wm (wm (wm ?_))))))))
  obtain ⟨a16, rfl, hb17, he18⟩ := q4 (by omega)
  refine wv (vix 10 k9 underlying26 type171) ?_
  obtain ⟨_, e28, hc19⟩ := he18 k9 _ (gt_some (show k9 < x0.length from by omega))
  obtain ⟨v20, v22, v24, v26, rfl, r21, r23, r25, r27⟩ := tyLActive_rd e28
  have l29 : ((gt x0 k9).Query.Conds).length ≤ 68719476736 := (s_0.2 _ (gt_mem (show k9 < x0.length from by omega))).1.1
  have l30 : ((gt x0 k9).Query.Out).length ≤ 68719476736 := (s_0.2 _ (gt_mem (show k9 < x0.length from by omega))).1.2
  have l31 : ((gt x0 k9).Todo).length ≤ 68719476736 := (s_0.2 _ (gt_mem (show k9 < x0.length from by omega))).2.1
  have l32 : ((gt x0 k9).Rows).length ≤ 68719476736 := (s_0.2 _ (gt_mem (show k9 < x0.length from by omega))).2.2.1
  have r37 := r21
  obtain ⟨m33, A34, c35, rfl, q36⟩ := r21
  have r42 := r23
  obtain ⟨m38, A39, c40, rfl, q41⟩ := r23
  have r47 := r25
  obtain ⟨m43, A44, c45, rfl, q46⟩ := r25
  have r52 := r27
  obtain ⟨m48, A49, c50, rfl, q51⟩ := r27
  refine wv (fun W hm => rv_loadN (cs := [.int .i64 ((gt x0 k9).Query.Id), .int .i64 ((gt x0 k9).Query.Tenant), .slice A34 ((gt x0 k9).Query.Conds).length c35, .slice A39 ((gt x0 k9).Query.Out).length c40, .int .i64 ((gt x0 k9).Time), .slice A44 ((gt x0 k9).Todo).length c45, .int .i64 ((gt x0 k9).Age), .int .i64 ((gt x0 k9).Sent), .int .i64 ((gt x0 k9).Cap), .slice A49 ((gt x0 k9).Rows).length c50]) underlying171 type171 rfl rfl (hm.elCells (show (a16.add (k9 * 10)).block < w.heap.size from by rw [add_block]; exact hb17.1) hc19)) ?_
  refine wcs tyActive (laws_toActive_m (gt x0 k9)) (cl_fn cb163 rfl) (fun W hm => laws_toActive_c W _ (gt x0 k9) (tyLActive_mk (x := (gt x0 k9)) (hm.rdS0 r37) (hm.rdS0 r42) (hm.rdS0 r47) (hm.rdS0 r52)) (s_0.2 _ (gt_mem (show k9 < x0.length from by omega)))) (fun z53 => ?_)
  refine tyActive_sp ?_
  rintro ⟨v54, v55, v56, v57⟩ rfl
  refine WM_form (n := 0) rfl ?_
  rintro A58 c59 rfl m60
  refine WM_form (n := 1) rfl ?_
  rintro A62 c63 rfl m64
  refine WM_form (n := 2) rfl ?_
  rintro A66 c67 rfl m68
  refine WM_form (n := 3) rfl ?_
  rintro A70 c71 rfl m72
  refine wv (vix 10 k9 underlying43 type64) ?_
  refine WM_setEl (E := tyActive) (e := 64) (u := .agg #[.int .i64 ((laws_toActive_m (gt x0 k9)).Query.Id), .int .i64 ((laws_toActive_m (gt x0 k9)).Query.Tenant), .slice A58 ((laws_toActive_m (gt x0 k9)).Query.Conds).length c59, .slice A62 ((laws_toActive_m (gt x0 k9)).Query.Out).length c63, .int .i64 ((laws_toActive_m (gt x0 k9)).Time), .slice A66 ((laws_toActive_m (gt x0 k9)).Todo).length c67, .int .i64 ((laws_toActive_m (gt x0 k9)).Age), .int .i64 ((laws_toActive_m (gt x0 k9)).Sent), .int .i64 ((laws_toActive_m (gt x0 k9)).Cap), .slice A70 ((laws_toActive_m (gt x0 k9)).Rows).length c71]) (k := k9) (p := p7) (n := x0.length) (xs := d10) (eis := [iOwn (tSl tyCond 201) [.slice A58 ((laws_toActive_m (gt x0 k9)).Query.Conds).length c59] ((laws_toActive_m (gt x0 k9)).Query.Conds), iOwn (tSl tInt 3) [.slice A62 ((laws_toActive_m (gt x0 k9)).Query.Out).length c63] ((laws_toActive_m (gt x0 k9)).Query.Out), iOwn (tSl tInt 3) [.slice A66 ((laws_toActive_m (gt x0 k9)).Todo).length c67] ((laws_toActive_m (gt x0 k9)).Todo), iOwn (tSl tyRow 73) [.slice A70 ((laws_toActive_m (gt x0 k9)).Rows).length c71] ((laws_toActive_m (gt x0 k9)).Rows)]) (js := []) (yv := (laws_toActive_m (gt x0 k9))) (pk [4, 0, 1, 2, 3]) (fun _ _ hs => (tyActive_join (x := (laws_toActive_m (gt x0 k9))) hs)) rfl type64 rfl (by omega) rfl rfl (Wd_none rfl) ?_
  refine WM_nil (QM_block_normal (QM_then (CM_region (wm ?_))))
  refine wv (vadN k9 1 (by omega)) ?_
  refine wa (WM_nil ?_)
  have hn74 := rng_next (R := (List DActive)) (body := F1) (k := k9) (s := d10) (s' := (d10.set k9 (laws_toActive_m (gt x0 k9)))) (show k9 < x0.length from by omega) (show laws_toActiveS_b1 x0 k9 d10 = Sum.inr (d10.set k9 (laws_toActive_m (gt x0 k9))) from by unfold laws_toActiveS_b1; exact rfl) hF12
  exact QM_round (k9 + 1, (d10.set k9 (laws_toActive_m (gt x0 k9))), ()) sl3 (fun W hm => hm) ⟨(by omega), hn74⟩ (rl (by omega))
 ·have g15 : (decide (((k9 : Nat) : Int) < ((x0.length : Nat) : Int))) = false := decide_eq_false (by omega)
  refine CM_condF rfl g15 ?_
  refine CM_exit (QM_then_exit (QM_then_exit ?_))
  have hE75 : R2 (x0.length - 0) 0 (List.replicate x0.length (⟨(⟨(0 : Int), (0 : Int), [], []⟩ : DQuery), (0 : Int), [], (0 : Int), (0 : Int), (0 : Int), []⟩ : DActive)) = Sum.inr d10 := rng_end hl14 hF12
  refine QM_block_hit (QM_then (sr (wm (wa (nt' (CM_ret ?_))))))
  refine QM_r1 rfl (RR_tmp rfl) (fun W hm => ⟨.slice (some ⟨p7, 0, none⟩) x0.length x0.length, ?_, ?_⟩)
  ·first | rw [(show laws_toActiveS_m x0 = d10 from by unfold laws_toActiveS_m; exact fin_inr hE75 (rfl))] | rfl
  ·rw [(show laws_toActiveS_m x0 = d10 from by unfold laws_toActiveS_m; exact fin_inr hE75 (rfl))]; exact hm

def laws_toFinished_m (x0 : DFinished) : DFinished :=
 (⟨(laws_toQuery_m x0.Query), x0.Time, x0.Steps, (laws_toRowS_m x0.Rows)⟩ : DFinished)
theorem cb164 : Cb Tryz.prog 164 := ⟨f164, _, func164, rfl, by decide⟩
theorem laws_toFinished_c (w : World) (z0 : List Value) (x0 : DFinished) (r_0 : tyLFinished.rd w w.heap.size z0 x0) (s_0 : smFinished 68719476736 x0) :
  Calls Tryz.prog 164 #[.agg z0.toArray] w fun e w' => ∃ v : List Value, e = .returned (.agg v.toArray) ∧ Mem w.heap.size w [iOwn tyFinished v (laws_toFinished_m x0)] w' := by
 obtain ⟨v1, v3, v5, rfl, r2, r4, r6⟩ := tyLFinished_rd r_0
 have r11 := r2
 obtain ⟨m7, A8, c9, rfl, q10⟩ := r2
 have r16 := r4
 obtain ⟨m12, A13, c14, rfl, q15⟩ := r4
 have r21 := r6
 obtain ⟨m17, A18, c19, rfl, q20⟩ := r6
 have l22 : x0.Query.Conds.length ≤ 68719476736 := s_0.1.1
 have l23 : x0.Query.Out.length ≤ 68719476736 := s_0.1.2
 have l24 : x0.Rows.length ≤ 68719476736 := s_0.2.1
 refine ce1 (L := [(0, .agg #[.int .i64 x0.Query.Id, .int .i64 x0.Query.Tenant, .slice A8 x0.Query.Conds.length c9, .slice A13 x0.Query.Out.length c14, .int .i64 x0.Time, .int .i64 x0.Steps, .slice A18 x0.Rows.length c19])]) (N := 19) func164 ?_
 refine sr ?_
 refine WM_box rfl (Wd_none rfl) (by decide) (fun p25 => ?_)
 refine WM_alloc type37 rfl (Wd_none rfl) (by decide) (fun p26 => ?_)
 refine nt' (sr ?_)
 refine WM_alloc type37 rfl (Wd_none rfl) (by decide) (fun p27 => ?_)
 refine nt' (sr ?_)
 refine wv (vf underlying174 rfl type87) ?_
 refine wv (fun W hm => rv_loadN (cs := [.int .i64 x0.Query.Id, .int .i64 x0.Query.Tenant, .slice A8 x0.Query.Conds.length c9, .slice A13 x0.Query.Out.length c14]) underlying87 type87 rfl rfl (hm.boxPart (n := 2) rfl rfl)) ?_
 refine wcs tyQuery (laws_toQuery_m x0.Query) (cl_fn cb53 rfl) (fun W hm => laws_toQuery_c W _ x0.Query (tyLQuery_mk (x := x0.Query) (hm.rdS0 r11) (hm.rdS0 r16)) s_0.1) (fun z28 => ?_)
 refine tyQuery_sp ?_
 rintro ⟨v29, v30⟩ rfl
 refine WM_form (n := 0) rfl ?_
 rintro A31 c32 rfl m33
 refine WM_form (n := 1) rfl ?_
 rintro A35 c36 rfl m37
 refine wv (vf underlying37 rfl type34) ?_
 let K1 : List Value := [.int .i64 0, .int .i64 0, .slice none 0 0, .slice none 0 0, .int .i64 0, .int .i64 0, .slice none 0 0]
 let K2 : List Value := [.int .i64 x0.Query.Id, .int .i64 x0.Query.Tenant, .slice A8 x0.Query.Conds.length c9, .slice A13 x0.Query.Out.length c14, .int .i64 x0.Time, .int .i64 x0.Steps, .slice A18 x0.Rows.length c19]
 let I4 : It := iOwn (tSl tyCond 201) [.slice A31 ((laws_toQuery_m x0.Query).Conds).length c32] ((laws_toQuery_m x0.Query).Conds)
 let I5 : It := iOwn (tSl tInt 3) [.slice A35 ((laws_toQuery_m x0.Query).Out).length c36] ((laws_toQuery_m x0.Query).Out)
 refine sb 0 [.int .i64 ((laws_toQuery_m x0.Query).Id), .int .i64 ((laws_toQuery_m x0.Query).Tenant), .slice A31 ((laws_toQuery_m x0.Query).Conds).length c32, .slice A35 ((laws_toQuery_m x0.Query).Out).length c36, .int .i64 0, .int .i64 0, .slice none 0 0] [I4, I5, iBox p26 37 K1, iBox p25 174 K2] (pk [2, 0, 1, 3, 4]) type34 ?_
 refine nt' (sr ?_)
 refine wv (vf underlying174 rfl type3) ?_
 refine wv (vl 4 4 underlying3) ?_
 refine wv (vf underlying37 rfl type3) ?_
 refine sb 4 [.int .i64 ((laws_toQuery_m x0.Query).Id), .int .i64 ((laws_toQuery_m x0.Query).Tenant), .slice A31 ((laws_toQuery_m x0.Query).Conds).length c32, .slice A35 ((laws_toQuery_m x0.Query).Out).length c36, .int .i64 x0.Time, .int .i64 0, .slice none 0 0] [I4, I5, iBox p26 37 K1, iBox p25 174 K2] (fun W hm => hm) type3 ?_
 refine nt' (sr ?_)
 refine wv (vf underlying174 rfl type3) ?_
 refine wv (vl 4 5 underlying3) ?_
 refine wv (vf underlying37 rfl type3) ?_
 refine sb 5 [.int .i64 ((laws_toQuery_m x0.Query).Id), .int .i64 ((laws_toQuery_m x0.Query).Tenant), .slice A31 ((laws_toQuery_m x0.Query).Conds).length c32, .slice A35 ((laws_toQuery_m x0.Query).Out).length c36, .int .i64 x0.Time, .int .i64 x0.Steps, .slice none 0 0] [I4, I5, iBox p26 37 K1, iBox p25 174 K2] (fun W hm => hm) type3 ?_
 refine nt' (sr ?_)
 refine wv (vf underlying174 rfl type169) ?_
 refine wv (vl 4 6 underlying169) ?_
 refine wcl (tSl tyRow 73) (laws_toRowS_m x0.Rows) (cl_fn cb216 rfl) (fun W hm => laws_toRowS_c W _ x0.Rows (hm.rdS0 r21) s_0.2) (fun z39 => ?_)
 refine WM_form (n := 0) rfl ?_
 rintro A40 c41 rfl m42
 refine wv (vf underlying37 rfl type35) ?_
 let K3 : List Value := [.int .i64 ((laws_toQuery_m x0.Query).Id), .int .i64 ((laws_toQuery_m x0.Query).Tenant), .slice A31 ((laws_toQuery_m x0.Query).Conds).length c32, .slice A35 ((laws_toQuery_m x0.Query).Out).length c36, .int .i64 x0.Time, .int .i64 x0.Steps, .slice A40 (laws_toRowS_m x0.Rows).length c41]
 let I6 : It := iOwn (tSl tyRow 73) [.slice A40 (laws_toRowS_m x0.Rows).length c41] (laws_toRowS_m x0.Rows)
 refine sb 6 K3 [I6, I4, I5, iBox p26 37 K1, iBox p25 174 K2] (pk [1, 0, 2, 3, 4, 5]) type35 ?_
 refine nt' (sr ?_)
 refine wv (fun W hm => rv_loadN (cs := K3) underlying37 type37 rfl rfl (hm.boxCells (n := 0) rfl)) ?_
 refine sb 0 K3 [iBox p27 37 K3, I6, I4, I5, iBox p25 174 K2] (pk [4, 0, 1, 2, 3, 5]) type37 ?_
 refine nt' (CM_ret ?_)
 refine QM_r1 rfl (RR_cell (n := 0) rfl rfl underlying37 type37 rfl) (fun W hm => ⟨K3, ?_, ?_⟩)
 ·first | rw [(show laws_toFinished_m x0 = (⟨(laws_toQuery_m x0.Query), x0.Time, x0.Steps, (laws_toRowS_m x0.Rows)⟩ : DFinished) from by unfold laws_toFinished_m; exact rfl)] | rfl
 ·rw [(show laws_toFinished_m x0 = (⟨(laws_toQuery_m x0.Query), x0.Time, x0.Steps, (laws_toRowS_m x0.Rows)⟩ : DFinished) from by unfold laws_toFinished_m; exact rfl)]; exact Mem.join (is := [I4, I5, I6]) (js := []) (fun _ _ hs => tyFinished_join (x := (⟨(laws_toQuery_m x0.Query), x0.Time, x0.Steps, (laws_toRowS_m x0.Rows)⟩ : DFinished)) hs) (hm.pick [3, 4, 2] (by decide))

def laws_toFinishedS_b1 (x0 : (List DFinished)) (k9 : Nat) (d10 : (List DFinished)) : (List DFinished) ⊕ ((List DFinished)) :=
 Sum.inr (d10.set k9 (laws_toFinished_m (gt x0 k9)))
def laws_toFinishedS_m (x0 : (List DFinished)) : (List DFinished) :=
 Sum.elim id (fun (s : (List DFinished)) => s) (rng (R := (List DFinished)) (fun k (s : (List DFinished)) => laws_toFinishedS_b1 x0 k s) (x0.length - 0) 0 (List.replicate x0.length (⟨(⟨(0 : Int), (0 : Int), [], []⟩ : DQuery), (0 : Int), (0 : Int), []⟩ : DFinished)))
theorem cb84 : Cb Tryz.prog 84 := ⟨f84, _, func84, rfl, by decide⟩
theorem laws_toFinishedS_c (w : World) (z0 : Value) (x0 : (List DFinished)) (r_0 : rdS tyLFinished w w.heap.size z0 x0) (s_0 : (x0.length ≤ 68719476736 ∧ ∀ y ∈ x0, smFinished 68719476736 y)) :
  Calls Tryz.prog 84 #[z0] w fun e w' => ∃ v : Value, e = .returned (v) ∧ Mem w.heap.size w [iOwn (tSl tyFinished 37) [v] (laws_toFinishedS_m x0)] w' := by
 have r5 := r_0
 obtain ⟨m1, A2, c3, rfl, q4⟩ := r_0
 have l6 : x0.length ≤ 68719476736 := s_0.1
 refine ce1 (L := [(0, .slice A2 x0.length c3)]) (N := 23) func84 ?_
 refine sr (wa (nt' (sr (wm ?_))))
 refine wv (vlen underlying27) ?_
 refine WM_make (E := tyFinished) (n := x0.length) (x0 := (⟨(⟨(0 : Int), (0 : Int), [], []⟩ : DQuery), (0 : Int), (0 : Int), []⟩ : DFinished)) underlying44 type37 rfl rfl rfl (fun _ => ⟨[], [], _, _, rfl, rfl, ⟨[], [], _, _, rfl, rfl, tInt_own, ⟨[], [], _, _, rfl, rfl, tInt_own, ⟨[], [], _, _, rfl, rfl, own_nil, own_nil⟩⟩⟩, ⟨[], [], _, _, rfl, rfl, tInt_own, ⟨[], [], _, _, rfl, rfl, tInt_own, own_nil⟩⟩⟩) rfl rfl (show x0.length * 104 ≤ 281474976710656 from by omega) (by omega) (Wd_none rfl) (by decide) (fun p7 => ?_)
 refine wa (nt' (CM_seq (sr (wa (nt' (CM_block ?_))))))
 let F1 := fun k (s : (List DFinished)) => laws_toFinishedS_b1 x0 k s
 let R2 := rng (R := (List DFinished)) F1
 refine CM_loop (σ := Nat × ((List DFinished)) × (Unit)) (fun s => [(0, .slice A2 x0.length c3), (3, .slice (some ⟨p7, 0, none⟩) x0.length x0.length), (4, .int .i64 ((s.1 : Nat) : Int))]) (fun s => [iOwn (tSl tyFinished 37) [.slice (some ⟨p7, 0, none⟩) x0.length x0.length] s.2.1]) (fun s => s.1 ≤ x0.length ∧ R2 (x0.length - s.1) s.1 s.2.1 = R2 (x0.length - 0) 0 (List.replicate x0.length (⟨(⟨(0 : Int), (0 : Int), [], []⟩ : DQuery), (0 : Int), (0 : Int), []⟩ : DFinished))) (fun s => x0.length - s.1) (0, (List.replicate x0.length (⟨(⟨(0 : Int), (0 : Int), [], []⟩ : DQuery), (0 : Int), (0 : Int), []⟩ : DFinished)), ()) sl3 (fun W hm => hm) ⟨(by omega), rfl⟩ ?_
 rintro ⟨k9, d10, ⟨⟩⟩ H13
 obtain ⟨hk11, hF12⟩ : k9 ≤ x0.length ∧ R2 (x0.length - k9) k9 d10 = R2 (x0.length - 0) 0 (List.replicate x0.length (⟨(⟨(0 : Int), (0 : Int), [], []⟩ : DQuery), (0 : Int), (0 : Int), []⟩ : DFinished)) := H13
 show CM Tryz.prog 23 _ _ _ _ [(0, .slice A2 x0.length c3), (3, .slice (some ⟨p7, 0, none⟩) x0.length x0.length), (4, .int .i64 ((k9 : Nat) : Int))] [iOwn (tSl tyFinished 37) [.slice (some ⟨p7, 0, none⟩) x0.length x0.length] d10]
 refine CM_seq (sr (wm (wm ?_)))
 refine wv (vlen underlying27) ?_
 refine wv vlss ?_
 refine nt' ?_
 by_cases hl14 : k9 < x0.length
 ·have g15 : (decide (((k9 : Nat) : Int) < ((x0.length : Nat) : Int))) = true := decide_eq_true (by omega)
  refine CM_condT rfl g15 ?_
  refine CM_skip (QM_then (CM_seq (CM_block (CM_region (wm (wm (wm (wm ?_))))))))
  obtain ⟨a16, rfl, hb17, he18⟩ := q4 (by omega)
  refine wv (vix 7 k9 underlying27 type174) ?_
  obtain ⟨_, e26, hc19⟩ := he18 k9 _ (gt_some (show k9 < x0.length from by omega))
  obtain ⟨v20, v22, v24, rfl, r21, r23, r25⟩ := tyLFinished_rd e26
  have l27 : ((gt x0 k9).Query.Conds).length ≤ 68719476736 := (s_0.2 _ (gt_mem (show k9 < x0.length from by omega))).1.1
  have l28 : ((gt x0 k9).Query.Out).length ≤ 68719476736 := (s_0.2 _ (gt_mem (show k9 < x0.length from by omega))).1.2
  have l29 : ((gt x0 k9).Rows).length ≤ 68719476736 := (s_0.2 _ (gt_mem (show k9 < x0.length from by omega))).2.1
  have r34 := r21
  obtain ⟨m30, A31, c32, rfl, q33⟩ := r21
  have r39 := r23
  obtain ⟨m35, A36, c37, rfl, q38⟩ := r23
  have r44 := r25
  obtain ⟨m40, A41, c42, rfl, q43⟩ := r25
  refine wv (fun W hm => rv_loadN (cs := [.int .i64 ((gt x0 k9).Query.Id), .int .i64 ((gt x0 k9).Query.Tenant), .slice A31 ((gt x0 k9).Query.Conds).length c32, .slice A36 ((gt x0 k9).Query.Out).length c37, .int .i64 ((gt x0 k9).Time), .int .i64 ((gt x0 k9).Steps), .slice A41 ((gt x0 k9).Rows).length c42]) underlying174 type174 rfl rfl (hm.elCells (show (a16.add (k9 * 7)).block < w.heap.size from by rw [add_block]; exact hb17.1) hc19)) ?_
  refine wcs tyFinished (laws_toFinished_m (gt x0 k9)) (cl_fn cb164 rfl) (fun W hm => laws_toFinished_c W _ (gt x0 k9) (tyLFinished_mk (x := (gt x0 k9)) (hm.rdS0 r34) (hm.rdS0 r39) (hm.rdS0 r44)) (s_0.2 _ (gt_mem (show k9 < x0.length from by omega)))) (fun z45 => ?_)
  refine tyFinished_sp ?_
  rintro ⟨v46, v47, v48⟩ rfl
  refine WM_form (n := 0) rfl ?_
  rintro A49 c50 rfl m51
  refine WM_form (n := 1) rfl ?_
  rintro A53 c54 rfl m55
  refine WM_form (n := 2) rfl ?_
  rintro A57 c58 rfl m59
  refine wv (vix 7 k9 underlying44 type37) ?_
  refine WM_setEl (E := tyFinished) (e := 37) (u := .agg #[.int .i64 ((laws_toFinished_m (gt x0 k9)).Query.Id), .int .i64 ((laws_toFinished_m (gt x0 k9)).Query.Tenant), .slice A49 ((laws_toFinished_m (gt x0 k9)).Query.Conds).length c50, .slice A53 ((laws_toFinished_m (gt x0 k9)).Query.Out).length c54, .int .i64 ((laws_toFinished_m (gt x0 k9)).Time), .int .i64 ((laws_toFinished_m (gt x0 k9)).Steps), .slice A57 ((laws_toFinished_m (gt x0 k9)).Rows).length c58]) (k := k9) (p := p7) (n := x0.length) (xs := d10) (eis := [iOwn (tSl tyCond 201) [.slice A49 ((laws_toFinished_m (gt x0 k9)).Query.Conds).length c50] ((laws_toFinished_m (gt x0 k9)).Query.Conds), iOwn (tSl tInt 3) [.slice A53 ((laws_toFinished_m (gt x0 k9)).Query.Out).length c54] ((laws_toFinished_m (gt x0 k9)).Query.Out), iOwn (tSl tyRow 73) [.slice A57 ((laws_toFinished_m (gt x0 k9)).Rows).length c58] ((laws_toFinished_m (gt x0 k9)).Rows)]) (js := []) (yv := (laws_toFinished_m (gt x0 k9))) (pk [3, 0, 1, 2]) (fun _ _ hs => (tyFinished_join (x := (laws_toFinished_m (gt x0 k9))) hs)) rfl type37 rfl (by omega) rfl rfl (Wd_none rfl) ?_
  refine WM_nil (QM_block_normal (QM_then (CM_region (wm ?_))))
  refine wv (vadN k9 1 (by omega)) ?_
  refine wa (WM_nil ?_)
  have hn61 := rng_next (R := (List DFinished)) (body := F1) (k := k9) (s := d10) (s' := (d10.set k9 (laws_toFinished_m (gt x0 k9)))) (show k9 < x0.length from by omega) (show laws_toFinishedS_b1 x0 k9 d10 = Sum.inr (d10.set k9 (laws_toFinished_m (gt x0 k9))) from by unfold laws_toFinishedS_b1; exact rfl) hF12
  exact QM_round (k9 + 1, (d10.set k9 (laws_toFinished_m (gt x0 k9))), ()) sl3 (fun W hm => hm) ⟨(by omega), hn61⟩ (rl (by omega))
 ·have g15 : (decide (((k9 : Nat) : Int) < ((x0.length : Nat) : Int))) = false := decide_eq_false (by omega)
  refine CM_condF rfl g15 ?_
  refine CM_exit (QM_then_exit (QM_then_exit ?_))
  have hE62 : R2 (x0.length - 0) 0 (List.replicate x0.length (⟨(⟨(0 : Int), (0 : Int), [], []⟩ : DQuery), (0 : Int), (0 : Int), []⟩ : DFinished)) = Sum.inr d10 := rng_end hl14 hF12
  refine QM_block_hit (QM_then (sr (wm (wa (nt' (CM_ret ?_))))))
  refine QM_r1 rfl (RR_tmp rfl) (fun W hm => ⟨.slice (some ⟨p7, 0, none⟩) x0.length x0.length, ?_, ?_⟩)
  ·first | rw [(show laws_toFinishedS_m x0 = d10 from by unfold laws_toFinishedS_m; exact fin_inr hE62 (rfl))] | rfl
  ·rw [(show laws_toFinishedS_m x0 = d10 from by unfold laws_toFinishedS_m; exact fin_inr hE62 (rfl))]; exact hm

def laws_toCharge_m (x0 : DCharge) : DCharge :=
 (⟨x0.Segment, x0.Base, (laws_toIntS_m x0.Ids), (laws_toIntS_m x0.Tenants), (laws_toIntS_m x0.Rows)⟩ : DCharge)
theorem cb165 : Cb Tryz.prog 165 := ⟨f165, _, func165, rfl, by decide⟩
theorem laws_toCharge_c (w : World) (z0 : List Value) (x0 : DCharge) (r_0 : tyLCharge.rd w w.heap.size z0 x0) (s_0 : smCharge 68719476736 x0) :
  Calls Tryz.prog 165 #[.agg z0.toArray] w fun e w' => ∃ v : List Value, e = .returned (.agg v.toArray) ∧ Mem w.heap.size w [iOwn tyCharge v (laws_toCharge_m x0)] w' := by
 obtain ⟨v1, v3, v5, rfl, r2, r4, r6⟩ := tyLCharge_rd r_0
 have r11 := r2
 obtain ⟨m7, A8, c9, rfl, q10⟩ := r2
 have r16 := r4
 obtain ⟨m12, A13, c14, rfl, q15⟩ := r4
 have r21 := r6
 obtain ⟨m17, A18, c19, rfl, q20⟩ := r6
 have l22 : x0.Ids.length ≤ 68719476736 := s_0.1
 have l23 : x0.Tenants.length ≤ 68719476736 := s_0.2.1
 have l24 : x0.Rows.length ≤ 68719476736 := s_0.2.2
 refine ce1 (L := [(0, .agg #[.int .i64 x0.Segment, .int .i64 x0.Base, .slice A8 x0.Ids.length c9, .slice A13 x0.Tenants.length c14, .slice A18 x0.Rows.length c19])]) (N := 23) func165 ?_
 refine sr ?_
 refine WM_box rfl (Wd_none rfl) (by decide) (fun p25 => ?_)
 refine WM_alloc type133 rfl (Wd_none rfl) (by decide) (fun p26 => ?_)
 refine nt' (sr ?_)
 refine WM_alloc type133 rfl (Wd_none rfl) (by decide) (fun p27 => ?_)
 refine nt' (sr ?_)
 refine wv (vf underlying176 rfl type3) ?_
 refine wv (vl 2 0 underlying3) ?_
 refine wv (vf underlying133 rfl type3) ?_
 let K1 : List Value := [.int .i64 0, .int .i64 0, .slice none 0 0, .slice none 0 0, .slice none 0 0]
 let K2 : List Value := [.int .i64 x0.Segment, .int .i64 x0.Base, .slice A8 x0.Ids.length c9, .slice A13 x0.Tenants.length c14, .slice A18 x0.Rows.length c19]
 refine sb 0 [.int .i64 x0.Segment, .int .i64 0, .slice none 0 0, .slice none 0 0, .slice none 0 0] [iBox p26 133 K1, iBox p25 176 K2] (fun W hm => hm) type3 ?_
 refine nt' (sr ?_)
 refine wv (vf underlying176 rfl type3) ?_
 refine wv (vl 2 1 underlying3) ?_
 refine wv (vf underlying133 rfl type3) ?_
 refine sb 1 [.int .i64 x0.Segment, .int .i64 x0.Base, .slice none 0 0, .slice none 0 0, .slice none 0 0] [iBox p26 133 K1, iBox p25 176 K2] (fun W hm => hm) type3 ?_
 refine nt' (sr ?_)
 refine wv (vf underlying176 rfl type25) ?_
 refine wv (vl 2 2 underlying25) ?_
 refine wcl (tSl tInt 3) (laws_toIntS_m x0.Ids) (cl_fn cb48 rfl) (fun W hm => laws_toIntS_c W _ x0.Ids (hm.rdS0 r11) s_0.1) (fun z28 => ?_)
 refine WM_form (n := 0) rfl ?_
 rintro A29 c30 rfl m31
 refine wv (vf underlying133 rfl type25) ?_
 let I4 : It := iOwn (tSl tInt 3) [.slice A29 (laws_toIntS_m x0.Ids).length c30] (laws_toIntS_m x0.Ids)
 refine sb 2 [.int .i64 x0.Segment, .int .i64 x0.Base, .slice A29 (laws_toIntS_m x0.Ids).length c30, .slice none 0 0, .slice none 0 0] [I4, iBox p26 133 K1, iBox p25 176 K2] (pk [1, 0, 2, 3]) type25 ?_
 refine nt' (sr ?_)
 refine wv (vf underlying176 rfl type25) ?_
 refine wv (vl 3 3 underlying25) ?_
 refine wcl (tSl tInt 3) (laws_toIntS_m x0.Tenants) (cl_fn cb48 rfl) (fun W hm => laws_toIntS_c W _ x0.Tenants (hm.rdS0 r16) s_0.2.1) (fun z33 => ?_)
 refine WM_form (n := 0) rfl ?_
 rintro A34 c35 rfl m36
 refine wv (vf underlying133 rfl type25) ?_
 let I5 : It := iOwn (tSl tInt 3) [.slice A34 (laws_toIntS_m x0.Tenants).length c35] (laws_toIntS_m x0.Tenants)
 refine sb 3 [.int .i64 x0.Segment, .int .i64 x0.Base, .slice A29 (laws_toIntS_m x0.Ids).length c30, .slice A34 (laws_toIntS_m x0.Tenants).length c35, .slice none 0 0] [I5, I4, iBox p26 133 K1, iBox p25 176 K2] (pk [1, 0, 2, 3, 4]) type25 ?_
 refine nt' (sr ?_)
 refine wv (vf underlying176 rfl type25) ?_
 refine wv (vl 4 4 underlying25) ?_
 refine wcl (tSl tInt 3) (laws_toIntS_m x0.Rows) (cl_fn cb48 rfl) (fun W hm => laws_toIntS_c W _ x0.Rows (hm.rdS0 r21) s_0.2.2) (fun z38 => ?_)
 refine WM_form (n := 0) rfl ?_
 rintro A39 c40 rfl m41
 refine wv (vf underlying133 rfl type25) ?_
 let K3 : List Value := [.int .i64 x0.Segment, .int .i64 x0.Base, .slice A29 (laws_toIntS_m x0.Ids).length c30, .slice A34 (laws_toIntS_m x0.Tenants).length c35, .slice A39 (laws_toIntS_m x0.Rows).length c40]
 let I6 : It := iOwn (tSl tInt 3) [.slice A39 (laws_toIntS_m x0.Rows).length c40] (laws_toIntS_m x0.Rows)
 refine sb 4 K3 [I6, I5, I4, iBox p26 133 K1, iBox p25 176 K2] (pk [1, 0, 2, 3, 4, 5]) type25 ?_
 refine nt' (sr ?_)
 refine wv (fun W hm => rv_loadN (cs := K3) underlying133 type133 rfl rfl (hm.boxCells (n := 0) rfl)) ?_
 refine sb 0 K3 [iBox p27 133 K3, I6, I5, I4, iBox p25 176 K2] (pk [4, 0, 1, 2, 3, 5]) type133 ?_
 refine nt' (CM_ret ?_)
 refine QM_r1 rfl (RR_cell (n := 0) rfl rfl underlying133 type133 rfl) (fun W hm => ⟨K3, ?_, ?_⟩)
 ·first | rw [(show laws_toCharge_m x0 = (⟨x0.Segment, x0.Base, (laws_toIntS_m x0.Ids), (laws_toIntS_m x0.Tenants), (laws_toIntS_m x0.Rows)⟩ : DCharge) from by unfold laws_toCharge_m; exact rfl)] | rfl
 ·rw [(show laws_toCharge_m x0 = (⟨x0.Segment, x0.Base, (laws_toIntS_m x0.Ids), (laws_toIntS_m x0.Tenants), (laws_toIntS_m x0.Rows)⟩ : DCharge) from by unfold laws_toCharge_m; exact rfl)]; exact Mem.join (is := [I4, I5, I6]) (js := []) (fun _ _ hs => tyCharge_join (x := (⟨x0.Segment, x0.Base, (laws_toIntS_m x0.Ids), (laws_toIntS_m x0.Tenants), (laws_toIntS_m x0.Rows)⟩ : DCharge)) hs) (hm.pick [4, 3, 2] (by decide))

def laws_toChargeS_b1 (x0 : (List DCharge)) (k9 : Nat) (d10 : (List DCharge)) : (List DCharge) ⊕ ((List DCharge)) :=
 Sum.inr (d10.set k9 (laws_toCharge_m (gt x0 k9)))
def laws_toChargeS_m (x0 : (List DCharge)) : (List DCharge) :=
 Sum.elim id (fun (s : (List DCharge)) => s) (rng (R := (List DCharge)) (fun k (s : (List DCharge)) => laws_toChargeS_b1 x0 k s) (x0.length - 0) 0 (List.replicate x0.length (⟨(0 : Int), (0 : Int), [], [], []⟩ : DCharge)))
theorem cb85 : Cb Tryz.prog 85 := ⟨f85, _, func85, rfl, by decide⟩
theorem laws_toChargeS_c (w : World) (z0 : Value) (x0 : (List DCharge)) (r_0 : rdS tyLCharge w w.heap.size z0 x0) (s_0 : (x0.length ≤ 68719476736 ∧ ∀ y ∈ x0, smCharge 68719476736 y)) :
  Calls Tryz.prog 85 #[z0] w fun e w' => ∃ v : Value, e = .returned (v) ∧ Mem w.heap.size w [iOwn (tSl tyCharge 133) [v] (laws_toChargeS_m x0)] w' := by
 have r5 := r_0
 obtain ⟨m1, A2, c3, rfl, q4⟩ := r_0
 have l6 : x0.length ≤ 68719476736 := s_0.1
 refine ce1 (L := [(0, .slice A2 x0.length c3)]) (N := 23) func85 ?_
 refine sr (wa (nt' (sr (wm ?_))))
 refine wv (vlen underlying28) ?_
 refine WM_make (E := tyCharge) (n := x0.length) (x0 := (⟨(0 : Int), (0 : Int), [], [], []⟩ : DCharge)) underlying45 type133 rfl rfl rfl (fun _ => ⟨[], [], _, _, rfl, rfl, tInt_own, ⟨[], [], _, _, rfl, rfl, tInt_own, ⟨[], [], _, _, rfl, rfl, own_nil, ⟨[], [], _, _, rfl, rfl, own_nil, own_nil⟩⟩⟩⟩) rfl rfl (show x0.length * 88 ≤ 281474976710656 from by omega) (by omega) (Wd_none rfl) (by decide) (fun p7 => ?_)
 refine wa (nt' (CM_seq (sr (wa (nt' (CM_block ?_))))))
 let F1 := fun k (s : (List DCharge)) => laws_toChargeS_b1 x0 k s
 let R2 := rng (R := (List DCharge)) F1
 refine CM_loop (σ := Nat × ((List DCharge)) × (Unit)) (fun s => [(0, .slice A2 x0.length c3), (3, .slice (some ⟨p7, 0, none⟩) x0.length x0.length), (4, .int .i64 ((s.1 : Nat) : Int))]) (fun s => [iOwn (tSl tyCharge 133) [.slice (some ⟨p7, 0, none⟩) x0.length x0.length] s.2.1]) (fun s => s.1 ≤ x0.length ∧ R2 (x0.length - s.1) s.1 s.2.1 = R2 (x0.length - 0) 0 (List.replicate x0.length (⟨(0 : Int), (0 : Int), [], [], []⟩ : DCharge))) (fun s => x0.length - s.1) (0, (List.replicate x0.length (⟨(0 : Int), (0 : Int), [], [], []⟩ : DCharge)), ()) sl3 (fun W hm => hm) ⟨(by omega), rfl⟩ ?_
 rintro ⟨k9, d10, ⟨⟩⟩ H13
 obtain ⟨hk11, hF12⟩ : k9 ≤ x0.length ∧ R2 (x0.length - k9) k9 d10 = R2 (x0.length - 0) 0 (List.replicate x0.length (⟨(0 : Int), (0 : Int), [], [], []⟩ : DCharge)) := H13
 show CM Tryz.prog 23 _ _ _ _ [(0, .slice A2 x0.length c3), (3, .slice (some ⟨p7, 0, none⟩) x0.length x0.length), (4, .int .i64 ((k9 : Nat) : Int))] [iOwn (tSl tyCharge 133) [.slice (some ⟨p7, 0, none⟩) x0.length x0.length] d10]
 refine CM_seq (sr (wm (wm ?_)))
 refine wv (vlen underlying28) ?_
 refine wv vlss ?_
 refine nt' ?_
 by_cases hl14 : k9 < x0.length
 ·have g15 : (decide (((k9 : Nat) : Int) < ((x0.length : Nat) : Int))) = true := decide_eq_true (by omega)
  refine CM_condT rfl g15 ?_
  refine CM_skip (QM_then (CM_seq (CM_block (CM_region (wm (wm (wm (wm ?_))))))))
  obtain ⟨a16, rfl, hb17, he18⟩ := q4 (by omega)
  refine wv (vix 5 k9 underlying28 type176) ?_
  obtain ⟨_, e26, hc19⟩ := he18 k9 _ (gt_some (show k9 < x0.length from by omega))
  obtain ⟨v20, v22, v24, rfl, r21, r23, r25⟩ := tyLCharge_rd e26
  have l27 : ((gt x0 k9).Ids).length ≤ 68719476736 := (s_0.2 _ (gt_mem (show k9 < x0.length from by omega))).1
  have l28 : ((gt x0 k9).Tenants).length ≤ 68719476736 := (s_0.2 _ (gt_mem (show k9 < x0.length from by omega))).2.1
  have l29 : ((gt x0 k9).Rows).length ≤ 68719476736 := (s_0.2 _ (gt_mem (show k9 < x0.length from by omega))).2.2
  have r34 := r21
  obtain ⟨m30, A31, c32, rfl, q33⟩ := r21
  have r39 := r23
  obtain ⟨m35, A36, c37, rfl, q38⟩ := r23
  have r44 := r25
  obtain ⟨m40, A41, c42, rfl, q43⟩ := r25
  refine wv (fun W hm => rv_loadN (cs := [.int .i64 ((gt x0 k9).Segment), .int .i64 ((gt x0 k9).Base), .slice A31 ((gt x0 k9).Ids).length c32, .slice A36 ((gt x0 k9).Tenants).length c37, .slice A41 ((gt x0 k9).Rows).length c42]) underlying176 type176 rfl rfl (hm.elCells (show (a16.add (k9 * 5)).block < w.heap.size from by rw [add_block]; exact hb17.1) hc19)) ?_
  refine wcs tyCharge (laws_toCharge_m (gt x0 k9)) (cl_fn cb165 rfl) (fun W hm => laws_toCharge_c W _ (gt x0 k9) (tyLCharge_mk (x := (gt x0 k9)) (hm.rdS0 r34) (hm.rdS0 r39) (hm.rdS0 r44)) (s_0.2 _ (gt_mem (show k9 < x0.length from by omega)))) (fun z45 => ?_)
  refine tyCharge_sp ?_
  rintro ⟨v46, v47, v48⟩ rfl
  refine WM_form (n := 0) rfl ?_
  rintro A49 c50 rfl m51
  refine WM_form (n := 1) rfl ?_
  rintro A53 c54 rfl m55
  refine WM_form (n := 2) rfl ?_
  rintro A57 c58 rfl m59
  refine wv (vix 5 k9 underlying45 type133) ?_
  refine WM_setEl (E := tyCharge) (e := 133) (u := .agg #[.int .i64 ((laws_toCharge_m (gt x0 k9)).Segment), .int .i64 ((laws_toCharge_m (gt x0 k9)).Base), .slice A49 ((laws_toCharge_m (gt x0 k9)).Ids).length c50, .slice A53 ((laws_toCharge_m (gt x0 k9)).Tenants).length c54, .slice A57 ((laws_toCharge_m (gt x0 k9)).Rows).length c58]) (k := k9) (p := p7) (n := x0.length) (xs := d10) (eis := [iOwn (tSl tInt 3) [.slice A49 ((laws_toCharge_m (gt x0 k9)).Ids).length c50] ((laws_toCharge_m (gt x0 k9)).Ids), iOwn (tSl tInt 3) [.slice A53 ((laws_toCharge_m (gt x0 k9)).Tenants).length c54] ((laws_toCharge_m (gt x0 k9)).Tenants), iOwn (tSl tInt 3) [.slice A57 ((laws_toCharge_m (gt x0 k9)).Rows).length c58] ((laws_toCharge_m (gt x0 k9)).Rows)]) (js := []) (yv := (laws_toCharge_m (gt x0 k9))) (pk [3, 0, 1, 2]) (fun _ _ hs => (tyCharge_join (x := (laws_toCharge_m (gt x0 k9))) hs)) rfl type133 rfl (by omega) rfl rfl (Wd_none rfl) ?_
  refine WM_nil (QM_block_normal (QM_then (CM_region (wm ?_))))
  refine wv (vadN k9 1 (by omega)) ?_
  refine wa (WM_nil ?_)
  have hn61 := rng_next (R := (List DCharge)) (body := F1) (k := k9) (s := d10) (s' := (d10.set k9 (laws_toCharge_m (gt x0 k9)))) (show k9 < x0.length from by omega) (show laws_toChargeS_b1 x0 k9 d10 = Sum.inr (d10.set k9 (laws_toCharge_m (gt x0 k9))) from by unfold laws_toChargeS_b1; exact rfl) hF12
  exact QM_round (k9 + 1, (d10.set k9 (laws_toCharge_m (gt x0 k9))), ()) sl3 (fun W hm => hm) ⟨(by omega), hn61⟩ (rl (by omega))
 ·have g15 : (decide (((k9 : Nat) : Int) < ((x0.length : Nat) : Int))) = false := decide_eq_false (by omega)
  refine CM_condF rfl g15 ?_
  refine CM_exit (QM_then_exit (QM_then_exit ?_))
  have hE62 : R2 (x0.length - 0) 0 (List.replicate x0.length (⟨(0 : Int), (0 : Int), [], [], []⟩ : DCharge)) = Sum.inr d10 := rng_end hl14 hF12
  refine QM_block_hit (QM_then (sr (wm (wa (nt' (CM_ret ?_))))))
  refine QM_r1 rfl (RR_tmp rfl) (fun W hm => ⟨.slice (some ⟨p7, 0, none⟩) x0.length x0.length, ?_, ?_⟩)
  ·first | rw [(show laws_toChargeS_m x0 = d10 from by unfold laws_toChargeS_m; exact fin_inr hE62 (rfl))] | rfl
  ·rw [(show laws_toChargeS_m x0 = d10 from by unfold laws_toChargeS_m; exact fin_inr hE62 (rfl))]; exact hm

def laws_toEngine_m (x0 : DEngine) : DEngine :=
 (⟨(laws_toStore_m x0.Store), x0.Cursor, (laws_toIntS_m x0.Order), (laws_toActiveS_m x0.Active), (laws_toFinishedS_m x0.Done), (laws_toChargeS_m x0.Ledger), x0.Steps⟩ : DEngine)
theorem cb16 : Cb Tryz.prog 16 := ⟨f16, _, func16, rfl, by decide⟩
theorem laws_toEngine_c (w : World) (z0 : List Value) (x0 : DEngine) (r_0 : tyLEngine.rd w w.heap.size z0 x0) (s_0 : smEngine 68719476736 x0) :
  Calls Tryz.prog 16 #[.agg z0.toArray] w fun e w' => ∃ v : List Value, e = .returned (.agg v.toArray) ∧ Mem w.heap.size w [iOwn tyEngine v (laws_toEngine_m x0)] w' := by
 obtain ⟨v1, v3, v5, v7, v9, rfl, r2, r4, r6, r8, r10⟩ := tyLEngine_rd r_0
 have r15 := r2
 obtain ⟨m11, A12, c13, rfl, q14⟩ := r2
 have r20 := r4
 obtain ⟨m16, A17, c18, rfl, q19⟩ := r4
 have r25 := r6
 obtain ⟨m21, A22, c23, rfl, q24⟩ := r6
 have r30 := r8
 obtain ⟨m26, A27, c28, rfl, q29⟩ := r8
 have r35 := r10
 obtain ⟨m31, A32, c33, rfl, q34⟩ := r10
 have l36 : x0.Store.Segments.length ≤ 68719476736 := s_0.1.1
 have l37 : x0.Order.length ≤ 68719476736 := s_0.2.1
 have l38 : x0.Active.length ≤ 68719476736 := s_0.2.2.1.1
 have l39 : x0.Done.length ≤ 68719476736 := s_0.2.2.2.1.1
 have l40 : x0.Ledger.length ≤ 68719476736 := s_0.2.2.2.2.1
 refine ce1 (L := [(0, .agg #[.slice A12 x0.Store.Segments.length c13, .int .i64 x0.Store.Now, .int .i64 x0.Cursor, .slice A17 x0.Order.length c18, .slice A22 x0.Active.length c23, .slice A27 x0.Done.length c28, .slice A32 x0.Ledger.length c33, .int .i64 x0.Steps])]) (N := 31) func16 ?_
 refine sr ?_
 refine WM_box rfl (Wd_none rfl) (by decide) (fun p41 => ?_)
 refine WM_alloc type47 rfl (Wd_none rfl) (by decide) (fun p42 => ?_)
 refine nt' (sr ?_)
 refine WM_alloc type47 rfl (Wd_none rfl) (by decide) (fun p43 => ?_)
 refine nt' (sr ?_)
 refine wv (vf underlying30 rfl type24) ?_
 refine wv (fun W hm => rv_loadN (cs := [.slice A12 x0.Store.Segments.length c13, .int .i64 x0.Store.Now]) underlying24 type24 rfl rfl (hm.boxPart (n := 2) rfl rfl)) ?_
 refine wcs tyStore (laws_toStore_m x0.Store) (cl_fn cb82 rfl) (fun W hm => laws_toStore_c W _ x0.Store (tyLStore_mk (x := x0.Store) (hm.rdS0 r15)) s_0.1) (fun z44 => ?_)
 refine tyStore_sp ?_
 rintro v45 rfl
 refine WM_form (n := 0) rfl ?_
 rintro A46 c47 rfl m48
 refine wv (vf underlying47 rfl type42) ?_
 let K1 : List Value := [.slice A46 ((laws_toStore_m x0.Store).Segments).length c47]
 let K2 : List Value := [.slice none 0 0, .int .i64 0, .int .i64 0, .slice none 0 0, .slice none 0 0, .slice none 0 0, .slice none 0 0, .int .i64 0]
 let K3 : List Value := [.slice A12 x0.Store.Segments.length c13, .int .i64 x0.Store.Now, .int .i64 x0.Cursor, .slice A17 x0.Order.length c18, .slice A22 x0.Active.length c23, .slice A27 x0.Done.length c28, .slice A32 x0.Ledger.length c33, .int .i64 x0.Steps]
 let I5 : It := iOwn (tSl (tSl tyVersion 191) 131) K1 ((laws_toStore_m x0.Store).Segments)
 refine sb 0 [.slice A46 ((laws_toStore_m x0.Store).Segments).length c47, .int .i64 ((laws_toStore_m x0.Store).Now), .int .i64 0, .slice none 0 0, .slice none 0 0, .slice none 0 0, .slice none 0 0, .int .i64 0] [I5, iBox p42 47 K2, iBox p41 30 K3] (pk [1, 0, 2, 3]) type42 ?_
 refine nt' (sr ?_)
 refine wv (vf underlying30 rfl type3) ?_
 refine wv (vl 3 2 underlying3) ?_
 refine wv (vf underlying47 rfl type3) ?_
 refine sb 2 [.slice A46 ((laws_toStore_m x0.Store).Segments).length c47, .int .i64 ((laws_toStore_m x0.Store).Now), .int .i64 x0.Cursor, .slice none 0 0, .slice none 0 0, .slice none 0 0, .slice none 0 0, .int .i64 0] [I5, iBox p42 47 K2, iBox p41 30 K3] (fun W hm => hm) type3 ?_
 refine nt' (sr ?_)
 refine wv (vf underlying30 rfl type25) ?_
 refine wv (vl 3 3 underlying25) ?_
 refine wcl (tSl tInt 3) (laws_toIntS_m x0.Order) (cl_fn cb48 rfl) (fun W hm => laws_toIntS_c W _ x0.Order (hm.rdS0 r20) s_0.2.1) (fun z50 => ?_)
 refine WM_form (n := 0) rfl ?_
 rintro A51 c52 rfl m53
 refine wv (vf underlying47 rfl type25) ?_
 let I6 : It := iOwn (tSl tInt 3) [.slice A51 (laws_toIntS_m x0.Order).length c52] (laws_toIntS_m x0.Order)
 refine sb 3 [.slice A46 ((laws_toStore_m x0.Store).Segments).length c47, .int .i64 ((laws_toStore_m x0.Store).Now), .int .i64 x0.Cursor, .slice A51 (laws_toIntS_m x0.Order).length c52, .slice none 0 0, .slice none 0 0, .slice none 0 0, .int .i64 0] [I6, I5, iBox p42 47 K2, iBox p41 30 K3] (pk [1, 0, 2, 3, 4]) type25 ?_
 refine nt' (sr ?_)
 refine wv (vf underlying30 rfl type26) ?_
 refine wv (vl 4 4 underlying26) ?_
 refine wcl (tSl tyActive 64) (laws_toActiveS_m x0.Active) (cl_fn cb83 rfl) (fun W hm => laws_toActiveS_c W _ x0.Active (hm.rdS0 r25) s_0.2.2.1) (fun z55 => ?_)
 refine WM_form (n := 0) rfl ?_
 rintro A56 c57 rfl m58
 refine wv (vf underlying47 rfl type43) ?_
 let I7 : It := iOwn (tSl tyActive 64) [.slice A56 (laws_toActiveS_m x0.Active).length c57] (laws_toActiveS_m x0.Active)
 refine sb 4 [.slice A46 ((laws_toStore_m x0.Store).Segments).length c47, .int .i64 ((laws_toStore_m x0.Store).Now), .int .i64 x0.Cursor, .slice A51 (laws_toIntS_m x0.Order).length c52, .slice A56 (laws_toActiveS_m x0.Active).length c57, .slice none 0 0, .slice none 0 0, .int .i64 0] [I7, I6, I5, iBox p42 47 K2, iBox p41 30 K3] (pk [1, 0, 2, 3, 4, 5]) type43 ?_
 refine nt' (sr ?_)
 refine wv (vf underlying30 rfl type27) ?_
 refine wv (vl 5 5 underlying27) ?_
 refine wcl (tSl tyFinished 37) (laws_toFinishedS_m x0.Done) (cl_fn cb84 rfl) (fun W hm => laws_toFinishedS_c W _ x0.Done (hm.rdS0 r30) s_0.2.2.2.1) (fun z60 => ?_)
 refine WM_form (n := 0) rfl ?_
 rintro A61 c62 rfl m63
 refine wv (vf underlying47 rfl type44) ?_
 let I8 : It := iOwn (tSl tyFinished 37) [.slice A61 (laws_toFinishedS_m x0.Done).length c62] (laws_toFinishedS_m x0.Done)
 refine sb 5 [.slice A46 ((laws_toStore_m x0.Store).Segments).length c47, .int .i64 ((laws_toStore_m x0.Store).Now), .int .i64 x0.Cursor, .slice A51 (laws_toIntS_m x0.Order).length c52, .slice A56 (laws_toActiveS_m x0.Active).length c57, .slice A61 (laws_toFinishedS_m x0.Done).length c62, .slice none 0 0, .int .i64 0] [I8, I7, I6, I5, iBox p42 47 K2, iBox p41 30 K3] (pk [1, 0, 2, 3, 4, 5, 6]) type44 ?_
 refine nt' (sr ?_)
 refine wv (vf underlying30 rfl type28) ?_
 refine wv (vl 6 6 underlying28) ?_
 refine wcl (tSl tyCharge 133) (laws_toChargeS_m x0.Ledger) (cl_fn cb85 rfl) (fun W hm => laws_toChargeS_c W _ x0.Ledger (hm.rdS0 r35) s_0.2.2.2.2) (fun z65 => ?_)
 refine WM_form (n := 0) rfl ?_
 rintro A66 c67 rfl m68
 refine wv (vf underlying47 rfl type45) ?_
 let I9 : It := iOwn (tSl tyCharge 133) [.slice A66 (laws_toChargeS_m x0.Ledger).length c67] (laws_toChargeS_m x0.Ledger)
 refine sb 6 [.slice A46 ((laws_toStore_m x0.Store).Segments).length c47, .int .i64 ((laws_toStore_m x0.Store).Now), .int .i64 x0.Cursor, .slice A51 (laws_toIntS_m x0.Order).length c52, .slice A56 (laws_toActiveS_m x0.Active).length c57, .slice A61 (laws_toFinishedS_m x0.Done).length c62, .slice A66 (laws_toChargeS_m x0.Ledger).length c67, .int .i64 0] [I9, I8, I7, I6, I5, iBox p42 47 K2, iBox p41 30 K3] (pk [1, 0, 2, 3, 4, 5, 6, 7]) type45 ?_
 refine nt' (sr ?_)
 refine wv (vf underlying30 rfl type3) ?_
 refine wv (vl 7 7 underlying3) ?_
 refine wv (vf underlying47 rfl type3) ?_
 let K4 : List Value := [.slice A46 ((laws_toStore_m x0.Store).Segments).length c47, .int .i64 ((laws_toStore_m x0.Store).Now), .int .i64 x0.Cursor, .slice A51 (laws_toIntS_m x0.Order).length c52, .slice A56 (laws_toActiveS_m x0.Active).length c57, .slice A61 (laws_toFinishedS_m x0.Done).length c62, .slice A66 (laws_toChargeS_m x0.Ledger).length c67, .int .i64 x0.Steps]
 refine sb 7 K4 [I9, I8, I7, I6, I5, iBox p42 47 K2, iBox p41 30 K3] (fun W hm => hm) type3 ?_
 refine nt' (sr ?_)
 refine wv (fun W hm => rv_loadN (cs := K4) underlying47 type47 rfl rfl (hm.boxCells (n := 0) rfl)) ?_
 refine sb 0 K4 [iBox p43 47 K4, I9, I8, I7, I6, I5, iBox p41 30 K3] (pk [6, 0, 1, 2, 3, 4, 5, 7]) type47 ?_
 refine nt' (CM_ret ?_)
 refine QM_r1 rfl (RR_cell (n := 0) rfl rfl underlying47 type47 rfl) (fun W hm => ⟨K4, ?_, ?_⟩)
 ·first | rw [(show laws_toEngine_m x0 = (⟨(laws_toStore_m x0.Store), x0.Cursor, (laws_toIntS_m x0.Order), (laws_toActiveS_m x0.Active), (laws_toFinishedS_m x0.Done), (laws_toChargeS_m x0.Ledger), x0.Steps⟩ : DEngine) from by unfold laws_toEngine_m; exact rfl)] | rfl
 ·rw [(show laws_toEngine_m x0 = (⟨(laws_toStore_m x0.Store), x0.Cursor, (laws_toIntS_m x0.Order), (laws_toActiveS_m x0.Active), (laws_toFinishedS_m x0.Done), (laws_toChargeS_m x0.Ledger), x0.Steps⟩ : DEngine) from by unfold laws_toEngine_m; exact rfl)]; exact Mem.join (is := [I5, I6, I7, I8, I9]) (js := []) (fun _ _ hs => tyEngine_join (x := (⟨(laws_toStore_m x0.Store), x0.Cursor, (laws_toIntS_m x0.Order), (laws_toActiveS_m x0.Active), (laws_toFinishedS_m x0.Done), (laws_toChargeS_m x0.Ledger), x0.Steps⟩ : DEngine)) hs) (hm.pick [6, 5, 4, 3, 2] (by decide))

def spec_l1In_m (x0 : Int) (x1 : Int) (x2 : Int) : Bool :=
 cond (decide (x1 ≤ x0)) (decide (x0 ≤ x2)) false
theorem cb128 : Cb Tryz.prog 128 := ⟨f128, _, func128, rfl, by decide⟩
theorem spec_l1In_c (w : World) (x0 : Int) (x1 : Int) (x2 : Int) :
  Calls Tryz.prog 128 #[.int .i64 x0, .int .i64 x1, .int .i64 x2] w fun e w' => e = .returned (.bool (spec_l1In_m x0 x1 x2)) ∧ Below w.heap.size w w' := by
 refine ce3 (L := [(0, .int .i64 x0), (1, .int .i64 x1), (2, .int .i64 x2)]) (N := 15) func128 ?_
 refine sr (wa (nt' (sr (wm (wm ?_)))))
 refine wv (fun W hm => rv_geq rfl rfl) ?_
 refine wm ?_
 by_cases h1 : x1 ≤ x0
 ·have g2 : (decide (x1 ≤ x0)) = true := decide_eq_true h1
  refine wg vmv g2 ?_
  refine wg vmv g2 ?_
  refine wg (fun W hm => rv_leq rfl rfl) g2 ?_
  refine wv (vpT g2) ?_
  refine wa (nt' (CM_ret ?_))
  exact rtb (h := by unfold spec_l1In_m; exact cond_t g2 (rfl))
 ·have g2 : (decide (x1 ≤ x0)) = false := decide_eq_false h1
  refine ws g2 ?_
  refine ws g2 ?_
  refine ws g2 ?_
  refine wv (vpF g2) ?_
  refine wa (nt' (CM_ret ?_))
  exact rtb (h := by unfold spec_l1In_m; exact cond_f g2 (rfl))

theorem spec_l1In_fact {x a b : Int} (h : spec_l1In_m x a b = true) : a ≤ x ∧ x ≤ b := by
  unfold spec_l1In_m at h
  by_cases h1 : a ≤ x
  · rw [decide_eq_true h1] at h
    exact ⟨h1, of_decide_eq_true h⟩
  · rw [decide_eq_false h1] at h
    cases h
theorem spec_l1In_iff (x a b : Int) : spec_l1In_m x a b = decide (a ≤ x ∧ x ≤ b) := by
  unfold spec_l1In_m
  by_cases h1 : a ≤ x
  · by_cases h2 : x ≤ b
    · simp [h1, h2]
    · simp [h1, h2]
  · simp [h1]

def spec_l7All_b1 (x0 : DStore) (k12 : Nat) (d13 : (List DVersion)) : (List DVersion) ⊕ ((List DVersion)) :=
 Sum.inr (d13 ++ (gt x0.Segments k12))
def spec_l7All_m (x0 : DStore) : (List DVersion) :=
 Sum.elim id (fun (s : (List DVersion)) => s) (rng (R := (List DVersion)) (fun k (s : (List DVersion)) => spec_l7All_b1 x0 k s) (x0.Segments.length - 0) 0 [])
theorem cb205 : Cb Tryz.prog 205 := ⟨f205, _, func205, rfl, by decide⟩
theorem spec_l7All_c (B : Nat) (w0 : World) (is : List It) (w : World) (z0 : List Value) (x0 : DStore) (r_0 : tyStore.rd w0 B z0 x0) (s_0 : smStore 68719476736 x0) (hq : (x0.Segments.map List.length).sum ≤ 68719476736) (hm : Mem B w0 is w) :
  Calls Tryz.prog 205 #[.agg z0.toArray] w fun e w' => ∃ v : Value, e = .returned (v) ∧ Mem B w0 (iOwn (tSl (tBor tyVersion w0 B) 191) [v] (spec_l7All_m x0) :: is) w' := by
 obtain ⟨v1, rfl, r2⟩ := tyStore_rd r_0
 have r7 := r2
 obtain ⟨m3, A4, c5, rfl, q6⟩ := r2
 have l8 : x0.Segments.length ≤ 68719476736 := s_0.1
 refine call_enterW (L := [(0, .agg #[.slice A4 x0.Segments.length c5, .int .i64 x0.Now])]) (N := 21) func205 rfl rfl (Nat.le_of_ble_eq_true rfl) (argsL_cons rfl argsL_nil) hm ?_
 refine sr ?_
 refine WM_box rfl (Wd_none rfl) (by decide) (fun p9 => ?_)
 refine wa (nt' (sr ?_))
 refine WM_build0 (E := (tBor tyVersion w0 B)) underlying131 type191 (Wd_none rfl) (by decide) (fun p10 => ?_)
 refine wa (nt' (CM_seq (sr (wa (nt' (CM_block ?_))))))
 let F1 := fun k (s : (List DVersion)) => spec_l7All_b1 x0 k s
 let R2 := rng (R := (List DVersion)) F1
 let I3 : It := iBox p9 42 [.slice A4 x0.Segments.length c5, .int .i64 x0.Now]
 refine CM_loop (σ := Nat × ((List DVersion)) × (Option Addr × Nat)) (fun s => [(1, .pointer (some (⟨p9, 0, none⟩ : Addr))), (3, .slice s.2.2.1 s.2.1.length s.2.2.2), (4, .int .i64 ((s.1 : Nat) : Int))]) (fun s => (iOwn (tSl (tBor tyVersion w0 B) 191) [.slice s.2.2.1 s.2.1.length s.2.2.2] s.2.1 :: I3 :: is)) (fun s => s.1 ≤ x0.Segments.length ∧ R2 (x0.Segments.length - s.1) s.1 s.2.1 = R2 (x0.Segments.length - 0) 0 [] ∧ s.2.1.length ≤ ((x0.Segments.take s.1).map List.length).sum) (fun s => x0.Segments.length - s.1) (0, [], ((some ⟨p10, 0, none⟩), 0)) sl3 (fun W hm => hm) ⟨(by omega), rfl, Nat.zero_le _⟩ ?_
 rintro ⟨k12, d13, ⟨A14, c15⟩⟩ H18
 obtain ⟨hk16, hF17, hi19⟩ : k12 ≤ x0.Segments.length ∧ R2 (x0.Segments.length - k12) k12 d13 = R2 (x0.Segments.length - 0) 0 [] ∧ d13.length ≤ ((x0.Segments.take k12).map List.length).sum := H18
 show CM Tryz.prog 21 _ _ _ _ [(1, .pointer (some (⟨p9, 0, none⟩ : Addr))), (3, .slice A14 d13.length c15), (4, .int .i64 ((k12 : Nat) : Int))] (iOwn (tSl (tBor tyVersion w0 B) 191) [.slice A14 d13.length c15] d13 :: I3 :: is)
 refine CM_seq (sr (wm ?_))
 refine wv (vf underlying42 rfl type40) ?_
 refine wv (vl 1 0 underlying40) ?_
 refine wv (vlen underlying40) ?_
 refine wv vlss ?_
 refine nt' ?_
 by_cases hl20 : k12 < x0.Segments.length
 ·have g21 : (decide (((k12 : Nat) : Int) < ((x0.Segments.length : Nat) : Int))) = true := decide_eq_true (by omega)
  refine CM_condT rfl g21 ?_
  refine CM_skip (QM_then (CM_seq (CM_block (CM_region (wm ?_)))))
  refine wv (vf underlying42 rfl type40) ?_
  refine wv (vl 1 0 underlying40) ?_
  refine wm ?_
  obtain ⟨a22, rfl, hb23, he24⟩ := q6 (by omega)
  refine wv (vix 1 k12 underlying40 type131) ?_
  obtain ⟨_, e26, hc25⟩ := he24 k12 _ (gt_some (show k12 < x0.Segments.length from by omega))
  have l27 : (gt x0.Segments k12).length ≤ 68719476736 := (s_0.2 _ (gt_mem (show k12 < x0.Segments.length from by omega))).1
  obtain ⟨v28, rfl, r29⟩ := e26
  have r34 := r29
  obtain ⟨m30, A31, c32, rfl, q33⟩ := r29
  refine wv (fun W hm => rv_load underlying131 rfl rfl ((hm.cell0 (show (a22.add (k12 * 1)).block < B from by rw [add_block]; exact hb23.1)).trans (hc25 0 _ rfl))) ?_
  refine apR (tBor tyVersion w0 B) tyVersion 191 (.slice A14 d13.length c15) d13 (gt x0.Segments k12) (iBox p9 42 [.slice (some a22) x0.Segments.length c5, .int .i64 x0.Now] :: is) (fun W hm => (hm.front (n := 0) rfl)) (fun W hm => src_bor hm r34) underlying131 type191 (show (d13.length + (gt x0.Segments k12).length) * 48 ≤ 140737488355328 from by have h1 := sum_take_succ (w := List.length) (xs := x0.Segments) (j := k12) (by omega); have h2 := sum_take_le (w := List.length) (xs := x0.Segments) (k12 + 1); omega) (fun v35 => ?_)
  refine WM_form (n := 0) rfl ?_
  rintro A36 c37 rfl m38
  refine wa (WM_nil (QM_block_normal (QM_then (CM_region (wm ?_)))))
  refine wv (vadN k12 1 (by omega)) ?_
  refine wa (WM_nil ?_)
  have hn40 := rng_next (R := (List DVersion)) (body := F1) (k := k12) (s := d13) (s' := (d13 ++ (gt x0.Segments k12))) (show k12 < x0.Segments.length from by omega) (show spec_l7All_b1 x0 k12 d13 = Sum.inr (d13 ++ (gt x0.Segments k12)) from by unfold spec_l7All_b1; exact rfl) hF17
  exact QM_round (k12 + 1, (d13 ++ (gt x0.Segments k12)), (A36, c37)) sl3 (fun W hm => hm) ⟨(by omega), hn40, (show (d13 ++ (gt x0.Segments k12)).length ≤ ((x0.Segments.take (k12 + 1)).map List.length).sum from by rw [List.length_append, sum_take_succ (by omega)]; omega)⟩ (rl (by omega))
 ·have g21 : (decide (((k12 : Nat) : Int) < ((x0.Segments.length : Nat) : Int))) = false := decide_eq_false (by omega)
  refine CM_condF rfl g21 ?_
  refine CM_exit (QM_then_exit (QM_then_exit ?_))
  have hE41 : R2 (x0.Segments.length - 0) 0 [] = Sum.inr d13 := rng_end hl20 hF17
  refine QM_block_hit (QM_then (sr (wm (wa (nt' (CM_ret ?_))))))
  refine QM_r1 rfl (RR_tmp rfl) (fun W hm => ⟨.slice A14 d13.length c15, ?_, ?_⟩)
  ·first | rw [(show spec_l7All_m x0 = d13 from by unfold spec_l7All_m; exact fin_inr hE41 (rfl))] | rfl
  ·rw [(show spec_l7All_m x0 = d13 from by unfold spec_l7All_m; exact fin_inr hE41 (rfl))]; exact ((hm.front (n := 0) rfl).front (n := 1) rfl).tail

def spec_IsRow_b1 (x0 : DRow) (k9 : Nat) : Bool ⊕ (Unit) :=
 cond (spec_l1In_m (gt x0.Values k9) 0 99) (Sum.inr ()) (Sum.inl false)
def spec_IsRow_m (x0 : DRow) : Bool :=
 Sum.elim id (fun (s : Unit) => cond (spec_l1In_m x0.Id 0 999) (((x0.Values.length : Nat) : Int) == 3) false) (rng (R := Bool) (fun k (_ : Unit) => spec_IsRow_b1 x0 k) (x0.Values.length - 0) 0 ())
theorem cb209 : Cb Tryz.prog 209 := ⟨f209, _, func209, rfl, by decide⟩
theorem spec_IsRow_c (w : World) (z0 : List Value) (x0 : DRow) (r_0 : tyRow.rd w w.heap.size z0 x0) :
  Calls Tryz.prog 209 #[.agg z0.toArray] w fun e w' => e = .returned (.bool (spec_IsRow_m x0)) ∧ Below w.heap.size w w' := by
 obtain ⟨v1, rfl, r2⟩ := tyRow_rd r_0
 have r7 := r2
 obtain ⟨m3, A4, c5, rfl, q6⟩ := r2
 refine ce1 (L := [(0, .agg #[.int .i64 x0.Id, .slice A4 x0.Values.length c5])]) (N := 27) func209 ?_
 refine sr ?_
 refine WM_box rfl (Wd_none rfl) (by decide) (fun p8 => ?_)
 refine wa (nt' (CM_seq (sr (wa (nt' (CM_block ?_))))))
 let F1 := fun k (_ : Unit) => spec_IsRow_b1 x0 k
 let R2 := rng (R := Bool) F1
 let I3 : It := iBox p8 73 [.int .i64 x0.Id, .slice A4 x0.Values.length c5]
 refine CM_loop (σ := Nat × (Unit) × (Unit)) (fun s => [(1, .pointer (some (⟨p8, 0, none⟩ : Addr))), (3, .int .i64 ((s.1 : Nat) : Int))]) (fun s => [I3]) (fun s => s.1 ≤ x0.Values.length ∧ R2 (x0.Values.length - s.1) s.1 s.2.1 = R2 (x0.Values.length - 0) 0 ()) (fun s => x0.Values.length - s.1) (0, (), ()) sl2 (fun W hm => hm) ⟨(by omega), rfl⟩ ?_
 rintro ⟨k9, ⟨⟩, ⟨⟩⟩ H12
 obtain ⟨hk10, hF11⟩ : k9 ≤ x0.Values.length ∧ R2 (x0.Values.length - k9) k9 () = R2 (x0.Values.length - 0) 0 () := H12
 show CM Tryz.prog 27 _ _ _ _ [(1, .pointer (some (⟨p8, 0, none⟩ : Addr))), (3, .int .i64 ((k9 : Nat) : Int))] [I3]
 refine CM_seq (sr (wm ?_))
 refine wv (vf underlying73 rfl type25) ?_
 refine wv (vl 0 1 underlying25) ?_
 refine wv (vlen underlying25) ?_
 refine wv vlss ?_
 refine nt' ?_
 by_cases hl13 : k9 < x0.Values.length
 ·have g14 : (decide (((k9 : Nat) : Int) < ((x0.Values.length : Nat) : Int))) = true := decide_eq_true (by omega)
  refine CM_condT rfl g14 ?_
  refine CM_skip (QM_then (CM_seq (CM_block (sr ?_))))
  refine wv (vf underlying73 rfl type25) ?_
  refine wv (vl 0 1 underlying25) ?_
  refine wm ?_
  obtain ⟨a15, rfl, hb16, he17⟩ := q6 (by omega)
  refine wv (vix 1 k9 underlying25 type3) ?_
  refine wv (fun W hm => rv_load underlying3 rfl rfl ((hm.cell0 (show (a15.add (k9 * 1)).block < w.heap.size from by rw [add_block]; exact hb16.1)).trans (rdS_int he17 k9 (by omega)))) ?_
  refine wcv (cl_fn cb128 rfl) (fun W hm => spec_l1In_c W (gt x0.Values k9) 0 99) ?_
  refine wv vnot ?_
  refine nt' ?_
  rcases Bool.eq_false_or_eq_true (spec_l1In_m (gt x0.Values k9) 0 99) with g19 | g19
  ·
   have hw := spec_l1In_fact g19
   refine CM_condF rfl (nt g19) ?_
   refine CM_skip (QM_block_normal (QM_then (CM_region (wm ?_))))
   refine wv (vadN k9 1 (by omega)) ?_
   refine wa (WM_nil ?_)
   have hn20 := rng_next (R := Bool) (body := F1) (k := k9) (s := ()) (s' := ()) (show k9 < x0.Values.length from by omega) (show spec_IsRow_b1 x0 k9 = Sum.inr () from by unfold spec_IsRow_b1; exact cond_t g19 (rfl)) hF11
   exact QM_round (k9 + 1, (), ()) sl2 (fun W hm => hm) ⟨(by omega), hn20⟩ (rl (by omega))
  ·
   refine CM_condT rfl (nf g19) ?_
   refine sr (wa (nt' (CM_ret (QM_block_ret (QM_then_ret (QM_then_ret (QM_block_ret (QM_then_ret ?_))))))))
   exact rtb (h := by unfold spec_IsRow_m; exact fin_inl (rng_ret (body := F1) (k := k9) (s := ()) (show k9 < x0.Values.length from by omega) (show spec_IsRow_b1 x0 k9 = Sum.inl false from by unfold spec_IsRow_b1; exact cond_f g19 (rfl)) hF11) rfl)
 ·have g14 : (decide (((k9 : Nat) : Int) < ((x0.Values.length : Nat) : Int))) = false := decide_eq_false (by omega)
  refine CM_condF rfl g14 ?_
  refine CM_exit (QM_then_exit (QM_then_exit ?_))
  have hE21 : R2 (x0.Values.length - 0) 0 () = Sum.inr () := rng_end hl13 hF11
  refine QM_block_hit (QM_then (sr ?_))
  refine wv (vf underlying73 rfl type3) ?_
  refine wv (vl 0 0 underlying3) ?_
  refine wcv (cl_fn cb128 rfl) (fun W hm => spec_l1In_c W x0.Id 0 999) ?_
  refine wm ?_
  rcases Bool.eq_false_or_eq_true (spec_l1In_m x0.Id 0 999) with g23 | g23
  ·
   have hw := spec_l1In_fact g23
   refine wg (vf underlying73 rfl type25) g23 ?_
   refine wg (vl 0 1 underlying25) g23 ?_
   refine wg (vlen underlying25) g23 ?_
   refine wg (fun W hm => rv_eql rfl rfl) g23 ?_
   refine wv (vpT g23) ?_
   refine wa (nt' (CM_ret ?_))
   exact rtb (h := by unfold spec_IsRow_m; exact fin_inr hE21 (cond_t g23 (rfl)))
  ·
   refine ws g23 ?_
   refine ws g23 ?_
   refine ws g23 ?_
   refine ws g23 ?_
   refine wv (vpF g23) ?_
   refine wa (nt' (CM_ret ?_))
   exact rtb (h := by unfold spec_IsRow_m; exact fin_inr hE21 (cond_f g23 (rfl)))

def spec_l7Version_m (x0 : DVersion) (x1 : Int) : Bool :=
 cond (spec_IsRow_m (⟨x0.Id, x0.Values⟩ : DRow)) (cond (spec_l1In_m x0.Born 0 x1) (cond (x0.Died == (-1)) true (spec_l1In_m x0.Died (IntKind.i64.wrap (x0.Born + 1)) x1)) false) false
theorem cb206 : Cb Tryz.prog 206 := ⟨f206, _, func206, rfl, by decide⟩
theorem spec_l7Version_c (w : World) (z0 : List Value) (x0 : DVersion) (x1 : Int) (r_0 : tyVersion.rd w w.heap.size z0 x0) :
  Calls Tryz.prog 206 #[.agg z0.toArray, .int .i64 x1] w fun e w' => e = .returned (.bool (spec_l7Version_m x0 x1)) ∧ Below w.heap.size w w' := by
 obtain ⟨v1, rfl, r2⟩ := tyVersion_rd r_0
 have r7 := r2
 obtain ⟨m3, A4, c5, rfl, q6⟩ := r2
 refine ce2 (L := [(0, .agg #[.int .i64 x0.Id, .slice A4 x0.Values.length c5, .int .i64 x0.Born, .int .i64 x0.Died]), (1, .int .i64 x1)]) (N := 31) func206 ?_
 refine sr ?_
 refine WM_box rfl (Wd_none rfl) (by decide) (fun p8 => ?_)
 refine wa (nt' (sr ?_))
 refine wv (vf underlying191 rfl type3) ?_
 refine wv (vl 0 0 underlying3) ?_
 refine wv (vf underlying191 rfl type25) ?_
 refine wv (vl 0 1 underlying25) ?_
 refine wv (fun W hm => rv_build (cs := [.int .i64 x0.Id, .slice A4 x0.Values.length c5]) rfl (by kernel_rfl)) ?_
 refine wcv (cl_fn cb209 rfl) (fun W hm => spec_IsRow_c W _ (⟨x0.Id, x0.Values⟩ : DRow) (tyRow_mk (x := (⟨x0.Id, x0.Values⟩ : DRow)) (hm.rdS0 r7))) ?_
 refine wm ?_
 rcases Bool.eq_false_or_eq_true (spec_IsRow_m (⟨x0.Id, x0.Values⟩ : DRow)) with g10 | g10
 ·
  refine wg (vf underlying191 rfl type3) g10 ?_
  refine wg (vl 0 2 underlying3) g10 ?_
  refine wg vmv g10 ?_
  refine WM_callV (cl_fn cb128 rfl) (fun W hm => spec_l1In_c W x0.Born 0 x1) (Wd_some rfl rfl rfl (bw g10 rfl)) (by decide) ?_
  refine wv (vpT g10) ?_
  refine wm ?_
  rcases Bool.eq_false_or_eq_true (spec_l1In_m x0.Born 0 x1) with g12 | g12
  ·
   have hw := spec_l1In_fact g12
   refine wg (vf underlying191 rfl type3) g12 ?_
   refine wg (vl 0 3 underlying3) g12 ?_
   refine wg (fun W hm => rv_eql rfl rfl) g12 ?_
   refine wg vmv g12 ?_
   by_cases h13 : x0.Died = (-1)
   ·have g14 : (x0.Died == (-1)) = true := beq_iff_eq.2 h13
    refine ws g14 ?_
    refine ws g14 ?_
    refine ws g14 ?_
    refine ws g14 ?_
    refine ws g14 ?_
    refine ws g14 ?_
    refine ws g14 ?_
    refine wg (vpT g14) g12 ?_
    refine wv (vpT g12) ?_
    refine wa (nt' (CM_ret ?_))
    exact rtb (h := by unfold spec_l7Version_m; exact cond_t g10 (cond_t g12 (cond_t g14 (rfl))))
   ·have g14 : (x0.Died == (-1)) = false := beq_eq_false_iff_ne.2 h13
    refine wg (vf underlying191 rfl type3) g14 ?_
    refine wg (vl 0 3 underlying3) g14 ?_
    refine wg (vf underlying191 rfl type3) g14 ?_
    refine wg (vl 0 2 underlying3) g14 ?_
    refine wg vadd g14 ?_
    refine wg vmv g14 ?_
    refine WM_callV (cl_fn cb128 rfl) (fun W hm => spec_l1In_c W x0.Died (IntKind.i64.wrap (x0.Born + 1)) x1) (Wd_some rfl rfl rfl (bw g14 rfl)) (by decide) ?_
    refine wg (vpF g14) g12 ?_
    refine wv (vpT g12) ?_
    refine wa (nt' (CM_ret ?_))
    exact rtb (h := by unfold spec_l7Version_m; exact cond_t g10 (cond_t g12 (cond_f g14 (rfl))))
  ·
   refine ws g12 ?_
   refine ws g12 ?_
   refine ws g12 ?_
   refine ws g12 ?_
   refine wu ?_
   refine wu ?_
   refine wu ?_
   refine wu ?_
   refine wu ?_
   refine wu ?_
   refine wu ?_
   refine ws g12 ?_
   refine wv (vpF g12) ?_
   refine wa (nt' (CM_ret ?_))
   exact rtb (h := by unfold spec_l7Version_m; exact cond_t g10 (cond_f g12 (rfl)))
 ·
  refine ws g10 ?_
  refine ws g10 ?_
  refine ws g10 ?_
  refine ws g10 ?_
  refine wv (vpF g10) ?_
  refine wm ?_
  refine wk ?_
  refine wk ?_
  refine wk ?_
  refine wk ?_
  refine wu ?_
  refine wu ?_
  refine wu ?_
  refine wu ?_
  refine wu ?_
  refine wu ?_
  refine wu ?_
  refine wk ?_
  refine wv (vpF rfl) ?_
  refine wa (nt' (CM_ret ?_))
  exact rtb (h := by unfold spec_l7Version_m; exact cond_f g10 (rfl))

def spec_l7Apart_m (x0 : DVersion) (x1 : DVersion) : Bool :=
 cond (x0.Id != x1.Id) true (cond (x0.Died != (-1)) (cond (decide (x0.Died ≤ x1.Born)) true (cond (x1.Died != (-1)) (decide (x1.Died ≤ x0.Born)) false)) (cond (x1.Died != (-1)) (decide (x1.Died ≤ x0.Born)) false))
theorem cb207 : Cb Tryz.prog 207 := ⟨f207, _, func207, rfl, by decide⟩
theorem spec_l7Apart_c (w : World) (z0 : List Value) (x0 : DVersion) (z1 : List Value) (x1 : DVersion) (r_0 : tyVersion.rd w w.heap.size z0 x0) (r_1 : tyVersion.rd w w.heap.size z1 x1) :
  Calls Tryz.prog 207 #[.agg z0.toArray, .agg z1.toArray] w fun e w' => e = .returned (.bool (spec_l7Apart_m x0 x1)) ∧ Below w.heap.size w w' := by
 obtain ⟨v1, rfl, r2⟩ := tyVersion_rd r_0
 have r7 := r2
 obtain ⟨m3, A4, c5, rfl, q6⟩ := r2
 obtain ⟨v8, rfl, r9⟩ := tyVersion_rd r_1
 have r14 := r9
 obtain ⟨m10, A11, c12, rfl, q13⟩ := r9
 refine ce2 (L := [(0, .agg #[.int .i64 x0.Id, .slice A4 x0.Values.length c5, .int .i64 x0.Born, .int .i64 x0.Died]), (1, .agg #[.int .i64 x1.Id, .slice A11 x1.Values.length c12, .int .i64 x1.Born, .int .i64 x1.Died])]) (N := 34) func207 ?_
 refine sr ?_
 refine WM_box rfl (Wd_none rfl) (by decide) (fun p15 => ?_)
 refine WM_box rfl (Wd_none rfl) (by decide) (fun p16 => ?_)
 refine wa (nt' (sr ?_))
 refine wv (vf underlying191 rfl type3) ?_
 refine wv (vl 1 0 underlying3) ?_
 refine wv (vf underlying191 rfl type3) ?_
 refine wv (vl 0 0 underlying3) ?_
 refine wv vneq ?_
 refine wm ?_
 by_cases h17 : x0.Id = x1.Id
 ·have g18 : (x0.Id != x1.Id) = false := by rw [h17]; exact bne_self_eq_false _
  refine wg (vf underlying191 rfl type3) g18 ?_
  refine wg (vl 1 3 underlying3) g18 ?_
  refine wg vneq g18 ?_
  refine wg vmv g18 ?_
  by_cases h19 : x0.Died = (-1)
  ·have g20 : (x0.Died != (-1)) = false := by rw [h19]; exact bne_self_eq_false _
   refine ws g20 ?_
   refine ws g20 ?_
   refine ws g20 ?_
   refine ws g20 ?_
   refine ws g20 ?_
   refine wg (vpF g20) g18 ?_
   refine wv (vpF g18) ?_
   refine wm ?_
   refine WM_val (vf underlying191 rfl type3) (Wd_some rfl rfl rfl rfl) rfl (by decide) ?_
   refine WM_val (vl 0 3 underlying3) (Wd_some rfl rfl rfl rfl) rfl (by decide) ?_
   refine WM_val vneq (Wd_some rfl rfl rfl rfl) rfl (by decide) ?_
   refine WM_val vmv (Wd_some rfl rfl rfl rfl) rfl (by decide) ?_
   by_cases h21 : x1.Died = (-1)
   ·have g22 : (x1.Died != (-1)) = false := by rw [h21]; exact bne_self_eq_false _
    refine ws g22 ?_
    refine ws g22 ?_
    refine ws g22 ?_
    refine ws g22 ?_
    refine ws g22 ?_
    refine WM_val (vpF g22) (Wd_some rfl rfl rfl rfl) rfl (by decide) ?_
    refine wv (vpF rfl) ?_
    refine wa (nt' (CM_ret ?_))
    exact rtb (h := by unfold spec_l7Apart_m; exact cond_f g18 (cond_f g20 (cond_f g22 (rfl))))
   ·have g22 : (x1.Died != (-1)) = true := bne_iff_ne.2 h21
    refine wg (vf underlying191 rfl type3) g22 ?_
    refine wg (vl 0 3 underlying3) g22 ?_
    refine wg (vf underlying191 rfl type3) g22 ?_
    refine wg (vl 1 2 underlying3) g22 ?_
    refine wg (fun W hm => rv_leq rfl rfl) g22 ?_
    refine WM_val (vpT g22) (Wd_some rfl rfl rfl rfl) rfl (by decide) ?_
    refine wv (vpF rfl) ?_
    refine wa (nt' (CM_ret ?_))
    exact rtb (h := by unfold spec_l7Apart_m; exact cond_f g18 (cond_f g20 (cond_t g22 (rfl))))
  ·have g20 : (x0.Died != (-1)) = true := bne_iff_ne.2 h19
   refine wg (vf underlying191 rfl type3) g20 ?_
   refine wg (vl 1 3 underlying3) g20 ?_
   refine wg (vf underlying191 rfl type3) g20 ?_
   refine wg (vl 0 2 underlying3) g20 ?_
   refine wg (fun W hm => rv_leq rfl rfl) g20 ?_
   refine wg (vpT g20) g18 ?_
   refine wv (vpF g18) ?_
   refine wm ?_
   by_cases h23 : x0.Died ≤ x1.Born
   ·have g24 : (decide (x0.Died ≤ x1.Born)) = true := decide_eq_true h23
    refine ws g24 ?_
    refine ws g24 ?_
    refine ws g24 ?_
    refine ws g24 ?_
    refine wu ?_
    refine wu ?_
    refine wu ?_
    refine wu ?_
    refine wu ?_
    refine ws g24 ?_
    refine wv (vpT g24) ?_
    refine wa (nt' (CM_ret ?_))
    exact rtb (h := by unfold spec_l7Apart_m; exact cond_f g18 (cond_t g20 (cond_t g24 (rfl))))
   ·have g24 : (decide (x0.Died ≤ x1.Born)) = false := decide_eq_false h23
    refine wg (vf underlying191 rfl type3) g24 ?_
    refine wg (vl 0 3 underlying3) g24 ?_
    refine wg vneq g24 ?_
    refine wg vmv g24 ?_
    by_cases h25 : x1.Died = (-1)
    ·have g26 : (x1.Died != (-1)) = false := by rw [h25]; exact bne_self_eq_false _
     refine ws g26 ?_
     refine ws g26 ?_
     refine ws g26 ?_
     refine ws g26 ?_
     refine ws g26 ?_
     refine wg (vpF g26) g24 ?_
     refine wv (vpF g24) ?_
     refine wa (nt' (CM_ret ?_))
     exact rtb (h := by unfold spec_l7Apart_m; exact cond_f g18 (cond_t g20 (cond_f g24 (cond_f g26 (rfl)))))
    ·have g26 : (x1.Died != (-1)) = true := bne_iff_ne.2 h25
     refine wg (vf underlying191 rfl type3) g26 ?_
     refine wg (vl 0 3 underlying3) g26 ?_
     refine wg (vf underlying191 rfl type3) g26 ?_
     refine wg (vl 1 2 underlying3) g26 ?_
     refine wg (fun W hm => rv_leq rfl rfl) g26 ?_
     refine wg (vpT g26) g24 ?_
     refine wv (vpF g24) ?_
     refine wa (nt' (CM_ret ?_))
     exact rtb (h := by unfold spec_l7Apart_m; exact cond_f g18 (cond_t g20 (cond_f g24 (cond_t g26 (rfl)))))
 ·have g18 : (x0.Id != x1.Id) = true := bne_iff_ne.2 h17
  refine ws g18 ?_
  refine ws g18 ?_
  refine ws g18 ?_
  refine ws g18 ?_
  refine wu ?_
  refine wu ?_
  refine wu ?_
  refine wu ?_
  refine wu ?_
  refine ws g18 ?_
  refine wv (vpT g18) ?_
  refine wm ?_
  refine wk ?_
  refine wk ?_
  refine wk ?_
  refine wk ?_
  refine wu ?_
  refine wu ?_
  refine wu ?_
  refine wu ?_
  refine wu ?_
  refine wk ?_
  refine wv (vpT rfl) ?_
  refine wa (nt' (CM_ret ?_))
  exact rtb (h := by unfold spec_l7Apart_m; exact cond_t g18 (rfl))

def spec_IsStore_b3 (x0 : DStore) (k42 : Nat) (k62 : Nat) : Bool ⊕ (Unit) :=
 cond (spec_l7Apart_m (gt (spec_l7All_m x0) k42) (gt (spec_l7All_m x0) k62)) (Sum.inr ()) (Sum.inl false)
def spec_IsStore_b2 (x0 : DStore) (k42 : Nat) : Bool ⊕ (Unit) :=
 cond (spec_l7Version_m (gt (spec_l7All_m x0) k42) x0.Now) (Sum.elim Sum.inl (fun (s : Unit) => Sum.inr ()) (rng (R := Bool) (fun k (_ : Unit) => spec_IsStore_b3 x0 k42 k) (k42 - 0) 0 ())) (Sum.inl false)
def spec_IsStore_b1 (x0 : DStore) (k14 : Nat) : Bool ⊕ (Unit) :=
 cond (decide (4 < ((((gt x0.Segments k14)).length : Nat) : Int))) (Sum.inl false) (Sum.inr ())
def spec_IsStore_m (x0 : DStore) : Bool :=
 cond (spec_l1In_m ((x0.Segments.length : Nat) : Int) 1 8) (cond (spec_l1In_m x0.Now 0 100000) (Sum.elim id (fun (s1_ : Unit) => Sum.elim id (fun (s : Unit) => true) (rng (R := Bool) (fun k (_ : Unit) => spec_IsStore_b2 x0 k) ((spec_l7All_m x0).length - 0) 0 ())) (rng (R := Bool) (fun k (_ : Unit) => spec_IsStore_b1 x0 k) (x0.Segments.length - 0) 0 ())) false) false
theorem spec_IsStore_hq {x0 : DStore} (h : ((x0.Segments.length : Nat) : Int) ≤ 8) (hE : rng (R := Bool) (fun k (_ : Unit) => spec_IsStore_b1 x0 k) (x0.Segments.length - 0) 0 () = .inr ()) : (x0.Segments.map List.length).sum ≤ 68719476736 := by
 have h1 := sum_le_mul (w := List.length) (c := 4) (xs := x0.Segments) fun j hj => by
  have h2 := rng_noneU _ _ hE j (Nat.zero_le _) (by omega)
  unfold spec_IsStore_b1 at h2
  by_cases h3 : 4 < ((gt x0.Segments j).length : Int)
  ·rw [decide_eq_true h3] at h2; cases h2
  ·omega
 omega
theorem cb151 : Cb Tryz.prog 151 := ⟨f151, _, func151, rfl, by decide⟩
theorem spec_IsStore_c (w : World) (z0 : List Value) (x0 : DStore) (r_0 : tyStore.rd w w.heap.size z0 x0) (s_0 : smStore 68719476736 x0) :
  Calls Tryz.prog 151 #[.agg z0.toArray] w fun e w' => e = .returned (.bool (spec_IsStore_m x0)) ∧ Below w.heap.size w w' := by
 obtain ⟨v1, rfl, r2⟩ := tyStore_rd r_0
 have r7 := r2
 obtain ⟨m3, A4, c5, rfl, q6⟩ := r2
 have l8 : x0.Segments.length ≤ 68719476736 := s_0.1
 refine ce1 (L := [(0, .agg #[.slice A4 x0.Segments.length c5, .int .i64 x0.Now])]) (N := 63) func151 ?_
 refine sr ?_
 refine WM_box rfl (Wd_none rfl) (by decide) (fun p9 => ?_)
 refine wa (nt' (CM_seq (sr ?_)))
 refine wv (vf underlying42 rfl type40) ?_
 refine wv (vl 0 0 underlying40) ?_
 refine wv (vlen underlying40) ?_
 refine wcv (cl_fn cb128 rfl) (fun W hm => spec_l1In_c W ((x0.Segments.length : Nat) : Int) 1 8) ?_
 refine wv vnot ?_
 refine wm ?_
 rcases Bool.eq_false_or_eq_true (spec_l1In_m ((x0.Segments.length : Nat) : Int) 1 8) with g11 | g11
 ·
  have hw := spec_l1In_fact g11
  refine wg (vf underlying42 rfl type3) (nt g11) ?_
  refine wg (vl 0 1 underlying3) (nt g11) ?_
  refine WM_callV (cl_fn cb128 rfl) (fun W hm => spec_l1In_c W x0.Now 0 100000) (Wd_some rfl rfl rfl (bw (nt g11) rfl)) (by decide) ?_
  refine wg vnot (nt g11) ?_
  refine wv (vpF (nt g11)) ?_
  refine nt' ?_
  rcases Bool.eq_false_or_eq_true (spec_l1In_m x0.Now 0 100000) with g13 | g13
  ·
   have hw := spec_l1In_fact g13
   refine CM_condF rfl (nt g13) ?_
   refine CM_skip (QM_then (CM_seq (sr (wa (nt' (CM_block ?_))))))
   let F1 := fun k (_ : Unit) => spec_IsStore_b1 x0 k
   let R4 := rng (R := Bool) F1
   let I7 : It := iBox p9 42 [.slice A4 x0.Segments.length c5, .int .i64 x0.Now]
   refine CM_loop (σ := Nat × (Unit) × (Unit)) (fun s => [(1, .pointer (some (⟨p9, 0, none⟩ : Addr))), (3, .int .i64 ((s.1 : Nat) : Int))]) (fun s => [I7]) (fun s => s.1 ≤ x0.Segments.length ∧ R4 (x0.Segments.length - s.1) s.1 s.2.1 = R4 (x0.Segments.length - 0) 0 ()) (fun s => x0.Segments.length - s.1) (0, (), ()) sl2 (fun W hm => hm) ⟨(by omega), rfl⟩ ?_
   rintro ⟨k14, ⟨⟩, ⟨⟩⟩ H17
   obtain ⟨hk15, hF16⟩ : k14 ≤ x0.Segments.length ∧ R4 (x0.Segments.length - k14) k14 () = R4 (x0.Segments.length - 0) 0 () := H17
   show CM Tryz.prog 63 _ _ _ _ [(1, .pointer (some (⟨p9, 0, none⟩ : Addr))), (3, .int .i64 ((k14 : Nat) : Int))] [I7]
   refine CM_seq (sr (wm ?_))
   refine wv (vf underlying42 rfl type40) ?_
   refine wv (vl 0 0 underlying40) ?_
   refine wv (vlen underlying40) ?_
   refine wv vlss ?_
   refine nt' ?_
   by_cases hl18 : k14 < x0.Segments.length
   ·have g19 : (decide (((k14 : Nat) : Int) < ((x0.Segments.length : Nat) : Int))) = true := decide_eq_true (by omega)
    refine CM_condT rfl g19 ?_
    refine CM_skip (QM_then (CM_seq (CM_block (sr ?_))))
    refine wv (vf underlying42 rfl type40) ?_
    refine wv (vl 0 0 underlying40) ?_
    refine wm ?_
    obtain ⟨a20, rfl, hb21, he22⟩ := q6 (by omega)
    refine wv (vix 1 k14 underlying40 type131) ?_
    obtain ⟨_, e24, hc23⟩ := he22 k14 _ (gt_some (show k14 < x0.Segments.length from by omega))
    have l25 : (gt x0.Segments k14).length ≤ 68719476736 := (s_0.2 _ (gt_mem (show k14 < x0.Segments.length from by omega))).1
    obtain ⟨v26, rfl, r27⟩ := e24
    have r32 := r27
    obtain ⟨m28, A29, c30, rfl, q31⟩ := r27
    refine wv (fun W hm => rv_load underlying131 rfl rfl ((hm.cell0 (show (a20.add (k14 * 1)).block < w.heap.size from by rw [add_block]; exact hb21.1)).trans (hc23 0 _ rfl))) ?_
    refine wv (vlen underlying131) ?_
    refine wv (fun W hm => rv_gtr rfl rfl) ?_
    refine nt' ?_
    by_cases h33 : 4 < ((((gt x0.Segments k14)).length : Nat) : Int)
    ·have g34 : (decide (4 < ((((gt x0.Segments k14)).length : Nat) : Int))) = true := decide_eq_true h33
     refine CM_condT rfl g34 ?_
     refine sr (wa (nt' (CM_ret (QM_block_ret (QM_then_ret (QM_then_ret (QM_block_ret (QM_then_ret ?_))))))))
     exact rtb (h := by unfold spec_IsStore_m; exact cond_t g11 (cond_t g13 (fin_inl (rng_ret (body := F1) (k := k14) (s := ()) (show k14 < x0.Segments.length from by omega) (show spec_IsStore_b1 x0 k14 = Sum.inl false from by unfold spec_IsStore_b1; exact cond_t g34 (rfl)) hF16) rfl)))
    ·have g34 : (decide (4 < ((((gt x0.Segments k14)).length : Nat) : Int))) = false := decide_eq_false h33
     refine CM_condF rfl g34 ?_
     refine CM_skip (QM_block_normal (QM_then (CM_region (wm ?_))))
     refine wv (vadN k14 1 (by omega)) ?_
     refine wa (WM_nil ?_)
     have hn35 := rng_next (R := Bool) (body := F1) (k := k14) (s := ()) (s' := ()) (show k14 < x0.Segments.length from by omega) (show spec_IsStore_b1 x0 k14 = Sum.inr () from by unfold spec_IsStore_b1; exact cond_f g34 (rfl)) hF16
     exact QM_round (k14 + 1, (), ()) sl2 (fun W hm => hm) ⟨(by omega), hn35⟩ (rl (by omega))
   ·have g19 : (decide (((k14 : Nat) : Int) < ((x0.Segments.length : Nat) : Int))) = false := decide_eq_false (by omega)
    refine CM_condF rfl g19 ?_
    refine CM_exit (QM_then_exit (QM_then_exit ?_))
    have hE36 : R4 (x0.Segments.length - 0) 0 () = Sum.inr () := rng_end hl18 hF16
    have HQ := spec_IsStore_hq (by omega) hE36
    refine QM_block_hit (QM_then (sr ?_))
    refine wv (fun W hm => rv_loadN (cs := [.slice A4 x0.Segments.length c5, .int .i64 x0.Now]) underlying42 type42 rfl rfl (hm.boxCells (n := 0) rfl)) ?_
    refine WM_callW (χ := Value) (val := fun x => x) (js := fun x => (iOwn (tSl (tBor tyVersion w w.heap.size) 191) [x] (spec_l7All_m x0) :: [I7])) (cl_fn cb205 rfl) (fun W hm => spec_l7All_c w.heap.size w [I7] W _ x0 (tyStore_mk r7) s_0 (HQ) hm) (Wd_none rfl) (by decide) (fun v37 => ?_)
    refine WM_form (n := 0) rfl ?_
    rintro A38 c39 rfl m40
    refine wa (nt' (CM_seq (sr (wa (nt' (CM_block ?_))))))
    let F2 := fun k (_ : Unit) => spec_IsStore_b2 x0 k
    let R5 := rng (R := Bool) F2
    let I8 : It := iOwn (tSl (tBor tyVersion w w.heap.size) 191) [.slice A38 (spec_l7All_m x0).length c39] (spec_l7All_m x0)
    refine CM_loop (σ := Nat × (Unit) × (Unit)) (fun s => [(1, .pointer (some (⟨p9, 0, none⟩ : Addr))), (4, .slice A38 (spec_l7All_m x0).length c39), (5, .int .i64 ((s.1 : Nat) : Int))]) (fun s => [I8, I7]) (fun s => s.1 ≤ (spec_l7All_m x0).length ∧ R5 ((spec_l7All_m x0).length - s.1) s.1 s.2.1 = R5 ((spec_l7All_m x0).length - 0) 0 ()) (fun s => (spec_l7All_m x0).length - s.1) (0, (), ()) sl3 (fun W hm => hm) ⟨(by omega), rfl⟩ ?_
    rintro ⟨k42, ⟨⟩, ⟨⟩⟩ H45
    obtain ⟨hk43, hF44⟩ : k42 ≤ (spec_l7All_m x0).length ∧ R5 ((spec_l7All_m x0).length - k42) k42 () = R5 ((spec_l7All_m x0).length - 0) 0 () := H45
    show CM Tryz.prog 63 _ _ _ _ [(1, .pointer (some (⟨p9, 0, none⟩ : Addr))), (4, .slice A38 (spec_l7All_m x0).length c39), (5, .int .i64 ((k42 : Nat) : Int))] [I8, I7]
    refine CM_seq (sr (wm (wm ?_)))
    refine wv (vlen underlying131) ?_
    refine wv vlss ?_
    refine nt' ?_
    by_cases hl46 : k42 < (spec_l7All_m x0).length
    ·have g47 : (decide (((k42 : Nat) : Int) < (((spec_l7All_m x0).length : Nat) : Int))) = true := decide_eq_true (by omega)
     refine CM_condT rfl g47 ?_
     refine CM_skip (QM_then (CM_seq (CM_block (CM_seq (CM_seq ?_)))))
     refine CM_formO (n := 0) rfl (by omega) ?_
     rintro g48 rfl
     refine CM_expose (T := tyVersion) (wb := w) (Bb := w.heap.size) (e := 191) (g := g48) (n := (spec_l7All_m x0).length) (c := c39) (xs := (spec_l7All_m x0)) (js := [I7]) (fun W hm => hm) ?_
     rintro ck49 rk50
     refine CM_regionD (by kernel_rfl) (by kernel_rfl) ?_
     refine qm (qm ?_)
     refine qv (vix 4 k42 underlying131 type191) ?_
     obtain ⟨_, e51, hc52⟩ := rk50.get (j := k42) (by omega)
     obtain ⟨v53, rfl, r54⟩ := tyVersion_rd e51
     have r59 := r54
     obtain ⟨m55, A56, c57, rfl, q58⟩ := r54
     refine qv (fun W hm => rv_loadN (cs := [.int .i64 ((gt (spec_l7All_m x0) k42).Id), .slice A56 ((gt (spec_l7All_m x0) k42).Values).length c57, .int .i64 ((gt (spec_l7All_m x0) k42).Born), .int .i64 ((gt (spec_l7All_m x0) k42).Died)]) underlying191 type191 rfl rfl (hm.rowCells (i := 0) rfl hc52)) ?_
     refine qv (vf underlying42 rfl type3) ?_
     refine qv (vl 1 1 underlying3) ?_
     refine QR_callV (cl_fn cb206 rfl) (fun W hm => spec_l7Version_c W _ (gt (spec_l7All_m x0) k42) x0.Now (tyVersion_mk (x := (gt (spec_l7All_m x0) k42)) (hm.rdS0 r59))) (Wd_none rfl) (by decide) ?_
     refine qv vnot ?_
     refine nq' ?_
     rcases Bool.eq_false_or_eq_true (spec_l7Version_m (gt (spec_l7All_m x0) k42) x0.Now) with g61 | g61
     ·
      refine CM_condF rfl (nt g61) ?_
      refine CM_skip (QM_then (sr (wa (nt' (CM_block ?_)))))
      refine CM_items (fun W hm => Mem.hide rk50 hm) ?_
      let F3 := fun k (_ : Unit) => spec_IsStore_b3 x0 k42 k
      let R6 := rng (R := Bool) F3
      let I9 : It := iOwn (tSl (tBor tyVersion w w.heap.size) 191) [.slice (some ⟨g48, 0, none⟩) (spec_l7All_m x0).length c39] (spec_l7All_m x0)
      refine CM_loop (σ := Nat × (Unit) × (Unit)) (fun s => [(1, .pointer (some (⟨p9, 0, none⟩ : Addr))), (4, .slice (some ⟨g48, 0, none⟩) (spec_l7All_m x0).length c39), (5, .int .i64 ((k42 : Nat) : Int)), (6, .int .i64 ((s.1 : Nat) : Int))]) (fun s => [I9, I7]) (fun s => s.1 ≤ k42 ∧ R6 (k42 - s.1) s.1 s.2.1 = R6 (k42 - 0) 0 ()) (fun s => k42 - s.1) (0, (), ()) sl4 (fun W hm => hm) ⟨(by omega), rfl⟩ ?_
      rintro ⟨k62, ⟨⟩, ⟨⟩⟩ H65
      obtain ⟨hk63, hF64⟩ : k62 ≤ k42 ∧ R6 (k42 - k62) k62 () = R6 (k42 - 0) 0 () := H65
      show CM Tryz.prog 63 _ _ _ _ [(1, .pointer (some (⟨p9, 0, none⟩ : Addr))), (4, .slice (some ⟨g48, 0, none⟩) (spec_l7All_m x0).length c39), (5, .int .i64 ((k42 : Nat) : Int)), (6, .int .i64 ((k62 : Nat) : Int))] [I9, I7]
      refine CM_seq (sr (wm (wm ?_)))
      refine wv vlss ?_
      refine nt' ?_
      by_cases hl66 : k62 < k42
      ·have g67 : (decide (((k62 : Nat) : Int) < ((k42 : Nat) : Int))) = true := decide_eq_true (by omega)
       refine CM_condT rfl g67 ?_
       refine CM_skip (QM_then (CM_seq (CM_block (CM_seq ?_))))
       refine CM_expose (T := tyVersion) (wb := w) (Bb := w.heap.size) (e := 191) (g := g48) (n := (spec_l7All_m x0).length) (c := c39) (xs := (spec_l7All_m x0)) (js := [I7]) (fun W hm => hm) ?_
       rintro ck68 rk69
       refine CM_regionD (by kernel_rfl) (by kernel_rfl) ?_
       refine qm (qm ?_)
       refine qv (vix 4 k42 underlying131 type191) ?_
       obtain ⟨_, e70, hc71⟩ := rk69.get (j := k42) (by omega)
       obtain ⟨v72, rfl, r73⟩ := tyVersion_rd e70
       have r78 := r73
       obtain ⟨m74, A75, c76, rfl, q77⟩ := r73
       refine qv (fun W hm => rv_loadN (cs := [.int .i64 ((gt (spec_l7All_m x0) k42).Id), .slice A75 ((gt (spec_l7All_m x0) k42).Values).length c76, .int .i64 ((gt (spec_l7All_m x0) k42).Born), .int .i64 ((gt (spec_l7All_m x0) k42).Died)]) underlying191 type191 rfl rfl (hm.rowCells (i := 0) rfl hc71)) ?_
       refine qm (qm ?_)
       refine qv (vix 4 k62 underlying131 type191) ?_
       obtain ⟨_, e79, hc80⟩ := rk69.get (j := k62) (by omega)
       obtain ⟨v81, rfl, r82⟩ := tyVersion_rd e79
       have r87 := r82
       obtain ⟨m83, A84, c85, rfl, q86⟩ := r82
       refine qv (fun W hm => rv_loadN (cs := [.int .i64 ((gt (spec_l7All_m x0) k62).Id), .slice A84 ((gt (spec_l7All_m x0) k62).Values).length c85, .int .i64 ((gt (spec_l7All_m x0) k62).Born), .int .i64 ((gt (spec_l7All_m x0) k62).Died)]) underlying191 type191 rfl rfl (hm.rowCells (i := 0) rfl hc80)) ?_
       refine QR_callV (cl_fn cb207 rfl) (fun W hm => spec_l7Apart_c W _ (gt (spec_l7All_m x0) k42) _ (gt (spec_l7All_m x0) k62) (tyVersion_mk (x := (gt (spec_l7All_m x0) k42)) (hm.rdS0 r78)) (tyVersion_mk (x := (gt (spec_l7All_m x0) k62)) (hm.rdS0 r87))) (Wd_none rfl) (by decide) ?_
       refine qv vnot ?_
       refine nq' ?_
       rcases Bool.eq_false_or_eq_true (spec_l7Apart_m (gt (spec_l7All_m x0) k42) (gt (spec_l7All_m x0) k62)) with g89 | g89
       ·
        refine CM_condF rfl (nt g89) ?_
        refine CM_skip (QM_block_normal (QM_then (CM_region (wm ?_))))
        refine wv (vadN k62 1 (by omega)) ?_
        refine wa (WM_nil ?_)
        refine QM_items (fun W hm => Mem.hide rk69 hm) ?_
        have hn90 := rng_next (R := Bool) (body := F3) (k := k62) (s := ()) (s' := ()) (show k62 < k42 from by omega) (show spec_IsStore_b3 x0 k42 k62 = Sum.inr () from by unfold spec_IsStore_b3; exact cond_t g89 (rfl)) hF64
        exact QM_round (k62 + 1, (), ()) sl4 (fun W hm => hm) ⟨(by omega), hn90⟩ (rl (by omega))
       ·
        refine CM_condT rfl (nf g89) ?_
        refine sr (wa (nt' (CM_ret (QM_block_ret (QM_then_ret (QM_then_ret (QM_block_ret (QM_block_ret (QM_then_ret (QM_then_ret (QM_block_ret (QM_then_ret ?_))))))))))))
        refine QM_items (fun W hm => Mem.hide rk69 hm) ?_
        exact rtb (h := by unfold spec_IsStore_m; exact cond_t g11 (cond_t g13 (fin_inr hE36 (fin_inl (rng_ret (body := F2) (k := k42) (s := ()) (show k42 < (spec_l7All_m x0).length from by omega) (show spec_IsStore_b2 x0 k42 = Sum.inl false from by unfold spec_IsStore_b2; exact cond_t g61 (fin_inl (rng_ret (body := F3) (k := k62) (s := ()) (show k62 < k42 from by omega) (show spec_IsStore_b3 x0 k42 k62 = Sum.inl false from by unfold spec_IsStore_b3; exact cond_f g89 (rfl)) hF64) rfl)) hF44) rfl))))
      ·have g67 : (decide (((k62 : Nat) : Int) < ((k42 : Nat) : Int))) = false := decide_eq_false (by omega)
       refine CM_condF rfl g67 ?_
       refine CM_exit (QM_then_exit (QM_then_exit ?_))
       have hE91 : R6 (k42 - 0) 0 () = Sum.inr () := rng_end hl66 hF64
       refine QM_block_hit (QM_block_normal (QM_then (CM_region (wm ?_))))
       refine wv (vadN k42 1 (by omega)) ?_
       refine wa (WM_nil ?_)
       have hn92 := rng_next (R := Bool) (body := F2) (k := k42) (s := ()) (s' := ()) (show k42 < (spec_l7All_m x0).length from by omega) (show spec_IsStore_b2 x0 k42 = Sum.inr () from by unfold spec_IsStore_b2; exact cond_t g61 (fin_inr hE91 (rfl))) hF44
       exact QM_round (k42 + 1, (), ()) sl3 (fun W hm => hm) ⟨(by omega), hn92⟩ (show (spec_l7All_m x0).length - (k42 + 1) < (spec_l7All_m x0).length - k42 from by omega)
     ·
      refine CM_condT rfl (nf g61) ?_
      refine sr (wa (nt' (CM_ret (QM_then_ret (QM_block_ret (QM_then_ret (QM_then_ret (QM_block_ret (QM_then_ret ?_)))))))))
      refine QM_items (fun W hm => Mem.hide rk50 hm) ?_
      exact rtb (h := by unfold spec_IsStore_m; exact cond_t g11 (cond_t g13 (fin_inr hE36 (fin_inl (rng_ret (body := F2) (k := k42) (s := ()) (show k42 < (spec_l7All_m x0).length from by omega) (show spec_IsStore_b2 x0 k42 = Sum.inl false from by unfold spec_IsStore_b2; exact cond_f g61 (rfl)) hF44) rfl))))
    ·have g47 : (decide (((k42 : Nat) : Int) < (((spec_l7All_m x0).length : Nat) : Int))) = false := decide_eq_false (by omega)
     refine CM_condF rfl g47 ?_
     refine CM_exit (QM_then_exit (QM_then_exit ?_))
     have hE93 : R5 ((spec_l7All_m x0).length - 0) 0 () = Sum.inr () := rng_end hl46 hF44
     refine QM_block_hit (QM_then (sr (wa (nt' (CM_ret ?_)))))
     exact rtb (h := by unfold spec_IsStore_m; exact cond_t g11 (cond_t g13 (fin_inr hE36 (fin_inr hE93 (rfl)))))
  ·
   refine CM_condT rfl (nf g13) ?_
   refine sr (wa (nt' (CM_ret (QM_then_ret ?_))))
   exact rtb (h := by unfold spec_IsStore_m; exact cond_t g11 (cond_f g13 (rfl)))
 ·
  refine ws (nf g11) ?_
  refine ws (nf g11) ?_
  refine ws (nf g11) ?_
  refine ws (nf g11) ?_
  refine wv (vpT (nf g11)) ?_
  refine nt' ?_
  refine CM_condT rfl rfl ?_
  refine sr (wa (nt' (CM_ret (QM_then_ret ?_))))
  exact rtb (h := by unfold spec_IsStore_m; exact cond_f g11 (rfl))

def spec_HasMember_b1 (x0 : (List Int)) (x1 : Int) (k6 : Nat) : Bool ⊕ (Unit) :=
 cond ((gt x0 k6) == x1) (Sum.inl true) (Sum.inr ())
def spec_HasMember_m (x0 : (List Int)) (x1 : Int) : Bool :=
 Sum.elim id (fun (s : Unit) => false) (rng (R := Bool) (fun k (_ : Unit) => spec_HasMember_b1 x0 x1 k) (x0.length - 0) 0 ())
theorem cb116 : Cb Tryz.prog 116 := ⟨f116, _, func116, rfl, by decide⟩
theorem spec_HasMember_c (w : World) (z0 : Value) (x0 : (List Int)) (x1 : Int) (r_0 : rdS tInt w w.heap.size z0 x0) :
  Calls Tryz.prog 116 #[z0, .int .i64 x1] w fun e w' => e = .returned (.bool (spec_HasMember_m x0 x1)) ∧ Below w.heap.size w w' := by
 have r5 := r_0
 obtain ⟨m1, A2, c3, rfl, q4⟩ := r_0
 refine ce2 (L := [(0, .slice A2 x0.length c3), (1, .int .i64 x1)]) (N := 18) func116 ?_
 refine sr (wa (nt' (CM_seq (sr (wa (nt' (CM_block ?_)))))))
 let F1 := fun k (_ : Unit) => spec_HasMember_b1 x0 x1 k
 let R2 := rng (R := Bool) F1
 refine CM_loop (σ := Nat × (Unit) × (Unit)) (fun s => [(0, .slice A2 x0.length c3), (1, .int .i64 x1), (5, .int .i64 ((s.1 : Nat) : Int))]) (fun s => []) (fun s => s.1 ≤ x0.length ∧ R2 (x0.length - s.1) s.1 s.2.1 = R2 (x0.length - 0) 0 ()) (fun s => x0.length - s.1) (0, (), ()) sl3 (fun W hm => hm) ⟨(by omega), rfl⟩ ?_
 rintro ⟨k6, ⟨⟩, ⟨⟩⟩ H9
 obtain ⟨hk7, hF8⟩ : k6 ≤ x0.length ∧ R2 (x0.length - k6) k6 () = R2 (x0.length - 0) 0 () := H9
 show CM Tryz.prog 18 _ _ _ _ [(0, .slice A2 x0.length c3), (1, .int .i64 x1), (5, .int .i64 ((k6 : Nat) : Int))] []
 refine CM_seq (sr (wm (wm ?_)))
 refine wv (vlen underlying25) ?_
 refine wv vlss ?_
 refine nt' ?_
 by_cases hl10 : k6 < x0.length
 ·have g11 : (decide (((k6 : Nat) : Int) < ((x0.length : Nat) : Int))) = true := decide_eq_true (by omega)
  refine CM_condT rfl g11 ?_
  refine CM_skip (QM_then (CM_seq (CM_block (sr (wm (wm ?_))))))
  obtain ⟨a12, rfl, hb13, he14⟩ := q4 (by omega)
  refine wv (vix 1 k6 underlying25 type3) ?_
  refine wv (fun W hm => rv_load underlying3 rfl rfl ((hm.cell0 (show (a12.add (k6 * 1)).block < w.heap.size from by rw [add_block]; exact hb13.1)).trans (rdS_int he14 k6 (by omega)))) ?_
  refine wm ?_
  refine wv (fun W hm => rv_eql rfl rfl) ?_
  refine nt' ?_
  by_cases h15 : (gt x0 k6) = x1
  ·have g16 : ((gt x0 k6) == x1) = true := beq_iff_eq.2 h15
   refine CM_condT rfl g16 ?_
   refine sr (wa (nt' (CM_ret (QM_block_ret (QM_then_ret (QM_then_ret (QM_block_ret (QM_then_ret ?_))))))))
   exact rtb (h := by unfold spec_HasMember_m; exact fin_inl (rng_ret (body := F1) (k := k6) (s := ()) (show k6 < x0.length from by omega) (show spec_HasMember_b1 x0 x1 k6 = Sum.inl true from by unfold spec_HasMember_b1; exact cond_t g16 (rfl)) hF8) rfl)
  ·have g16 : ((gt x0 k6) == x1) = false := beq_eq_false_iff_ne.2 h15
   refine CM_condF rfl g16 ?_
   refine CM_skip (QM_block_normal (QM_then (CM_region (wm ?_))))
   refine wv (vadN k6 1 (by omega)) ?_
   refine wa (WM_nil ?_)
   have hn17 := rng_next (R := Bool) (body := F1) (k := k6) (s := ()) (s' := ()) (show k6 < x0.length from by omega) (show spec_HasMember_b1 x0 x1 k6 = Sum.inr () from by unfold spec_HasMember_b1; exact cond_f g16 (rfl)) hF8
   exact QM_round (k6 + 1, (), ()) sl3 (fun W hm => hm) ⟨(by omega), hn17⟩ (rl (by omega))
 ·have g11 : (decide (((k6 : Nat) : Int) < ((x0.length : Nat) : Int))) = false := decide_eq_false (by omega)
  refine CM_condF rfl g11 ?_
  refine CM_exit (QM_then_exit (QM_then_exit ?_))
  have hE18 : R2 (x0.length - 0) 0 () = Sum.inr () := rng_end hl10 hF8
  refine QM_block_hit (QM_then (sr (wa (nt' (CM_ret ?_)))))
  exact rtb (h := by unfold spec_HasMember_m; exact fin_inr hE18 (rfl))

def spec_l6Order_b1 (x0 : (List Int)) (k8 : Nat) : Bool ⊕ (Unit) :=
 cond (spec_l1In_m (gt x0 k8) 0 2) (cond (spec_HasMember_m (List.take k8 x0) (gt x0 k8)) (Sum.inl false) (Sum.inr ())) (Sum.inl false)
def spec_l6Order_m (x0 : (List Int)) : Bool :=
 cond (((x0.length : Nat) : Int) != 3) false (Sum.elim id (fun (s : Unit) => true) (rng (R := Bool) (fun k (_ : Unit) => spec_l6Order_b1 x0 k) (x0.length - 0) 0 ()))
theorem cb137 : Cb Tryz.prog 137 := ⟨f137, _, func137, rfl, by decide⟩
theorem spec_l6Order_c (w : World) (z0 : Value) (x0 : (List Int)) (r_0 : rdS tInt w w.heap.size z0 x0) :
  Calls Tryz.prog 137 #[z0] w fun e w' => e = .returned (.bool (spec_l6Order_m x0)) ∧ Below w.heap.size w w' := by
 have r5 := r_0
 obtain ⟨m1, A2, c3, rfl, q4⟩ := r_0
 refine ce1 (L := [(0, .slice A2 x0.length c3)]) (N := 29) func137 ?_
 refine sr (wa (nt' (CM_seq (sr (wm ?_)))))
 refine wv (vlen underlying25) ?_
 refine wv vneq ?_
 refine nt' ?_
 by_cases h6 : ((x0.length : Nat) : Int) = 3
 ·have g7 : (((x0.length : Nat) : Int) != 3) = false := by rw [h6]; exact bne_self_eq_false _
  refine CM_condF rfl g7 ?_
  refine CM_skip (QM_then (CM_seq (sr (wa (nt' (CM_block ?_))))))
  let F1 := fun k (_ : Unit) => spec_l6Order_b1 x0 k
  let R2 := rng (R := Bool) F1
  refine CM_loop (σ := Nat × (Unit) × (Unit)) (fun s => [(0, .slice A2 x0.length c3), (3, .int .i64 ((s.1 : Nat) : Int))]) (fun s => []) (fun s => s.1 ≤ x0.length ∧ R2 (x0.length - s.1) s.1 s.2.1 = R2 (x0.length - 0) 0 ()) (fun s => x0.length - s.1) (0, (), ()) sl2 (fun W hm => hm) ⟨(by omega), rfl⟩ ?_
  rintro ⟨k8, ⟨⟩, ⟨⟩⟩ H11
  obtain ⟨hk9, hF10⟩ : k8 ≤ x0.length ∧ R2 (x0.length - k8) k8 () = R2 (x0.length - 0) 0 () := H11
  show CM Tryz.prog 29 _ _ _ _ [(0, .slice A2 x0.length c3), (3, .int .i64 ((k8 : Nat) : Int))] []
  refine CM_seq (sr (wm (wm ?_)))
  refine wv (vlen underlying25) ?_
  refine wv vlss ?_
  refine nt' ?_
  by_cases hl12 : k8 < x0.length
  ·have g13 : (decide (((k8 : Nat) : Int) < ((x0.length : Nat) : Int))) = true := decide_eq_true (by omega)
   refine CM_condT rfl g13 ?_
   refine CM_skip (QM_then (CM_seq (CM_block (CM_seq ?_))))
   refine CM_regionD (by kernel_rfl) (by kernel_rfl) ?_
   refine qm (qm ?_)
   obtain ⟨a14, rfl, hb15, he16⟩ := q4 (by omega)
   refine qv (vix 1 k8 underlying25 type3) ?_
   refine qv (fun W hm => rv_load underlying3 rfl rfl ((hm.cell0 (show (a14.add (k8 * 1)).block < w.heap.size from by rw [add_block]; exact hb15.1)).trans (rdS_int he16 k8 (by omega)))) ?_
   refine QR_callV (cl_fn cb128 rfl) (fun W hm => spec_l1In_c W (gt x0 k8) 0 2) (Wd_none rfl) (by decide) ?_
   refine qv vnot ?_
   refine qm ?_
   rcases Bool.eq_false_or_eq_true (spec_l1In_m (gt x0 k8) 0 2) with g18 | g18
   ·
    have hw := spec_l1In_fact g18
    refine qg vmv (nt g18) ?_
    refine qg vmv (nt g18) ?_
    have hc21 := rdS_cap r5
    have r19 := rdS_take (k := k8) (by omega) r5
    refine qg (fun W hm => rv_sliceHi (k := k8) underlying25 type3 rfl rfl (by omega)) (nt g18) ?_
    refine qg vmv (nt g18) ?_
    refine qg vmv (nt g18) ?_
    refine qg (vix 1 k8 underlying25 type3) (nt g18) ?_
    refine qg (fun W hm => rv_load underlying3 rfl rfl ((hm.cell0 (show (a14.add (k8 * 1)).block < w.heap.size from by rw [add_block]; exact hb15.1)).trans (rdS_int he16 k8 (by omega)))) (nt g18) ?_
    refine QR_callV (cl_fn cb116 rfl) (fun W hm => spec_HasMember_c W _ (List.take k8 x0) (gt x0 k8) (hm.rdS0 r19)) (Wd_some rfl rfl rfl (bw (nt g18) rfl)) (by decide) ?_
    refine qv (vpF (nt g18)) ?_
    refine nq' ?_
    rcases Bool.eq_false_or_eq_true (spec_HasMember_m (List.take k8 x0) (gt x0 k8)) with g23 | g23
    ·
     refine CM_condT rfl g23 ?_
     refine sr (wa (nt' (CM_ret (QM_block_ret (QM_then_ret (QM_then_ret (QM_block_ret (QM_then_ret ?_))))))))
     exact rtb (h := by unfold spec_l6Order_m; exact cond_f g7 (fin_inl (rng_ret (body := F1) (k := k8) (s := ()) (show k8 < x0.length from by omega) (show spec_l6Order_b1 x0 k8 = Sum.inl false from by unfold spec_l6Order_b1; exact cond_t g18 (cond_t g23 (rfl))) hF10) rfl))
    ·
     refine CM_condF rfl g23 ?_
     refine CM_skip (QM_block_normal (QM_then (CM_region (wm ?_))))
     refine wv (vadN k8 1 (by omega)) ?_
     refine wa (WM_nil ?_)
     have hn24 := rng_next (R := Bool) (body := F1) (k := k8) (s := ()) (s' := ()) (show k8 < x0.length from by omega) (show spec_l6Order_b1 x0 k8 = Sum.inr () from by unfold spec_l6Order_b1; exact cond_t g18 (cond_f g23 (rfl))) hF10
     exact QM_round (k8 + 1, (), ()) sl2 (fun W hm => hm) ⟨(by omega), hn24⟩ (rl (by omega))
   ·
    refine qs (nf g18) ?_
    refine qs (nf g18) ?_
    refine qs (nf g18) ?_
    refine qs (nf g18) ?_
    refine qs (nf g18) ?_
    refine qs (nf g18) ?_
    refine qs (nf g18) ?_
    refine qs (nf g18) ?_
    refine qv (vpT (nf g18)) ?_
    refine nq' ?_
    refine CM_condT rfl rfl ?_
    refine sr (wa (nt' (CM_ret (QM_block_ret (QM_then_ret (QM_then_ret (QM_block_ret (QM_then_ret ?_))))))))
    exact rtb (h := by unfold spec_l6Order_m; exact cond_f g7 (fin_inl (rng_ret (body := F1) (k := k8) (s := ()) (show k8 < x0.length from by omega) (show spec_l6Order_b1 x0 k8 = Sum.inl false from by unfold spec_l6Order_b1; exact cond_f g18 (rfl)) hF10) rfl))
  ·have g13 : (decide (((k8 : Nat) : Int) < ((x0.length : Nat) : Int))) = false := decide_eq_false (by omega)
   refine CM_condF rfl g13 ?_
   refine CM_exit (QM_then_exit (QM_then_exit ?_))
   have hE25 : R2 (x0.length - 0) 0 () = Sum.inr () := rng_end hl12 hF10
   refine QM_block_hit (QM_then (sr (wa (nt' (CM_ret ?_)))))
   exact rtb (h := by unfold spec_l6Order_m; exact cond_f g7 (fin_inr hE25 (rfl)))
 ·have g7 : (((x0.length : Nat) : Int) != 3) = true := bne_iff_ne.2 h6
  refine CM_condT rfl g7 ?_
  refine sr (wa (nt' (CM_ret (QM_then_ret ?_))))
  exact rtb (h := by unfold spec_l6Order_m; exact cond_t g7 (rfl))

def spec_IsCond_m (x0 : DCond) : Bool :=
 cond (spec_l1In_m x0.Field 0 2) (cond (spec_l1In_m x0.Low 0 x0.High) (decide (x0.High ≤ 99)) false) false
theorem cb190 : Cb Tryz.prog 190 := ⟨f190, _, func190, rfl, by decide⟩
theorem spec_IsCond_c (w : World) (z0 : List Value) (x0 : DCond) (r_0 : tyCond.rd w w.heap.size z0 x0) :
  Calls Tryz.prog 190 #[.agg z0.toArray] w fun e w' => e = .returned (.bool (spec_IsCond_m x0)) ∧ Below w.heap.size w w' := by
 obtain rfl := tyCond_rd r_0
 refine ce1 (L := [(0, .agg #[.int .i64 x0.Field, .int .i64 x0.Low, .int .i64 x0.High])]) (N := 18) func190 ?_
 refine sr ?_
 refine WM_box rfl (Wd_none rfl) (by decide) (fun p1 => ?_)
 refine wa (nt' (sr ?_))
 refine wv (vf underlying201 rfl type3) ?_
 refine wv (vl 0 0 underlying3) ?_
 refine wcv (cl_fn cb128 rfl) (fun W hm => spec_l1In_c W x0.Field 0 2) ?_
 refine wm ?_
 rcases Bool.eq_false_or_eq_true (spec_l1In_m x0.Field 0 2) with g3 | g3
 ·
  have hw := spec_l1In_fact g3
  refine wg (vf underlying201 rfl type3) g3 ?_
  refine wg (vl 0 1 underlying3) g3 ?_
  refine wg (vf underlying201 rfl type3) g3 ?_
  refine wg (vl 0 2 underlying3) g3 ?_
  refine WM_callV (cl_fn cb128 rfl) (fun W hm => spec_l1In_c W x0.Low 0 x0.High) (Wd_some rfl rfl rfl (bw g3 rfl)) (by decide) ?_
  refine wv (vpT g3) ?_
  refine wm ?_
  rcases Bool.eq_false_or_eq_true (spec_l1In_m x0.Low 0 x0.High) with g5 | g5
  ·
   have hw := spec_l1In_fact g5
   refine wg (vf underlying201 rfl type3) g5 ?_
   refine wg (vl 0 2 underlying3) g5 ?_
   refine wg (fun W hm => rv_leq rfl rfl) g5 ?_
   refine wv (vpT g5) ?_
   refine wa (nt' (CM_ret ?_))
   exact rtb (h := by unfold spec_IsCond_m; exact cond_t g3 (cond_t g5 (rfl)))
  ·
   refine ws g5 ?_
   refine ws g5 ?_
   refine ws g5 ?_
   refine wv (vpF g5) ?_
   refine wa (nt' (CM_ret ?_))
   exact rtb (h := by unfold spec_IsCond_m; exact cond_t g3 (cond_f g5 (rfl)))
 ·
  refine ws g3 ?_
  refine ws g3 ?_
  refine ws g3 ?_
  refine ws g3 ?_
  refine ws g3 ?_
  refine wv (vpF g3) ?_
  refine wm ?_
  refine wk ?_
  refine wk ?_
  refine wk ?_
  refine wv (vpF rfl) ?_
  refine wa (nt' (CM_ret ?_))
  exact rtb (h := by unfold spec_IsCond_m; exact cond_f g3 (rfl))

def spec_l4Fields_b1 (x0 : (List Int)) (k6 : Nat) : Bool ⊕ (Unit) :=
 cond (spec_l1In_m (gt x0 k6) 0 2) (Sum.inr ()) (Sum.inl false)
def spec_l4Fields_m (x0 : (List Int)) : Bool :=
 Sum.elim id (fun (s : Unit) => (spec_l1In_m ((x0.length : Nat) : Int) 1 3)) (rng (R := Bool) (fun k (_ : Unit) => spec_l4Fields_b1 x0 k) (x0.length - 0) 0 ())
theorem cb191 : Cb Tryz.prog 191 := ⟨f191, _, func191, rfl, by decide⟩
theorem spec_l4Fields_c (w : World) (z0 : Value) (x0 : (List Int)) (r_0 : rdS tInt w w.heap.size z0 x0) :
  Calls Tryz.prog 191 #[z0] w fun e w' => e = .returned (.bool (spec_l4Fields_m x0)) ∧ Below w.heap.size w w' := by
 have r5 := r_0
 obtain ⟨m1, A2, c3, rfl, q4⟩ := r_0
 refine ce1 (L := [(0, .slice A2 x0.length c3)]) (N := 19) func191 ?_
 refine sr (wa (nt' (CM_seq (sr (wa (nt' (CM_block ?_)))))))
 let F1 := fun k (_ : Unit) => spec_l4Fields_b1 x0 k
 let R2 := rng (R := Bool) F1
 refine CM_loop (σ := Nat × (Unit) × (Unit)) (fun s => [(0, .slice A2 x0.length c3), (3, .int .i64 ((s.1 : Nat) : Int))]) (fun s => []) (fun s => s.1 ≤ x0.length ∧ R2 (x0.length - s.1) s.1 s.2.1 = R2 (x0.length - 0) 0 ()) (fun s => x0.length - s.1) (0, (), ()) sl2 (fun W hm => hm) ⟨(by omega), rfl⟩ ?_
 rintro ⟨k6, ⟨⟩, ⟨⟩⟩ H9
 obtain ⟨hk7, hF8⟩ : k6 ≤ x0.length ∧ R2 (x0.length - k6) k6 () = R2 (x0.length - 0) 0 () := H9
 show CM Tryz.prog 19 _ _ _ _ [(0, .slice A2 x0.length c3), (3, .int .i64 ((k6 : Nat) : Int))] []
 refine CM_seq (sr (wm (wm ?_)))
 refine wv (vlen underlying25) ?_
 refine wv vlss ?_
 refine nt' ?_
 by_cases hl10 : k6 < x0.length
 ·have g11 : (decide (((k6 : Nat) : Int) < ((x0.length : Nat) : Int))) = true := decide_eq_true (by omega)
  refine CM_condT rfl g11 ?_
  refine CM_skip (QM_then (CM_seq (CM_block (sr (wm (wm ?_))))))
  obtain ⟨a12, rfl, hb13, he14⟩ := q4 (by omega)
  refine wv (vix 1 k6 underlying25 type3) ?_
  refine wv (fun W hm => rv_load underlying3 rfl rfl ((hm.cell0 (show (a12.add (k6 * 1)).block < w.heap.size from by rw [add_block]; exact hb13.1)).trans (rdS_int he14 k6 (by omega)))) ?_
  refine wcv (cl_fn cb128 rfl) (fun W hm => spec_l1In_c W (gt x0 k6) 0 2) ?_
  refine wv vnot ?_
  refine nt' ?_
  rcases Bool.eq_false_or_eq_true (spec_l1In_m (gt x0 k6) 0 2) with g16 | g16
  ·
   have hw := spec_l1In_fact g16
   refine CM_condF rfl (nt g16) ?_
   refine CM_skip (QM_block_normal (QM_then (CM_region (wm ?_))))
   refine wv (vadN k6 1 (by omega)) ?_
   refine wa (WM_nil ?_)
   have hn17 := rng_next (R := Bool) (body := F1) (k := k6) (s := ()) (s' := ()) (show k6 < x0.length from by omega) (show spec_l4Fields_b1 x0 k6 = Sum.inr () from by unfold spec_l4Fields_b1; exact cond_t g16 (rfl)) hF8
   exact QM_round (k6 + 1, (), ()) sl2 (fun W hm => hm) ⟨(by omega), hn17⟩ (rl (by omega))
  ·
   refine CM_condT rfl (nf g16) ?_
   refine sr (wa (nt' (CM_ret (QM_block_ret (QM_then_ret (QM_then_ret (QM_block_ret (QM_then_ret ?_))))))))
   exact rtb (h := by unfold spec_l4Fields_m; exact fin_inl (rng_ret (body := F1) (k := k6) (s := ()) (show k6 < x0.length from by omega) (show spec_l4Fields_b1 x0 k6 = Sum.inl false from by unfold spec_l4Fields_b1; exact cond_f g16 (rfl)) hF8) rfl)
 ·have g11 : (decide (((k6 : Nat) : Int) < ((x0.length : Nat) : Int))) = false := decide_eq_false (by omega)
  refine CM_condF rfl g11 ?_
  refine CM_exit (QM_then_exit (QM_then_exit ?_))
  have hE18 : R2 (x0.length - 0) 0 () = Sum.inr () := rng_end hl10 hF8
  refine QM_block_hit (QM_then (sr (wm ?_)))
  refine wv (vlen underlying25) ?_
  refine wcv (cl_fn cb128 rfl) (fun W hm => spec_l1In_c W ((x0.length : Nat) : Int) 1 3) ?_
  refine wa (nt' (CM_ret ?_))
  exact rtb (h := by unfold spec_l4Fields_m; exact fin_inr hE18 (rfl))

def spec_IsQuery_b1 (x0 : DQuery) (k16 : Nat) : Bool ⊕ (Unit) :=
 cond (spec_IsCond_m (gt x0.Conds k16)) (cond (decide (0 < ((k16 : Nat) : Int))) (cond (decide (((gt x0.Conds k16).Field) ≤ ((gt x0.Conds (k16 - 1)).Field))) (Sum.inl false) (Sum.inr ())) (Sum.inr ())) (Sum.inl false)
def spec_IsQuery_m (x0 : DQuery) : Bool :=
 Sum.elim id (fun (s : Unit) => cond (spec_l1In_m x0.Id 0 23) (cond (spec_l1In_m x0.Tenant 0 3) (cond (decide (((x0.Conds.length : Nat) : Int) ≤ 3)) (spec_l4Fields_m x0.Out) false) false) false) (rng (R := Bool) (fun k (_ : Unit) => spec_IsQuery_b1 x0 k) (x0.Conds.length - 0) 0 ())
theorem cb127 : Cb Tryz.prog 127 := ⟨f127, _, func127, rfl, by decide⟩
theorem spec_IsQuery_c (w : World) (z0 : List Value) (x0 : DQuery) (r_0 : tyQuery.rd w w.heap.size z0 x0) :
  Calls Tryz.prog 127 #[.agg z0.toArray] w fun e w' => e = .returned (.bool (spec_IsQuery_m x0)) ∧ Below w.heap.size w w' := by
 obtain ⟨v1, v3, rfl, r2, r4⟩ := tyQuery_rd r_0
 have r9 := r2
 obtain ⟨m5, A6, c7, rfl, q8⟩ := r2
 have r14 := r4
 obtain ⟨m10, A11, c12, rfl, q13⟩ := r4
 refine ce1 (L := [(0, .agg #[.int .i64 x0.Id, .int .i64 x0.Tenant, .slice A6 x0.Conds.length c7, .slice A11 x0.Out.length c12])]) (N := 57) func127 ?_
 refine sr ?_
 refine WM_box rfl (Wd_none rfl) (by decide) (fun p15 => ?_)
 refine wa (nt' (CM_seq (sr (wa (nt' (CM_block ?_))))))
 let F1 := fun k (_ : Unit) => spec_IsQuery_b1 x0 k
 let R2 := rng (R := Bool) F1
 let K3 : List Value := [.int .i64 x0.Id, .int .i64 x0.Tenant, .slice A6 x0.Conds.length c7, .slice A11 x0.Out.length c12]
 refine CM_loop (σ := Nat × (Unit) × (Unit)) (fun s => [(1, .pointer (some (⟨p15, 0, none⟩ : Addr))), (3, .int .i64 ((s.1 : Nat) : Int))]) (fun s => [iBox p15 34 K3]) (fun s => s.1 ≤ x0.Conds.length ∧ R2 (x0.Conds.length - s.1) s.1 s.2.1 = R2 (x0.Conds.length - 0) 0 ()) (fun s => x0.Conds.length - s.1) (0, (), ()) sl2 (fun W hm => hm) ⟨(by omega), rfl⟩ ?_
 rintro ⟨k16, ⟨⟩, ⟨⟩⟩ H19
 obtain ⟨hk17, hF18⟩ : k16 ≤ x0.Conds.length ∧ R2 (x0.Conds.length - k16) k16 () = R2 (x0.Conds.length - 0) 0 () := H19
 show CM Tryz.prog 57 _ _ _ _ [(1, .pointer (some (⟨p15, 0, none⟩ : Addr))), (3, .int .i64 ((k16 : Nat) : Int))] [iBox p15 34 K3]
 refine CM_seq (sr (wm ?_))
 refine wv (vf underlying34 rfl type32) ?_
 refine wv (vl 0 2 underlying32) ?_
 refine wv (vlen underlying32) ?_
 refine wv vlss ?_
 refine nt' ?_
 by_cases hl20 : k16 < x0.Conds.length
 ·have g21 : (decide (((k16 : Nat) : Int) < ((x0.Conds.length : Nat) : Int))) = true := decide_eq_true (by omega)
  refine CM_condT rfl g21 ?_
  refine CM_skip (QM_then (CM_seq (CM_block (CM_seq ?_))))
  refine CM_regionD (by kernel_rfl) (by kernel_rfl) ?_
  refine qv (vf underlying34 rfl type32) ?_
  refine qv (vl 0 2 underlying32) ?_
  refine qm ?_
  obtain ⟨a22, rfl, hb23, he24⟩ := q8 (by omega)
  refine qv (vix 3 k16 underlying32 type201) ?_
  obtain ⟨_, e26, hc25⟩ := he24 k16 _ (gt_some (show k16 < x0.Conds.length from by omega))
  obtain rfl := tyCond_rd e26
  refine qv (fun W hm => rv_loadN (cs := [.int .i64 ((gt x0.Conds k16).Field), .int .i64 ((gt x0.Conds k16).Low), .int .i64 ((gt x0.Conds k16).High)]) underlying201 type201 rfl rfl (hm.elCells (show (a22.add (k16 * 3)).block < w.heap.size from by rw [add_block]; exact hb23.1) hc25)) ?_
  refine QR_callV (cl_fn cb190 rfl) (fun W hm => spec_IsCond_c W _ (gt x0.Conds k16) (tyCond_mk (x := (gt x0.Conds k16)))) (Wd_none rfl) (by decide) ?_
  refine qv vnot ?_
  refine qm ?_
  rcases Bool.eq_false_or_eq_true (spec_IsCond_m (gt x0.Conds k16)) with g28 | g28
  ·
   refine qg vmv (nt g28) ?_
   refine qg (fun W hm => rv_gtr rfl rfl) (nt g28) ?_
   refine qg vmv (nt g28) ?_
   by_cases h29 : 0 < ((k16 : Nat) : Int)
   ·have g30 : (decide (0 < ((k16 : Nat) : Int))) = true := decide_eq_true h29
    refine qg (vf underlying34 rfl type32) g30 ?_
    refine qg (vl 0 2 underlying32) g30 ?_
    refine qg vmv g30 ?_
    refine qg (vix 3 k16 underlying32 type201) g30 ?_
    refine qg (vf underlying201 rfl type3) g30 ?_
    refine qg (fun W hm => rv_load underlying3 rfl rfl ((hm.cell0 (show ((a22.add (k16 * 3)).add 0).block < w.heap.size from by rw [add_block, add_block]; exact hb23.1)).trans (hc25 0 _ rfl))) g30 ?_
    refine qg (vf underlying34 rfl type32) g30 ?_
    refine qg (vl 0 2 underlying32) g30 ?_
    refine qg vmv g30 ?_
    refine qg (fun W hm => rv_subN (p := k16) (q := 1) rfl rfl (by omega) (by omega)) g30 ?_
    refine qg (fun W hm => rv_index (sz := 3) (k := k16 - 1) underlying32 type201 rfl rfl rfl (by omega)) g30 ?_
    refine qg (vf underlying201 rfl type3) g30 ?_
    obtain ⟨_, e32, hc31⟩ := he24 (k16 - 1) _ (gt_some (show (k16 - 1) < x0.Conds.length from by omega))
    obtain rfl := tyCond_rd e32
    refine qg (fun W hm => rv_load underlying3 rfl rfl ((hm.cell0 (show ((a22.add ((k16 - 1) * 3)).add 0).block < w.heap.size from by rw [add_block, add_block]; exact hb23.1)).trans (hc31 0 _ rfl))) g30 ?_
    refine qg (fun W hm => rv_leq rfl rfl) g30 ?_
    refine qg (vpT g30) (nt g28) ?_
    refine qv (vpF (nt g28)) ?_
    refine nq' ?_
    by_cases h33 : ((gt x0.Conds k16).Field) ≤ ((gt x0.Conds (k16 - 1)).Field)
    ·have g34 : (decide (((gt x0.Conds k16).Field) ≤ ((gt x0.Conds (k16 - 1)).Field))) = true := decide_eq_true h33
     refine CM_condT rfl g34 ?_
     refine sr (wa (nt' (CM_ret (QM_block_ret (QM_then_ret (QM_then_ret (QM_block_ret (QM_then_ret ?_))))))))
     exact rtb (h := by unfold spec_IsQuery_m; exact fin_inl (rng_ret (body := F1) (k := k16) (s := ()) (show k16 < x0.Conds.length from by omega) (show spec_IsQuery_b1 x0 k16 = Sum.inl false from by unfold spec_IsQuery_b1; exact cond_t g28 (cond_t g30 (cond_t g34 (rfl)))) hF18) rfl)
    ·have g34 : (decide (((gt x0.Conds k16).Field) ≤ ((gt x0.Conds (k16 - 1)).Field))) = false := decide_eq_false h33
     refine CM_condF rfl g34 ?_
     refine CM_skip (QM_block_normal (QM_then (CM_region (wm ?_))))
     refine wv (vadN k16 1 (by omega)) ?_
     refine wa (WM_nil ?_)
     have hn35 := rng_next (R := Bool) (body := F1) (k := k16) (s := ()) (s' := ()) (show k16 < x0.Conds.length from by omega) (show spec_IsQuery_b1 x0 k16 = Sum.inr () from by unfold spec_IsQuery_b1; exact cond_t g28 (cond_t g30 (cond_f g34 (rfl)))) hF18
     exact QM_round (k16 + 1, (), ()) sl2 (fun W hm => hm) ⟨(by omega), hn35⟩ (rl (by omega))
   ·have g30 : (decide (0 < ((k16 : Nat) : Int))) = false := decide_eq_false h29
    refine qs g30 ?_
    refine qs g30 ?_
    refine qs g30 ?_
    refine qs g30 ?_
    refine qs g30 ?_
    refine qs g30 ?_
    refine qs g30 ?_
    refine qs g30 ?_
    refine qs g30 ?_
    refine qs g30 ?_
    refine qs g30 ?_
    refine qs g30 ?_
    refine qs g30 ?_
    refine qs g30 ?_
    refine qg (vpF g30) (nt g28) ?_
    refine qv (vpF (nt g28)) ?_
    refine nq' ?_
    refine CM_condF rfl rfl ?_
    refine CM_skip (QM_block_normal (QM_then (CM_region (wm ?_))))
    refine wv (vadN k16 1 (by omega)) ?_
    refine wa (WM_nil ?_)
    have hn36 := rng_next (R := Bool) (body := F1) (k := k16) (s := ()) (s' := ()) (show k16 < x0.Conds.length from by omega) (show spec_IsQuery_b1 x0 k16 = Sum.inr () from by unfold spec_IsQuery_b1; exact cond_t g28 (cond_f g30 (rfl))) hF18
    exact QM_round (k16 + 1, (), ()) sl2 (fun W hm => hm) ⟨(by omega), hn36⟩ (rl (by omega))
  ·
   refine qs (nf g28) ?_
   refine qs (nf g28) ?_
   refine qs (nf g28) ?_
   refine qu ?_
   refine qu ?_
   refine qu ?_
   refine qu ?_
   refine qu ?_
   refine qu ?_
   refine qu ?_
   refine qu ?_
   refine qu ?_
   refine qu ?_
   refine qu ?_
   refine qu ?_
   refine qu ?_
   refine qu ?_
   refine qs (nf g28) ?_
   refine qv (vpT (nf g28)) ?_
   refine nq' ?_
   refine CM_condT rfl rfl ?_
   refine sr (wa (nt' (CM_ret (QM_block_ret (QM_then_ret (QM_then_ret (QM_block_ret (QM_then_ret ?_))))))))
   exact rtb (h := by unfold spec_IsQuery_m; exact fin_inl (rng_ret (body := F1) (k := k16) (s := ()) (show k16 < x0.Conds.length from by omega) (show spec_IsQuery_b1 x0 k16 = Sum.inl false from by unfold spec_IsQuery_b1; exact cond_f g28 (rfl)) hF18) rfl)
 ·have g21 : (decide (((k16 : Nat) : Int) < ((x0.Conds.length : Nat) : Int))) = false := decide_eq_false (by omega)
  refine CM_condF rfl g21 ?_
  refine CM_exit (QM_then_exit (QM_then_exit ?_))
  have hE37 : R2 (x0.Conds.length - 0) 0 () = Sum.inr () := rng_end hl20 hF18
  refine QM_block_hit (QM_then (sr ?_))
  refine wv (vf underlying34 rfl type3) ?_
  refine wv (vl 0 0 underlying3) ?_
  refine wcv (cl_fn cb128 rfl) (fun W hm => spec_l1In_c W x0.Id 0 23) ?_
  refine wm ?_
  rcases Bool.eq_false_or_eq_true (spec_l1In_m x0.Id 0 23) with g39 | g39
  ·
   have hw := spec_l1In_fact g39
   refine wg (vf underlying34 rfl type3) g39 ?_
   refine wg (vl 0 1 underlying3) g39 ?_
   refine WM_callV (cl_fn cb128 rfl) (fun W hm => spec_l1In_c W x0.Tenant 0 3) (Wd_some rfl rfl rfl (bw g39 rfl)) (by decide) ?_
   refine wv (vpT g39) ?_
   refine wm ?_
   rcases Bool.eq_false_or_eq_true (spec_l1In_m x0.Tenant 0 3) with g41 | g41
   ·
    have hw := spec_l1In_fact g41
    refine wg (vf underlying34 rfl type32) g41 ?_
    refine wg (vl 0 2 underlying32) g41 ?_
    refine wg (vlen underlying32) g41 ?_
    refine wg (fun W hm => rv_leq rfl rfl) g41 ?_
    refine wv (vpT g41) ?_
    refine wm ?_
    by_cases h42 : ((x0.Conds.length : Nat) : Int) ≤ 3
    ·have g43 : (decide (((x0.Conds.length : Nat) : Int) ≤ 3)) = true := decide_eq_true h42
     refine wg (vf underlying34 rfl type25) g43 ?_
     refine wg (vl 0 3 underlying25) g43 ?_
     refine WM_callV (cl_fn cb191 rfl) (fun W hm => spec_l4Fields_c W _ x0.Out (hm.rdS0 r14)) (Wd_some rfl rfl rfl (bw g43 rfl)) (by decide) ?_
     refine wv (vpT g43) ?_
     refine wa (nt' (CM_ret ?_))
     exact rtb (h := by unfold spec_IsQuery_m; exact fin_inr hE37 (cond_t g39 (cond_t g41 (cond_t g43 (rfl)))))
    ·have g43 : (decide (((x0.Conds.length : Nat) : Int) ≤ 3)) = false := decide_eq_false h42
     refine ws g43 ?_
     refine ws g43 ?_
     refine ws g43 ?_
     refine wv (vpF g43) ?_
     refine wa (nt' (CM_ret ?_))
     exact rtb (h := by unfold spec_IsQuery_m; exact fin_inr hE37 (cond_t g39 (cond_t g41 (cond_f g43 (rfl)))))
   ·
    refine ws g41 ?_
    refine ws g41 ?_
    refine ws g41 ?_
    refine ws g41 ?_
    refine wv (vpF g41) ?_
    refine wm ?_
    refine wk ?_
    refine wk ?_
    refine wk ?_
    refine wv (vpF rfl) ?_
    refine wa (nt' (CM_ret ?_))
    exact rtb (h := by unfold spec_IsQuery_m; exact fin_inr hE37 (cond_t g39 (cond_f g41 (rfl))))
  ·
   refine ws g39 ?_
   refine ws g39 ?_
   refine ws g39 ?_
   refine wv (vpF g39) ?_
   refine wm ?_
   refine wk ?_
   refine wk ?_
   refine wk ?_
   refine wk ?_
   refine wv (vpF rfl) ?_
   refine wm ?_
   refine wk ?_
   refine wk ?_
   refine wk ?_
   refine wv (vpF rfl) ?_
   refine wa (nt' (CM_ret ?_))
   exact rtb (h := by unfold spec_IsQuery_m; exact fin_inr hE37 (cond_f g39 (rfl)))

def spec_l9Todo_b1 (x0 : (List Int)) (x1 : Int) (k6 : Nat) : Bool ⊕ (Unit) :=
 cond (spec_l1In_m (gt x0 k6) 0 (IntKind.i64.wrap (x1 - 1))) (cond (decide (0 < ((k6 : Nat) : Int))) (cond (decide ((gt x0 k6) ≤ (gt x0 (k6 - 1)))) (Sum.inl false) (Sum.inr ())) (Sum.inr ())) (Sum.inl false)
def spec_l9Todo_m (x0 : (List Int)) (x1 : Int) : Bool :=
 Sum.elim id (fun (s : Unit) => (decide (0 < ((x0.length : Nat) : Int)))) (rng (R := Bool) (fun k (_ : Unit) => spec_l9Todo_b1 x0 x1 k) (x0.length - 0) 0 ())
theorem cb208 : Cb Tryz.prog 208 := ⟨f208, _, func208, rfl, by decide⟩
theorem spec_l9Todo_c (w : World) (z0 : Value) (x0 : (List Int)) (x1 : Int) (r_0 : rdS tInt w w.heap.size z0 x0) :
  Calls Tryz.prog 208 #[z0, .int .i64 x1] w fun e w' => e = .returned (.bool (spec_l9Todo_m x0 x1)) ∧ Below w.heap.size w w' := by
 have r5 := r_0
 obtain ⟨m1, A2, c3, rfl, q4⟩ := r_0
 refine ce2 (L := [(0, .slice A2 x0.length c3), (1, .int .i64 x1)]) (N := 39) func208 ?_
 refine sr (wa (nt' (CM_seq (sr (wa (nt' (CM_block ?_)))))))
 let F1 := fun k (_ : Unit) => spec_l9Todo_b1 x0 x1 k
 let R2 := rng (R := Bool) F1
 refine CM_loop (σ := Nat × (Unit) × (Unit)) (fun s => [(0, .slice A2 x0.length c3), (1, .int .i64 x1), (5, .int .i64 ((s.1 : Nat) : Int))]) (fun s => []) (fun s => s.1 ≤ x0.length ∧ R2 (x0.length - s.1) s.1 s.2.1 = R2 (x0.length - 0) 0 ()) (fun s => x0.length - s.1) (0, (), ()) sl3 (fun W hm => hm) ⟨(by omega), rfl⟩ ?_
 rintro ⟨k6, ⟨⟩, ⟨⟩⟩ H9
 obtain ⟨hk7, hF8⟩ : k6 ≤ x0.length ∧ R2 (x0.length - k6) k6 () = R2 (x0.length - 0) 0 () := H9
 show CM Tryz.prog 39 _ _ _ _ [(0, .slice A2 x0.length c3), (1, .int .i64 x1), (5, .int .i64 ((k6 : Nat) : Int))] []
 refine CM_seq (sr (wm (wm ?_)))
 refine wv (vlen underlying25) ?_
 refine wv vlss ?_
 refine nt' ?_
 by_cases hl10 : k6 < x0.length
 ·have g11 : (decide (((k6 : Nat) : Int) < ((x0.length : Nat) : Int))) = true := decide_eq_true (by omega)
  refine CM_condT rfl g11 ?_
  refine CM_skip (QM_then (CM_seq (CM_block (CM_seq ?_))))
  refine CM_regionD (by kernel_rfl) (by kernel_rfl) ?_
  refine qm (qm ?_)
  obtain ⟨a12, rfl, hb13, he14⟩ := q4 (by omega)
  refine qv (vix 1 k6 underlying25 type3) ?_
  refine qv (fun W hm => rv_load underlying3 rfl rfl ((hm.cell0 (show (a12.add (k6 * 1)).block < w.heap.size from by rw [add_block]; exact hb13.1)).trans (rdS_int he14 k6 (by omega)))) ?_
  refine qm ?_
  refine qv (fun W hm => rv_sub rfl rfl) ?_
  refine QR_callV (cl_fn cb128 rfl) (fun W hm => spec_l1In_c W (gt x0 k6) 0 (IntKind.i64.wrap (x1 - 1))) (Wd_none rfl) (by decide) ?_
  refine qv vnot ?_
  refine qm ?_
  rcases Bool.eq_false_or_eq_true (spec_l1In_m (gt x0 k6) 0 (IntKind.i64.wrap (x1 - 1))) with g16 | g16
  ·
   have hw := spec_l1In_fact g16
   refine qg vmv (nt g16) ?_
   refine qg (fun W hm => rv_gtr rfl rfl) (nt g16) ?_
   refine qg vmv (nt g16) ?_
   by_cases h17 : 0 < ((k6 : Nat) : Int)
   ·have g18 : (decide (0 < ((k6 : Nat) : Int))) = true := decide_eq_true h17
    refine qg vmv g18 ?_
    refine qg vmv g18 ?_
    refine qg (vix 1 k6 underlying25 type3) g18 ?_
    refine qg (fun W hm => rv_load underlying3 rfl rfl ((hm.cell0 (show (a12.add (k6 * 1)).block < w.heap.size from by rw [add_block]; exact hb13.1)).trans (rdS_int he14 k6 (by omega)))) g18 ?_
    refine qg vmv g18 ?_
    refine qg vmv g18 ?_
    refine qg (fun W hm => rv_subN (p := k6) (q := 1) rfl rfl (by omega) (by omega)) g18 ?_
    refine qg (fun W hm => rv_index (sz := 1) (k := k6 - 1) underlying25 type3 rfl rfl rfl (by omega)) g18 ?_
    refine qg (fun W hm => rv_load underlying3 rfl rfl ((hm.cell0 (show (a12.add ((k6 - 1) * 1)).block < w.heap.size from by rw [add_block]; exact hb13.1)).trans (rdS_int he14 (k6 - 1) (by omega)))) g18 ?_
    refine qg (fun W hm => rv_leq rfl rfl) g18 ?_
    refine qg (vpT g18) (nt g16) ?_
    refine qv (vpF (nt g16)) ?_
    refine nq' ?_
    by_cases h19 : (gt x0 k6) ≤ (gt x0 (k6 - 1))
    ·have g20 : (decide ((gt x0 k6) ≤ (gt x0 (k6 - 1)))) = true := decide_eq_true h19
     refine CM_condT rfl g20 ?_
     refine sr (wa (nt' (CM_ret (QM_block_ret (QM_then_ret (QM_then_ret (QM_block_ret (QM_then_ret ?_))))))))
     exact rtb (h := by unfold spec_l9Todo_m; exact fin_inl (rng_ret (body := F1) (k := k6) (s := ()) (show k6 < x0.length from by omega) (show spec_l9Todo_b1 x0 x1 k6 = Sum.inl false from by unfold spec_l9Todo_b1; exact cond_t g16 (cond_t g18 (cond_t g20 (rfl)))) hF8) rfl)
    ·have g20 : (decide ((gt x0 k6) ≤ (gt x0 (k6 - 1)))) = false := decide_eq_false h19
     refine CM_condF rfl g20 ?_
     refine CM_skip (QM_block_normal (QM_then (CM_region (wm ?_))))
     refine wv (vadN k6 1 (by omega)) ?_
     refine wa (WM_nil ?_)
     have hn21 := rng_next (R := Bool) (body := F1) (k := k6) (s := ()) (s' := ()) (show k6 < x0.length from by omega) (show spec_l9Todo_b1 x0 x1 k6 = Sum.inr () from by unfold spec_l9Todo_b1; exact cond_t g16 (cond_t g18 (cond_f g20 (rfl)))) hF8
     exact QM_round (k6 + 1, (), ()) sl3 (fun W hm => hm) ⟨(by omega), hn21⟩ (rl (by omega))
   ·have g18 : (decide (0 < ((k6 : Nat) : Int))) = false := decide_eq_false h17
    refine qs g18 ?_
    refine qs g18 ?_
    refine qs g18 ?_
    refine qs g18 ?_
    refine qs g18 ?_
    refine qs g18 ?_
    refine qs g18 ?_
    refine qs g18 ?_
    refine qs g18 ?_
    refine qs g18 ?_
    refine qg (vpF g18) (nt g16) ?_
    refine qv (vpF (nt g16)) ?_
    refine nq' ?_
    refine CM_condF rfl rfl ?_
    refine CM_skip (QM_block_normal (QM_then (CM_region (wm ?_))))
    refine wv (vadN k6 1 (by omega)) ?_
    refine wa (WM_nil ?_)
    have hn22 := rng_next (R := Bool) (body := F1) (k := k6) (s := ()) (s' := ()) (show k6 < x0.length from by omega) (show spec_l9Todo_b1 x0 x1 k6 = Sum.inr () from by unfold spec_l9Todo_b1; exact cond_t g16 (cond_f g18 (rfl))) hF8
    exact QM_round (k6 + 1, (), ()) sl3 (fun W hm => hm) ⟨(by omega), hn22⟩ (rl (by omega))
  ·
   refine qs (nf g16) ?_
   refine qs (nf g16) ?_
   refine qs (nf g16) ?_
   refine qu ?_
   refine qu ?_
   refine qu ?_
   refine qu ?_
   refine qu ?_
   refine qu ?_
   refine qu ?_
   refine qu ?_
   refine qu ?_
   refine qu ?_
   refine qs (nf g16) ?_
   refine qv (vpT (nf g16)) ?_
   refine nq' ?_
   refine CM_condT rfl rfl ?_
   refine sr (wa (nt' (CM_ret (QM_block_ret (QM_then_ret (QM_then_ret (QM_block_ret (QM_then_ret ?_))))))))
   exact rtb (h := by unfold spec_l9Todo_m; exact fin_inl (rng_ret (body := F1) (k := k6) (s := ()) (show k6 < x0.length from by omega) (show spec_l9Todo_b1 x0 x1 k6 = Sum.inl false from by unfold spec_l9Todo_b1; exact cond_f g16 (rfl)) hF8) rfl)
 ·have g11 : (decide (((k6 : Nat) : Int) < ((x0.length : Nat) : Int))) = false := decide_eq_false (by omega)
  refine CM_condF rfl g11 ?_
  refine CM_exit (QM_then_exit (QM_then_exit ?_))
  have hE23 : R2 (x0.length - 0) 0 () = Sum.inr () := rng_end hl10 hF8
  refine QM_block_hit (QM_then (sr (wm ?_)))
  refine wv (vlen underlying25) ?_
  refine wv (fun W hm => rv_gtr rfl rfl) ?_
  refine wa (nt' (CM_ret ?_))
  exact rtb (h := by unfold spec_l9Todo_m; exact fin_inr hE23 (rfl))

def spec_l9List_b1 (x0 : (List DRow)) (k6 : Nat) : Bool ⊕ (Unit) :=
 cond (spec_IsRow_m (gt x0 k6)) (Sum.inr ()) (Sum.inl false)
def spec_l9List_m (x0 : (List DRow)) : Bool :=
 Sum.elim id (fun (s : Unit) => (decide (((x0.length : Nat) : Int) ≤ 1000))) (rng (R := Bool) (fun k (_ : Unit) => spec_l9List_b1 x0 k) (x0.length - 0) 0 ())
theorem cb153 : Cb Tryz.prog 153 := ⟨f153, _, func153, rfl, by decide⟩
theorem spec_l9List_c (w : World) (z0 : Value) (x0 : (List DRow)) (r_0 : rdS tyRow w w.heap.size z0 x0) :
  Calls Tryz.prog 153 #[z0] w fun e w' => e = .returned (.bool (spec_l9List_m x0)) ∧ Below w.heap.size w w' := by
 have r5 := r_0
 obtain ⟨m1, A2, c3, rfl, q4⟩ := r_0
 refine ce1 (L := [(0, .slice A2 x0.length c3)]) (N := 19) func153 ?_
 refine sr (wa (nt' (CM_seq (sr (wa (nt' (CM_block ?_)))))))
 let F1 := fun k (_ : Unit) => spec_l9List_b1 x0 k
 let R2 := rng (R := Bool) F1
 refine CM_loop (σ := Nat × (Unit) × (Unit)) (fun s => [(0, .slice A2 x0.length c3), (3, .int .i64 ((s.1 : Nat) : Int))]) (fun s => []) (fun s => s.1 ≤ x0.length ∧ R2 (x0.length - s.1) s.1 s.2.1 = R2 (x0.length - 0) 0 ()) (fun s => x0.length - s.1) (0, (), ()) sl2 (fun W hm => hm) ⟨(by omega), rfl⟩ ?_
 rintro ⟨k6, ⟨⟩, ⟨⟩⟩ H9
 obtain ⟨hk7, hF8⟩ : k6 ≤ x0.length ∧ R2 (x0.length - k6) k6 () = R2 (x0.length - 0) 0 () := H9
 show CM Tryz.prog 19 _ _ _ _ [(0, .slice A2 x0.length c3), (3, .int .i64 ((k6 : Nat) : Int))] []
 refine CM_seq (sr (wm (wm ?_)))
 refine wv (vlen underlying35) ?_
 refine wv vlss ?_
 refine nt' ?_
 by_cases hl10 : k6 < x0.length
 ·have g11 : (decide (((k6 : Nat) : Int) < ((x0.length : Nat) : Int))) = true := decide_eq_true (by omega)
  refine CM_condT rfl g11 ?_
  refine CM_skip (QM_then (CM_seq (CM_block (sr (wm (wm ?_))))))
  obtain ⟨a12, rfl, hb13, he14⟩ := q4 (by omega)
  refine wv (vix 2 k6 underlying35 type73) ?_
  obtain ⟨_, e18, hc15⟩ := he14 k6 _ (gt_some (show k6 < x0.length from by omega))
  obtain ⟨v16, rfl, r17⟩ := tyRow_rd e18
  have r23 := r17
  obtain ⟨m19, A20, c21, rfl, q22⟩ := r17
  refine wv (fun W hm => rv_loadN (cs := [.int .i64 ((gt x0 k6).Id), .slice A20 ((gt x0 k6).Values).length c21]) underlying73 type73 rfl rfl (hm.elCells (show (a12.add (k6 * 2)).block < w.heap.size from by rw [add_block]; exact hb13.1) hc15)) ?_
  refine wcv (cl_fn cb209 rfl) (fun W hm => spec_IsRow_c W _ (gt x0 k6) (tyRow_mk (x := (gt x0 k6)) (hm.rdS0 r23))) ?_
  refine wv vnot ?_
  refine nt' ?_
  rcases Bool.eq_false_or_eq_true (spec_IsRow_m (gt x0 k6)) with g25 | g25
  ·
   refine CM_condF rfl (nt g25) ?_
   refine CM_skip (QM_block_normal (QM_then (CM_region (wm ?_))))
   refine wv (vadN k6 1 (by omega)) ?_
   refine wa (WM_nil ?_)
   have hn26 := rng_next (R := Bool) (body := F1) (k := k6) (s := ()) (s' := ()) (show k6 < x0.length from by omega) (show spec_l9List_b1 x0 k6 = Sum.inr () from by unfold spec_l9List_b1; exact cond_t g25 (rfl)) hF8
   exact QM_round (k6 + 1, (), ()) sl2 (fun W hm => hm) ⟨(by omega), hn26⟩ (rl (by omega))
  ·
   refine CM_condT rfl (nf g25) ?_
   refine sr (wa (nt' (CM_ret (QM_block_ret (QM_then_ret (QM_then_ret (QM_block_ret (QM_then_ret ?_))))))))
   exact rtb (h := by unfold spec_l9List_m; exact fin_inl (rng_ret (body := F1) (k := k6) (s := ()) (show k6 < x0.length from by omega) (show spec_l9List_b1 x0 k6 = Sum.inl false from by unfold spec_l9List_b1; exact cond_f g25 (rfl)) hF8) rfl)
 ·have g11 : (decide (((k6 : Nat) : Int) < ((x0.length : Nat) : Int))) = false := decide_eq_false (by omega)
  refine CM_condF rfl g11 ?_
  refine CM_exit (QM_then_exit (QM_then_exit ?_))
  have hE27 : R2 (x0.length - 0) 0 () = Sum.inr () := rng_end hl10 hF8
  refine QM_block_hit (QM_then (sr (wm ?_)))
  refine wv (vlen underlying35) ?_
  refine wv (fun W hm => rv_leq rfl rfl) ?_
  refine wa (nt' (CM_ret ?_))
  exact rtb (h := by unfold spec_l9List_m; exact fin_inr hE27 (rfl))

end Go.Proofs.YtmikmbmdibabmaaGreat
