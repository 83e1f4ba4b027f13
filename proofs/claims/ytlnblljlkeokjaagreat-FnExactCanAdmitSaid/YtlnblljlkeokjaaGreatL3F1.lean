/-
  Contracts of functions, printed by a program of ours.
-/
import Derived.Test.YtlnblljlkeokjaaGreatDat
namespace Go.Proofs.YtlnblljlkeokjaaGreat
open Go.RowKit
set_option maxRecDepth 100000
set_option maxHeartbeats 4000000
open _root_.Go.Proofs.Tryz
def laws_szIntS_m (x0 : (List Int)) (x1 : Int) : Int :=
 cond (decide ((IntKind.i64.wrap (x1 - ((x0.length : Nat) : Int))) < 0)) (-1) (IntKind.i64.wrap (x1 - ((x0.length : Nat) : Int)))
theorem cb13 : Cb Tryz.prog 13 := ⟨f13, _, func13, rfl, by decide⟩
theorem laws_szIntS_c (w : World) (z0 : Value) (x0 : (List Int)) (x1 : Int) (r_0 : rdS tInt w w.heap.size z0 x0) :
  Calls Tryz.prog 13 #[z0, .int .i64 x1] w fun e w' => e = .returned (.int .i64 (laws_szIntS_m x0 x1)) ∧ Below w.heap.size w w' := by
 have r5 := r_0
 obtain ⟨m1, A2, c3, rfl, q4⟩ := r_0
 refine ce2 (L := [(0, .slice A2 x0.length c3), (1, .int .i64 x1)]) (N := 12) func13 ?_
 refine sr (wa (nt' (sr (wm (wm ?_)))))
 refine wv (vlen underlying25) ?_
 refine wv (fun W hm => rv_sub rfl rfl) ?_
 refine wa (nt' (CM_seq (sr (wm ?_))))
 refine wv vlss ?_
 refine nt' ?_
 by_cases h6 : (IntKind.i64.wrap (x1 - ((x0.length : Nat) : Int))) < 0
 ·have g7 : (decide ((IntKind.i64.wrap (x1 - ((x0.length : Nat) : Int))) < 0)) = true := decide_eq_true h6
  refine CM_condT rfl g7 ?_
  refine sr (wa (nt' (CM_ret (QM_then_ret ?_))))
  exact rti (h := by unfold laws_szIntS_m; exact cond_t g7 (rfl))
 ·have g7 : (decide ((IntKind.i64.wrap (x1 - ((x0.length : Nat) : Int))) < 0)) = false := decide_eq_false h6
  refine CM_condF rfl g7 ?_
  refine CM_skip (QM_then (sr (wm (wa (nt' (CM_ret ?_))))))
  exact rti (h := by unfold laws_szIntS_m; exact cond_f g7 (rfl))

def laws_szVersion_m (x0 : DVersion) (x1 : Int) : Int :=
 cond (decide ((laws_szIntS_m x0.Values x1) < 0)) (-1) (laws_szIntS_m x0.Values x1)
theorem cb88 : Cb Tryz.prog 88 := ⟨f88, _, func88, rfl, by decide⟩
theorem laws_szVersion_c (w : World) (z0 : List Value) (x0 : DVersion) (x1 : Int) (r_0 : tyLVersion.rd w w.heap.size z0 x0) :
  Calls Tryz.prog 88 #[.agg z0.toArray, .int .i64 x1] w fun e w' => e = .returned (.int .i64 (laws_szVersion_m x0 x1)) ∧ Below w.heap.size w w' := by
 obtain ⟨v1, rfl, r2⟩ := tyLVersion_rd r_0
 have r7 := r2
 obtain ⟨m3, A4, c5, rfl, q6⟩ := r2
 refine ce2 (L := [(0, .agg #[.int .i64 x0.Id, .slice A4 x0.Values.length c5, .int .i64 x0.Born, .int .i64 x0.Died]), (1, .int .i64 x1)]) (N := 12) func88 ?_
 refine sr ?_
 refine WM_box rfl (Wd_none rfl) (by decide) (fun p8 => ?_)
 refine wa (nt' (sr ?_))
 refine wv (vf underlying133 rfl type25) ?_
 refine wv (vl 0 1 underlying25) ?_
 refine wm ?_
 refine wcv (cl_fn cb13 rfl) (fun W hm => laws_szIntS_c W _ x0.Values x1 (hm.rdS0 r7)) ?_
 refine wa (nt' (CM_seq (sr (wm ?_))))
 refine wv vlss ?_
 refine nt' ?_
 by_cases h9 : (laws_szIntS_m x0.Values x1) < 0
 ·have g10 : (decide ((laws_szIntS_m x0.Values x1) < 0)) = true := decide_eq_true h9
  refine CM_condT rfl g10 ?_
  refine sr (wa (nt' (CM_ret (QM_then_ret ?_))))
  exact rti (h := by unfold laws_szVersion_m; exact cond_t g10 (rfl))
 ·have g10 : (decide ((laws_szIntS_m x0.Values x1) < 0)) = false := decide_eq_false h9
  refine CM_condF rfl g10 ?_
  refine CM_skip (QM_then (sr (wm (wa (nt' (CM_ret ?_))))))
  exact rti (h := by unfold laws_szVersion_m; exact cond_f g10 (rfl))

def laws_szVersionS_b1 (x0 : (List DVersion)) (k8 : Nat) (s9 : Int) : Int ⊕ (Int) :=
 cond (decide ((laws_szVersion_m (gt x0 k8) s9) < 0)) (Sum.inl (-1)) (Sum.inr (laws_szVersion_m (gt x0 k8) s9))
def laws_szVersionS_m (x0 : (List DVersion)) (x1 : Int) : Int :=
 cond (decide ((IntKind.i64.wrap (x1 - ((x0.length : Nat) : Int))) < 0)) (-1) (Sum.elim id (fun (s : Int) => s) (rng (R := Int) (fun k (s : Int) => laws_szVersionS_b1 x0 k s) (x0.length - 0) 0 (IntKind.i64.wrap (x1 - ((x0.length : Nat) : Int)))))
theorem cb60 : Cb Tryz.prog 60 := ⟨f60, _, func60, rfl, by decide⟩
theorem laws_szVersionS_c (w : World) (z0 : Value) (x0 : (List DVersion)) (x1 : Int) (r_0 : rdS tyLVersion w w.heap.size z0 x0) :
  Calls Tryz.prog 60 #[z0, .int .i64 x1] w fun e w' => e = .returned (.int .i64 (laws_szVersionS_m x0 x1)) ∧ Below w.heap.size w w' := by
 have r5 := r_0
 obtain ⟨m1, A2, c3, rfl, q4⟩ := r_0
 refine ce2 (L := [(0, .slice A2 x0.length c3), (1, .int .i64 x1)]) (N := 27) func60 ?_
 refine sr (wa (nt' (sr (wm (wm ?_)))))
 refine wv (vlen underlying111) ?_
 refine wv (fun W hm => rv_sub rfl rfl) ?_
 refine wa (nt' (CM_seq (sr (wm ?_))))
 refine wv vlss ?_
 refine nt' ?_
 by_cases h6 : (IntKind.i64.wrap (x1 - ((x0.length : Nat) : Int))) < 0
 ·have g7 : (decide ((IntKind.i64.wrap (x1 - ((x0.length : Nat) : Int))) < 0)) = true := decide_eq_true h6
  refine CM_condT rfl g7 ?_
  refine sr (wa (nt' (CM_ret (QM_then_ret ?_))))
  exact rti (h := by unfold laws_szVersionS_m; exact cond_t g7 (rfl))
 ·have g7 : (decide ((IntKind.i64.wrap (x1 - ((x0.length : Nat) : Int))) < 0)) = false := decide_eq_false h6
  refine CM_condF rfl g7 ?_
  refine CM_skip (QM_then (CM_seq (sr (wa (nt' (CM_block ?_))))))
  let F1 := fun k (s : Int) => laws_szVersionS_b1 x0 k s
  let R2 := rng (R := Int) F1
  refine CM_loop (σ := Nat × (Int) × (Unit)) (fun s => [(0, .slice A2 x0.length c3), (1, .int .i64 s.2.1), (5, .int .i64 ((s.1 : Nat) : Int))]) (fun s => []) (fun s => s.1 ≤ x0.length ∧ R2 (x0.length - s.1) s.1 s.2.1 = R2 (x0.length - 0) 0 (IntKind.i64.wrap (x1 - ((x0.length : Nat) : Int)))) (fun s => x0.length - s.1) (0, (IntKind.i64.wrap (x1 - ((x0.length : Nat) : Int))), ()) sl3 (fun W hm => hm) ⟨(by omega), rfl⟩ ?_
  rintro ⟨k8, s9, ⟨⟩⟩ H12
  obtain ⟨hk10, hF11⟩ : k8 ≤ x0.length ∧ R2 (x0.length - k8) k8 s9 = R2 (x0.length - 0) 0 (IntKind.i64.wrap (x1 - ((x0.length : Nat) : Int))) := H12
  show CM Tryz.prog 27 _ _ _ _ [(0, .slice A2 x0.length c3), (1, .int .i64 s9), (5, .int .i64 ((k8 : Nat) : Int))] []
  refine CM_seq (sr (wm (wm ?_)))
  refine wv (vlen underlying111) ?_
  refine wv vlss ?_
  refine nt' ?_
  by_cases hl13 : k8 < x0.length
  ·have g14 : (decide (((k8 : Nat) : Int) < ((x0.length : Nat) : Int))) = true := decide_eq_true (by omega)
   refine CM_condT rfl g14 ?_
   refine CM_skip (QM_then (CM_seq (CM_block (sr (wm (wm ?_))))))
   obtain ⟨a15, rfl, hb16, he17⟩ := q4 (by omega)
   refine wv (vix 4 k8 underlying111 type133) ?_
   obtain ⟨_, e21, hc18⟩ := he17 k8 _ (gt_some (show k8 < x0.length from by omega))
   obtain ⟨v19, rfl, r20⟩ := tyLVersion_rd e21
   have r26 := r20
   obtain ⟨m22, A23, c24, rfl, q25⟩ := r20
   refine wv (fun W hm => rv_loadN (cs := [.int .i64 ((gt x0 k8).Id), .slice A23 ((gt x0 k8).Values).length c24, .int .i64 ((gt x0 k8).Born), .int .i64 ((gt x0 k8).Died)]) underlying133 type133 rfl rfl (hm.elCells (show (a15.add (k8 * 4)).block < w.heap.size from by rw [add_block]; exact hb16.1) hc18)) ?_
   refine wm ?_
   refine wcv (cl_fn cb88 rfl) (fun W hm => laws_szVersion_c W _ (gt x0 k8) s9 (tyLVersion_mk (x := (gt x0 k8)) (hm.rdS0 r26))) ?_
   refine wa (nt' (sr (wm ?_)))
   refine wv vlss ?_
   refine nt' ?_
   by_cases h27 : (laws_szVersion_m (gt x0 k8) s9) < 0
   ·have g28 : (decide ((laws_szVersion_m (gt x0 k8) s9) < 0)) = true := decide_eq_true h27
    refine CM_condT rfl g28 ?_
    refine sr (wa (nt' (CM_ret (QM_block_ret (QM_then_ret (QM_then_ret (QM_block_ret (QM_then_ret ?_))))))))
    exact rti (h := by unfold laws_szVersionS_m; exact cond_f g7 (fin_inl (rng_ret (body := F1) (k := k8) (s := s9) (show k8 < x0.length from by omega) (show laws_szVersionS_b1 x0 k8 s9 = Sum.inl (-1) from by unfold laws_szVersionS_b1; exact cond_t g28 (rfl)) hF11) rfl))
   ·have g28 : (decide ((laws_szVersion_m (gt x0 k8) s9) < 0)) = false := decide_eq_false h27
    refine CM_condF rfl g28 ?_
    refine CM_skip (QM_block_normal (QM_then (CM_region (wm ?_))))
    refine wv (vadN k8 1 (by omega)) ?_
    refine wa (WM_nil ?_)
    have hn29 := rng_next (R := Int) (body := F1) (k := k8) (s := s9) (s' := (laws_szVersion_m (gt x0 k8) s9)) (show k8 < x0.length from by omega) (show laws_szVersionS_b1 x0 k8 s9 = Sum.inr (laws_szVersion_m (gt x0 k8) s9) from by unfold laws_szVersionS_b1; exact cond_f g28 (rfl)) hF11
    exact QM_round (k8 + 1, (laws_szVersion_m (gt x0 k8) s9), ()) sl3 (fun W hm => hm) ⟨(by omega), hn29⟩ (rl (by omega))
  ·have g14 : (decide (((k8 : Nat) : Int) < ((x0.length : Nat) : Int))) = false := decide_eq_false (by omega)
   refine CM_condF rfl g14 ?_
   refine CM_exit (QM_then_exit (QM_then_exit ?_))
   have hE30 : R2 (x0.length - 0) 0 (IntKind.i64.wrap (x1 - ((x0.length : Nat) : Int))) = Sum.inr s9 := rng_end hl13 hF11
   refine QM_block_hit (QM_then (sr (wm (wa (nt' (CM_ret ?_))))))
   exact rti (h := by unfold laws_szVersionS_m; exact cond_f g7 (fin_inr hE30 (rfl)))

def laws_szVersionSS_b1 (x0 : (List (List DVersion))) (k8 : Nat) (s9 : Int) : Int ⊕ (Int) :=
 cond (decide ((laws_szVersionS_m (gt x0 k8) s9) < 0)) (Sum.inl (-1)) (Sum.inr (laws_szVersionS_m (gt x0 k8) s9))
def laws_szVersionSS_m (x0 : (List (List DVersion))) (x1 : Int) : Int :=
 cond (decide ((IntKind.i64.wrap (x1 - ((x0.length : Nat) : Int))) < 0)) (-1) (Sum.elim id (fun (s : Int) => s) (rng (R := Int) (fun k (s : Int) => laws_szVersionSS_b1 x0 k s) (x0.length - 0) 0 (IntKind.i64.wrap (x1 - ((x0.length : Nat) : Int)))))
theorem cb34 : Cb Tryz.prog 34 := ⟨f34, _, func34, rfl, by decide⟩
theorem laws_szVersionSS_c (w : World) (z0 : Value) (x0 : (List (List DVersion))) (x1 : Int) (r_0 : rdS (tSl tyLVersion 133) w w.heap.size z0 x0) :
  Calls Tryz.prog 34 #[z0, .int .i64 x1] w fun e w' => e = .returned (.int .i64 (laws_szVersionSS_m x0 x1)) ∧ Below w.heap.size w w' := by
 have r5 := r_0
 obtain ⟨m1, A2, c3, rfl, q4⟩ := r_0
 refine ce2 (L := [(0, .slice A2 x0.length c3), (1, .int .i64 x1)]) (N := 27) func34 ?_
 refine sr (wa (nt' (sr (wm (wm ?_)))))
 refine wv (vlen underlying22) ?_
 refine wv (fun W hm => rv_sub rfl rfl) ?_
 refine wa (nt' (CM_seq (sr (wm ?_))))
 refine wv vlss ?_
 refine nt' ?_
 by_cases h6 : (IntKind.i64.wrap (x1 - ((x0.length : Nat) : Int))) < 0
 ·have g7 : (decide ((IntKind.i64.wrap (x1 - ((x0.length : Nat) : Int))) < 0)) = true := decide_eq_true h6
  refine CM_condT rfl g7 ?_
  refine sr (wa (nt' (CM_ret (QM_then_ret ?_))))
  exact rti (h := by unfold laws_szVersionSS_m; exact cond_t g7 (rfl))
 ·have g7 : (decide ((IntKind.i64.wrap (x1 - ((x0.length : Nat) : Int))) < 0)) = false := decide_eq_false h6
  refine CM_condF rfl g7 ?_
  refine CM_skip (QM_then (CM_seq (sr (wa (nt' (CM_block ?_))))))
  let F1 := fun k (s : Int) => laws_szVersionSS_b1 x0 k s
  let R2 := rng (R := Int) F1
  refine CM_loop (σ := Nat × (Int) × (Unit)) (fun s => [(0, .slice A2 x0.length c3), (1, .int .i64 s.2.1), (5, .int .i64 ((s.1 : Nat) : Int))]) (fun s => []) (fun s => s.1 ≤ x0.length ∧ R2 (x0.length - s.1) s.1 s.2.1 = R2 (x0.length - 0) 0 (IntKind.i64.wrap (x1 - ((x0.length : Nat) : Int)))) (fun s => x0.length - s.1) (0, (IntKind.i64.wrap (x1 - ((x0.length : Nat) : Int))), ()) sl3 (fun W hm => hm) ⟨(by omega), rfl⟩ ?_
  rintro ⟨k8, s9, ⟨⟩⟩ H12
  obtain ⟨hk10, hF11⟩ : k8 ≤ x0.length ∧ R2 (x0.length - k8) k8 s9 = R2 (x0.length - 0) 0 (IntKind.i64.wrap (x1 - ((x0.length : Nat) : Int))) := H12
  show CM Tryz.prog 27 _ _ _ _ [(0, .slice A2 x0.length c3), (1, .int .i64 s9), (5, .int .i64 ((k8 : Nat) : Int))] []
  refine CM_seq (sr (wm (wm ?_)))
  refine wv (vlen underlying22) ?_
  refine wv vlss ?_
  refine nt' ?_
  by_cases hl13 : k8 < x0.length
  ·have g14 : (decide (((k8 : Nat) : Int) < ((x0.length : Nat) : Int))) = true := decide_eq_true (by omega)
   refine CM_condT rfl g14 ?_
   refine CM_skip (QM_then (CM_seq (CM_block (sr (wm (wm ?_))))))
   obtain ⟨a15, rfl, hb16, he17⟩ := q4 (by omega)
   refine wv (vix 1 k8 underlying22 type111) ?_
   obtain ⟨_, e19, hc18⟩ := he17 k8 _ (gt_some (show k8 < x0.length from by omega))
   obtain ⟨v20, rfl, r21⟩ := e19
   have r26 := r21
   obtain ⟨m22, A23, c24, rfl, q25⟩ := r21
   refine wv (fun W hm => rv_load underlying111 rfl rfl ((hm.cell0 (show (a15.add (k8 * 1)).block < w.heap.size from by rw [add_block]; exact hb16.1)).trans (hc18 0 _ rfl))) ?_
   refine wm ?_
   refine wcv (cl_fn cb60 rfl) (fun W hm => laws_szVersionS_c W _ (gt x0 k8) s9 (hm.rdS0 r26)) ?_
   refine wa (nt' (sr (wm ?_)))
   refine wv vlss ?_
   refine nt' ?_
   by_cases h27 : (laws_szVersionS_m (gt x0 k8) s9) < 0
   ·have g28 : (decide ((laws_szVersionS_m (gt x0 k8) s9) < 0)) = true := decide_eq_true h27
    refine CM_condT rfl g28 ?_
    refine sr (wa (nt' (CM_ret (QM_block_ret (QM_then_ret (QM_then_ret (QM_block_ret (QM_then_ret ?_))))))))
    exact rti (h := by unfold laws_szVersionSS_m; exact cond_f g7 (fin_inl (rng_ret (body := F1) (k := k8) (s := s9) (show k8 < x0.length from by omega) (show laws_szVersionSS_b1 x0 k8 s9 = Sum.inl (-1) from by unfold laws_szVersionSS_b1; exact cond_t g28 (rfl)) hF11) rfl))
   ·have g28 : (decide ((laws_szVersionS_m (gt x0 k8) s9) < 0)) = false := decide_eq_false h27
    refine CM_condF rfl g28 ?_
    refine CM_skip (QM_block_normal (QM_then (CM_region (wm ?_))))
    refine wv (vadN k8 1 (by omega)) ?_
    refine wa (WM_nil ?_)
    have hn29 := rng_next (R := Int) (body := F1) (k := k8) (s := s9) (s' := (laws_szVersionS_m (gt x0 k8) s9)) (show k8 < x0.length from by omega) (show laws_szVersionSS_b1 x0 k8 s9 = Sum.inr (laws_szVersionS_m (gt x0 k8) s9) from by unfold laws_szVersionSS_b1; exact cond_f g28 (rfl)) hF11
    exact QM_round (k8 + 1, (laws_szVersionS_m (gt x0 k8) s9), ()) sl3 (fun W hm => hm) ⟨(by omega), hn29⟩ (rl (by omega))
  ·have g14 : (decide (((k8 : Nat) : Int) < ((x0.length : Nat) : Int))) = false := decide_eq_false (by omega)
   refine CM_condF rfl g14 ?_
   refine CM_exit (QM_then_exit (QM_then_exit ?_))
   have hE30 : R2 (x0.length - 0) 0 (IntKind.i64.wrap (x1 - ((x0.length : Nat) : Int))) = Sum.inr s9 := rng_end hl13 hF11
   refine QM_block_hit (QM_then (sr (wm (wa (nt' (CM_ret ?_))))))
   exact rti (h := by unfold laws_szVersionSS_m; exact cond_f g7 (fin_inr hE30 (rfl)))

def laws_szStore_m (x0 : DStore) (x1 : Int) : Int :=
 cond (decide ((laws_szVersionSS_m x0.Segments x1) < 0)) (-1) (laws_szVersionSS_m x0.Segments x1)
theorem cb12 : Cb Tryz.prog 12 := ⟨f12, _, func12, rfl, by decide⟩
theorem laws_szStore_c (w : World) (z0 : List Value) (x0 : DStore) (x1 : Int) (r_0 : tyLStore.rd w w.heap.size z0 x0) :
  Calls Tryz.prog 12 #[.agg z0.toArray, .int .i64 x1] w fun e w' => e = .returned (.int .i64 (laws_szStore_m x0 x1)) ∧ Below w.heap.size w w' := by
 obtain ⟨v1, rfl, r2⟩ := tyLStore_rd r_0
 have r7 := r2
 obtain ⟨m3, A4, c5, rfl, q6⟩ := r2
 refine ce2 (L := [(0, .agg #[.slice A4 x0.Segments.length c5, .int .i64 x0.Now]), (1, .int .i64 x1)]) (N := 12) func12 ?_
 refine sr ?_
 refine WM_box rfl (Wd_none rfl) (by decide) (fun p8 => ?_)
 refine wa (nt' (sr ?_))
 refine wv (vf underlying24 rfl type22) ?_
 refine wv (vl 0 0 underlying22) ?_
 refine wm ?_
 refine wcv (cl_fn cb34 rfl) (fun W hm => laws_szVersionSS_c W _ x0.Segments x1 (hm.rdS0 r7)) ?_
 refine wa (nt' (CM_seq (sr (wm ?_))))
 refine wv vlss ?_
 refine nt' ?_
 by_cases h9 : (laws_szVersionSS_m x0.Segments x1) < 0
 ·have g10 : (decide ((laws_szVersionSS_m x0.Segments x1) < 0)) = true := decide_eq_true h9
  refine CM_condT rfl g10 ?_
  refine sr (wa (nt' (CM_ret (QM_then_ret ?_))))
  exact rti (h := by unfold laws_szStore_m; exact cond_t g10 (rfl))
 ·have g10 : (decide ((laws_szVersionSS_m x0.Segments x1) < 0)) = false := decide_eq_false h9
  refine CM_condF rfl g10 ?_
  refine CM_skip (QM_then (sr (wm (wa (nt' (CM_ret ?_))))))
  exact rti (h := by unfold laws_szStore_m; exact cond_f g10 (rfl))

def laws_szCondS_m (x0 : (List DCond)) (x1 : Int) : Int :=
 cond (decide ((IntKind.i64.wrap (x1 - ((x0.length : Nat) : Int))) < 0)) (-1) (IntKind.i64.wrap (x1 - ((x0.length : Nat) : Int)))
theorem cb17 : Cb Tryz.prog 17 := ⟨f17, _, func17, rfl, by decide⟩
theorem laws_szCondS_c (w : World) (z0 : Value) (x0 : (List DCond)) (x1 : Int) (r_0 : rdS tyLCond w w.heap.size z0 x0) :
  Calls Tryz.prog 17 #[z0, .int .i64 x1] w fun e w' => e = .returned (.int .i64 (laws_szCondS_m x0 x1)) ∧ Below w.heap.size w w' := by
 have r5 := r_0
 obtain ⟨m1, A2, c3, rfl, q4⟩ := r_0
 refine ce2 (L := [(0, .slice A2 x0.length c3), (1, .int .i64 x1)]) (N := 12) func17 ?_
 refine sr (wa (nt' (sr (wm (wm ?_)))))
 refine wv (vlen underlying31) ?_
 refine wv (fun W hm => rv_sub rfl rfl) ?_
 refine wa (nt' (CM_seq (sr (wm ?_))))
 refine wv vlss ?_
 refine nt' ?_
 by_cases h6 : (IntKind.i64.wrap (x1 - ((x0.length : Nat) : Int))) < 0
 ·have g7 : (decide ((IntKind.i64.wrap (x1 - ((x0.length : Nat) : Int))) < 0)) = true := decide_eq_true h6
  refine CM_condT rfl g7 ?_
  refine sr (wa (nt' (CM_ret (QM_then_ret ?_))))
  exact rti (h := by unfold laws_szCondS_m; exact cond_t g7 (rfl))
 ·have g7 : (decide ((IntKind.i64.wrap (x1 - ((x0.length : Nat) : Int))) < 0)) = false := decide_eq_false h6
  refine CM_condF rfl g7 ?_
  refine CM_skip (QM_then (sr (wm (wa (nt' (CM_ret ?_))))))
  exact rti (h := by unfold laws_szCondS_m; exact cond_f g7 (rfl))

def laws_szQuery_m (x0 : DQuery) (x1 : Int) : Int :=
 cond (decide ((laws_szCondS_m x0.Conds x1) < 0)) (-1) (cond (decide ((laws_szIntS_m x0.Out (laws_szCondS_m x0.Conds x1)) < 0)) (-1) (laws_szIntS_m x0.Out (laws_szCondS_m x0.Conds x1)))
theorem cb5 : Cb Tryz.prog 5 := ⟨f5, _, func5, rfl, by decide⟩
theorem laws_szQuery_c (w : World) (z0 : List Value) (x0 : DQuery) (x1 : Int) (r_0 : tyLQuery.rd w w.heap.size z0 x0) :
  Calls Tryz.prog 5 #[.agg z0.toArray, .int .i64 x1] w fun e w' => e = .returned (.int .i64 (laws_szQuery_m x0 x1)) ∧ Below w.heap.size w w' := by
 obtain ⟨v1, v3, rfl, r2, r4⟩ := tyLQuery_rd r_0
 have r9 := r2
 obtain ⟨m5, A6, c7, rfl, q8⟩ := r2
 have r14 := r4
 obtain ⟨m10, A11, c12, rfl, q13⟩ := r4
 refine ce2 (L := [(0, .agg #[.int .i64 x0.Id, .int .i64 x0.Tenant, .slice A6 x0.Conds.length c7, .slice A11 x0.Out.length c12]), (1, .int .i64 x1)]) (N := 18) func5 ?_
 refine sr ?_
 refine WM_box rfl (Wd_none rfl) (by decide) (fun p15 => ?_)
 refine wa (nt' (sr ?_))
 refine wv (vf underlying33 rfl type31) ?_
 refine wv (vl 0 2 underlying31) ?_
 refine wm ?_
 refine wcv (cl_fn cb17 rfl) (fun W hm => laws_szCondS_c W _ x0.Conds x1 (hm.rdS0 r9)) ?_
 refine wa (nt' (CM_seq (sr (wm ?_))))
 refine wv vlss ?_
 refine nt' ?_
 by_cases h16 : (laws_szCondS_m x0.Conds x1) < 0
 ·have g17 : (decide ((laws_szCondS_m x0.Conds x1) < 0)) = true := decide_eq_true h16
  refine CM_condT rfl g17 ?_
  refine sr (wa (nt' (CM_ret (QM_then_ret ?_))))
  exact rti (h := by unfold laws_szQuery_m; exact cond_t g17 (rfl))
 ·have g17 : (decide ((laws_szCondS_m x0.Conds x1) < 0)) = false := decide_eq_false h16
  refine CM_condF rfl g17 ?_
  refine CM_skip (QM_then (sr ?_))
  refine wv (vf underlying33 rfl type25) ?_
  refine wv (vl 0 3 underlying25) ?_
  refine wm ?_
  refine wcv (cl_fn cb13 rfl) (fun W hm => laws_szIntS_c W _ x0.Out (laws_szCondS_m x0.Conds x1) (hm.rdS0 r14)) ?_
  refine wa (nt' (CM_seq (sr (wm ?_))))
  refine wv vlss ?_
  refine nt' ?_
  by_cases h18 : (laws_szIntS_m x0.Out (laws_szCondS_m x0.Conds x1)) < 0
  ·have g19 : (decide ((laws_szIntS_m x0.Out (laws_szCondS_m x0.Conds x1)) < 0)) = true := decide_eq_true h18
   refine CM_condT rfl g19 ?_
   refine sr (wa (nt' (CM_ret (QM_then_ret ?_))))
   exact rti (h := by unfold laws_szQuery_m; exact cond_f g17 (cond_t g19 (rfl)))
  ·have g19 : (decide ((laws_szIntS_m x0.Out (laws_szCondS_m x0.Conds x1)) < 0)) = false := decide_eq_false h18
   refine CM_condF rfl g19 ?_
   refine CM_skip (QM_then (sr (wm (wa (nt' (CM_ret ?_))))))
   exact rti (h := by unfold laws_szQuery_m; exact cond_f g17 (cond_f g19 (rfl)))

def laws_szRow_m (x0 : DRow) (x1 : Int) : Int :=
 cond (decide ((laws_szIntS_m x0.Values x1) < 0)) (-1) (laws_szIntS_m x0.Values x1)
theorem cb89 : Cb Tryz.prog 89 := ⟨f89, _, func89, rfl, by decide⟩
theorem laws_szRow_c (w : World) (z0 : List Value) (x0 : DRow) (x1 : Int) (r_0 : tyLRow.rd w w.heap.size z0 x0) :
  Calls Tryz.prog 89 #[.agg z0.toArray, .int .i64 x1] w fun e w' => e = .returned (.int .i64 (laws_szRow_m x0 x1)) ∧ Below w.heap.size w w' := by
 obtain ⟨v1, rfl, r2⟩ := tyLRow_rd r_0
 have r7 := r2
 obtain ⟨m3, A4, c5, rfl, q6⟩ := r2
 refine ce2 (L := [(0, .agg #[.int .i64 x0.Id, .slice A4 x0.Values.length c5]), (1, .int .i64 x1)]) (N := 12) func89 ?_
 refine sr ?_
 refine WM_box rfl (Wd_none rfl) (by decide) (fun p8 => ?_)
 refine wa (nt' (sr ?_))
 refine wv (vf underlying136 rfl type25) ?_
 refine wv (vl 0 1 underlying25) ?_
 refine wm ?_
 refine wcv (cl_fn cb13 rfl) (fun W hm => laws_szIntS_c W _ x0.Values x1 (hm.rdS0 r7)) ?_
 refine wa (nt' (CM_seq (sr (wm ?_))))
 refine wv vlss ?_
 refine nt' ?_
 by_cases h9 : (laws_szIntS_m x0.Values x1) < 0
 ·have g10 : (decide ((laws_szIntS_m x0.Values x1) < 0)) = true := decide_eq_true h9
  refine CM_condT rfl g10 ?_
  refine sr (wa (nt' (CM_ret (QM_then_ret ?_))))
  exact rti (h := by unfold laws_szRow_m; exact cond_t g10 (rfl))
 ·have g10 : (decide ((laws_szIntS_m x0.Values x1) < 0)) = false := decide_eq_false h9
  refine CM_condF rfl g10 ?_
  refine CM_skip (QM_then (sr (wm (wa (nt' (CM_ret ?_))))))
  exact rti (h := by unfold laws_szRow_m; exact cond_f g10 (rfl))

def laws_szRowS_b1 (x0 : (List DRow)) (k8 : Nat) (s9 : Int) : Int ⊕ (Int) :=
 cond (decide ((laws_szRow_m (gt x0 k8) s9) < 0)) (Sum.inl (-1)) (Sum.inr (laws_szRow_m (gt x0 k8) s9))
def laws_szRowS_m (x0 : (List DRow)) (x1 : Int) : Int :=
 cond (decide ((IntKind.i64.wrap (x1 - ((x0.length : Nat) : Int))) < 0)) (-1) (Sum.elim id (fun (s : Int) => s) (rng (R := Int) (fun k (s : Int) => laws_szRowS_b1 x0 k s) (x0.length - 0) 0 (IntKind.i64.wrap (x1 - ((x0.length : Nat) : Int)))))
theorem cb61 : Cb Tryz.prog 61 := ⟨f61, _, func61, rfl, by decide⟩
theorem laws_szRowS_c (w : World) (z0 : Value) (x0 : (List DRow)) (x1 : Int) (r_0 : rdS tyLRow w w.heap.size z0 x0) :
  Calls Tryz.prog 61 #[z0, .int .i64 x1] w fun e w' => e = .returned (.int .i64 (laws_szRowS_m x0 x1)) ∧ Below w.heap.size w w' := by
 have r5 := r_0
 obtain ⟨m1, A2, c3, rfl, q4⟩ := r_0
 refine ce2 (L := [(0, .slice A2 x0.length c3), (1, .int .i64 x1)]) (N := 27) func61 ?_
 refine sr (wa (nt' (sr (wm (wm ?_)))))
 refine wv (vlen underlying76) ?_
 refine wv (fun W hm => rv_sub rfl rfl) ?_
 refine wa (nt' (CM_seq (sr (wm ?_))))
 refine wv vlss ?_
 refine nt' ?_
 by_cases h6 : (IntKind.i64.wrap (x1 - ((x0.length : Nat) : Int))) < 0
 ·have g7 : (decide ((IntKind.i64.wrap (x1 - ((x0.length : Nat) : Int))) < 0)) = true := decide_eq_true h6
  refine CM_condT rfl g7 ?_
  refine sr (wa (nt' (CM_ret (QM_then_ret ?_))))
  exact rti (h := by unfold laws_szRowS_m; exact cond_t g7 (rfl))
 ·have g7 : (decide ((IntKind.i64.wrap (x1 - ((x0.length : Nat) : Int))) < 0)) = false := decide_eq_false h6
  refine CM_condF rfl g7 ?_
  refine CM_skip (QM_then (CM_seq (sr (wa (nt' (CM_block ?_))))))
  let F1 := fun k (s : Int) => laws_szRowS_b1 x0 k s
  let R2 := rng (R := Int) F1
  refine CM_loop (σ := Nat × (Int) × (Unit)) (fun s => [(0, .slice A2 x0.length c3), (1, .int .i64 s.2.1), (5, .int .i64 ((s.1 : Nat) : Int))]) (fun s => []) (fun s => s.1 ≤ x0.length ∧ R2 (x0.length - s.1) s.1 s.2.1 = R2 (x0.length - 0) 0 (IntKind.i64.wrap (x1 - ((x0.length : Nat) : Int)))) (fun s => x0.length - s.1) (0, (IntKind.i64.wrap (x1 - ((x0.length : Nat) : Int))), ()) sl3 (fun W hm => hm) ⟨(by omega), rfl⟩ ?_
  rintro ⟨k8, s9, ⟨⟩⟩ H12
  obtain ⟨hk10, hF11⟩ : k8 ≤ x0.length ∧ R2 (x0.length - k8) k8 s9 = R2 (x0.length - 0) 0 (IntKind.i64.wrap (x1 - ((x0.length : Nat) : Int))) := H12
  show CM Tryz.prog 27 _ _ _ _ [(0, .slice A2 x0.length c3), (1, .int .i64 s9), (5, .int .i64 ((k8 : Nat) : Int))] []
  refine CM_seq (sr (wm (wm ?_)))
  refine wv (vlen underlying76) ?_
  refine wv vlss ?_
  refine nt' ?_
  by_cases hl13 : k8 < x0.length
  ·have g14 : (decide (((k8 : Nat) : Int) < ((x0.length : Nat) : Int))) = true := decide_eq_true (by omega)
   refine CM_condT rfl g14 ?_
   refine CM_skip (QM_then (CM_seq (CM_block (sr (wm (wm ?_))))))
   obtain ⟨a15, rfl, hb16, he17⟩ := q4 (by omega)
   refine wv (vix 2 k8 underlying76 type136) ?_
   obtain ⟨_, e21, hc18⟩ := he17 k8 _ (gt_some (show k8 < x0.length from by omega))
   obtain ⟨v19, rfl, r20⟩ := tyLRow_rd e21
   have r26 := r20
   obtain ⟨m22, A23, c24, rfl, q25⟩ := r20
   refine wv (fun W hm => rv_loadN (cs := [.int .i64 ((gt x0 k8).Id), .slice A23 ((gt x0 k8).Values).length c24]) underlying136 type136 rfl rfl (hm.elCells (show (a15.add (k8 * 2)).block < w.heap.size from by rw [add_block]; exact hb16.1) hc18)) ?_
   refine wm ?_
   refine wcv (cl_fn cb89 rfl) (fun W hm => laws_szRow_c W _ (gt x0 k8) s9 (tyLRow_mk (x := (gt x0 k8)) (hm.rdS0 r26))) ?_
   refine wa (nt' (sr (wm ?_)))
   refine wv vlss ?_
   refine nt' ?_
   by_cases h27 : (laws_szRow_m (gt x0 k8) s9) < 0
   ·have g28 : (decide ((laws_szRow_m (gt x0 k8) s9) < 0)) = true := decide_eq_true h27
    refine CM_condT rfl g28 ?_
    refine sr (wa (nt' (CM_ret (QM_block_ret (QM_then_ret (QM_then_ret (QM_block_ret (QM_then_ret ?_))))))))
    exact rti (h := by unfold laws_szRowS_m; exact cond_f g7 (fin_inl (rng_ret (body := F1) (k := k8) (s := s9) (show k8 < x0.length from by omega) (show laws_szRowS_b1 x0 k8 s9 = Sum.inl (-1) from by unfold laws_szRowS_b1; exact cond_t g28 (rfl)) hF11) rfl))
   ·have g28 : (decide ((laws_szRow_m (gt x0 k8) s9) < 0)) = false := decide_eq_false h27
    refine CM_condF rfl g28 ?_
    refine CM_skip (QM_block_normal (QM_then (CM_region (wm ?_))))
    refine wv (vadN k8 1 (by omega)) ?_
    refine wa (WM_nil ?_)
    have hn29 := rng_next (R := Int) (body := F1) (k := k8) (s := s9) (s' := (laws_szRow_m (gt x0 k8) s9)) (show k8 < x0.length from by omega) (show laws_szRowS_b1 x0 k8 s9 = Sum.inr (laws_szRow_m (gt x0 k8) s9) from by unfold laws_szRowS_b1; exact cond_f g28 (rfl)) hF11
    exact QM_round (k8 + 1, (laws_szRow_m (gt x0 k8) s9), ()) sl3 (fun W hm => hm) ⟨(by omega), hn29⟩ (rl (by omega))
  ·have g14 : (decide (((k8 : Nat) : Int) < ((x0.length : Nat) : Int))) = false := decide_eq_false (by omega)
   refine CM_condF rfl g14 ?_
   refine CM_exit (QM_then_exit (QM_then_exit ?_))
   have hE30 : R2 (x0.length - 0) 0 (IntKind.i64.wrap (x1 - ((x0.length : Nat) : Int))) = Sum.inr s9 := rng_end hl13 hF11
   refine QM_block_hit (QM_then (sr (wm (wa (nt' (CM_ret ?_))))))
   exact rti (h := by unfold laws_szRowS_m; exact cond_f g7 (fin_inr hE30 (rfl)))

def laws_szActive_m (x0 : DActive) (x1 : Int) : Int :=
 cond (decide ((laws_szQuery_m x0.Query x1) < 0)) (-1) (cond (decide ((laws_szIntS_m x0.Todo (laws_szQuery_m x0.Query x1)) < 0)) (-1) (cond (decide ((laws_szRowS_m x0.Rows (laws_szIntS_m x0.Todo (laws_szQuery_m x0.Query x1))) < 0)) (-1) (laws_szRowS_m x0.Rows (laws_szIntS_m x0.Todo (laws_szQuery_m x0.Query x1)))))
theorem cb35 : Cb Tryz.prog 35 := ⟨f35, _, func35, rfl, by decide⟩
theorem laws_szActive_c (w : World) (z0 : List Value) (x0 : DActive) (x1 : Int) (r_0 : tyLActive.rd w w.heap.size z0 x0) :
  Calls Tryz.prog 35 #[.agg z0.toArray, .int .i64 x1] w fun e w' => e = .returned (.int .i64 (laws_szActive_m x0 x1)) ∧ Below w.heap.size w w' := by
 obtain ⟨v1, v3, v5, v7, rfl, r2, r4, r6, r8⟩ := tyLActive_rd r_0
 have r13 := r2
 obtain ⟨m9, A10, c11, rfl, q12⟩ := r2
 have r18 := r4
 obtain ⟨m14, A15, c16, rfl, q17⟩ := r4
 have r23 := r6
 obtain ⟨m19, A20, c21, rfl, q22⟩ := r6
 have r28 := r8
 obtain ⟨m24, A25, c26, rfl, q27⟩ := r8
 refine ce2 (L := [(0, .agg #[.int .i64 x0.Query.Id, .int .i64 x0.Query.Tenant, .slice A10 x0.Query.Conds.length c11, .slice A15 x0.Query.Out.length c16, .int .i64 x0.Time, .slice A20 x0.Todo.length c21, .int .i64 x0.Age, .int .i64 x0.Sent, .int .i64 x0.Cap, .slice A25 x0.Rows.length c26]), (1, .int .i64 x1)]) (N := 24) func35 ?_
 refine sr ?_
 refine WM_box rfl (Wd_none rfl) (by decide) (fun p29 => ?_)
 refine wa (nt' (sr ?_))
 refine wv (vf underlying78 rfl type33) ?_
 refine wv (fun W hm => rv_loadN (cs := [.int .i64 x0.Query.Id, .int .i64 x0.Query.Tenant, .slice A10 x0.Query.Conds.length c11, .slice A15 x0.Query.Out.length c16]) underlying33 type33 rfl rfl (hm.boxPart (n := 0) rfl rfl)) ?_
 refine wm ?_
 refine wcv (cl_fn cb5 rfl) (fun W hm => laws_szQuery_c W _ x0.Query x1 (tyLQuery_mk (x := x0.Query) (hm.rdS0 r13) (hm.rdS0 r18))) ?_
 refine wa (nt' (CM_seq (sr (wm ?_))))
 refine wv vlss ?_
 refine nt' ?_
 by_cases h30 : (laws_szQuery_m x0.Query x1) < 0
 ·have g31 : (decide ((laws_szQuery_m x0.Query x1) < 0)) = true := decide_eq_true h30
  refine CM_condT rfl g31 ?_
  refine sr (wa (nt' (CM_ret (QM_then_ret ?_))))
  exact rti (h := by unfold laws_szActive_m; exact cond_t g31 (rfl))
 ·have g31 : (decide ((laws_szQuery_m x0.Query x1) < 0)) = false := decide_eq_false h30
  refine CM_condF rfl g31 ?_
  refine CM_skip (QM_then (sr ?_))
  refine wv (vf underlying78 rfl type25) ?_
  refine wv (vl 0 5 underlying25) ?_
  refine wm ?_
  refine wcv (cl_fn cb13 rfl) (fun W hm => laws_szIntS_c W _ x0.Todo (laws_szQuery_m x0.Query x1) (hm.rdS0 r23)) ?_
  refine wa (nt' (CM_seq (sr (wm ?_))))
  refine wv vlss ?_
  refine nt' ?_
  by_cases h32 : (laws_szIntS_m x0.Todo (laws_szQuery_m x0.Query x1)) < 0
  ·have g33 : (decide ((laws_szIntS_m x0.Todo (laws_szQuery_m x0.Query x1)) < 0)) = true := decide_eq_true h32
   refine CM_condT rfl g33 ?_
   refine sr (wa (nt' (CM_ret (QM_then_ret ?_))))
   exact rti (h := by unfold laws_szActive_m; exact cond_f g31 (cond_t g33 (rfl)))
  ·have g33 : (decide ((laws_szIntS_m x0.Todo (laws_szQuery_m x0.Query x1)) < 0)) = false := decide_eq_false h32
   refine CM_condF rfl g33 ?_
   refine CM_skip (QM_then (sr ?_))
   refine wv (vf underlying78 rfl type76) ?_
   refine wv (vl 0 9 underlying76) ?_
   refine wm ?_
   refine wcv (cl_fn cb61 rfl) (fun W hm => laws_szRowS_c W _ x0.Rows (laws_szIntS_m x0.Todo (laws_szQuery_m x0.Query x1)) (hm.rdS0 r28)) ?_
   refine wa (nt' (CM_seq (sr (wm ?_))))
   refine wv vlss ?_
   refine nt' ?_
   by_cases h34 : (laws_szRowS_m x0.Rows (laws_szIntS_m x0.Todo (laws_szQuery_m x0.Query x1))) < 0
   ·have g35 : (decide ((laws_szRowS_m x0.Rows (laws_szIntS_m x0.Todo (laws_szQuery_m x0.Query x1))) < 0)) = true := decide_eq_true h34
    refine CM_condT rfl g35 ?_
    refine sr (wa (nt' (CM_ret (QM_then_ret ?_))))
    exact rti (h := by unfold laws_szActive_m; exact cond_f g31 (cond_f g33 (cond_t g35 (rfl))))
   ·have g35 : (decide ((laws_szRowS_m x0.Rows (laws_szIntS_m x0.Todo (laws_szQuery_m x0.Query x1))) < 0)) = false := decide_eq_false h34
    refine CM_condF rfl g35 ?_
    refine CM_skip (QM_then (sr (wm (wa (nt' (CM_ret ?_))))))
    exact rti (h := by unfold laws_szActive_m; exact cond_f g31 (cond_f g33 (cond_f g35 (rfl))))

def laws_szActiveS_b1 (x0 : (List DActive)) (k8 : Nat) (s9 : Int) : Int ⊕ (Int) :=
 cond (decide ((laws_szActive_m (gt x0 k8) s9) < 0)) (Sum.inl (-1)) (Sum.inr (laws_szActive_m (gt x0 k8) s9))
def laws_szActiveS_m (x0 : (List DActive)) (x1 : Int) : Int :=
 cond (decide ((IntKind.i64.wrap (x1 - ((x0.length : Nat) : Int))) < 0)) (-1) (Sum.elim id (fun (s : Int) => s) (rng (R := Int) (fun k (s : Int) => laws_szActiveS_b1 x0 k s) (x0.length - 0) 0 (IntKind.i64.wrap (x1 - ((x0.length : Nat) : Int)))))
theorem cb14 : Cb Tryz.prog 14 := ⟨f14, _, func14, rfl, by decide⟩
theorem laws_szActiveS_c (w : World) (z0 : Value) (x0 : (List DActive)) (x1 : Int) (r_0 : rdS tyLActive w w.heap.size z0 x0) :
  Calls Tryz.prog 14 #[z0, .int .i64 x1] w fun e w' => e = .returned (.int .i64 (laws_szActiveS_m x0 x1)) ∧ Below w.heap.size w w' := by
 have r5 := r_0
 obtain ⟨m1, A2, c3, rfl, q4⟩ := r_0
 refine ce2 (L := [(0, .slice A2 x0.length c3), (1, .int .i64 x1)]) (N := 27) func14 ?_
 refine sr (wa (nt' (sr (wm (wm ?_)))))
 refine wv (vlen underlying26) ?_
 refine wv (fun W hm => rv_sub rfl rfl) ?_
 refine wa (nt' (CM_seq (sr (wm ?_))))
 refine wv vlss ?_
 refine nt' ?_
 by_cases h6 : (IntKind.i64.wrap (x1 - ((x0.length : Nat) : Int))) < 0
 ·have g7 : (decide ((IntKind.i64.wrap (x1 - ((x0.length : Nat) : Int))) < 0)) = true := decide_eq_true h6
  refine CM_condT rfl g7 ?_
  refine sr (wa (nt' (CM_ret (QM_then_ret ?_))))
  exact rti (h := by unfold laws_szActiveS_m; exact cond_t g7 (rfl))
 ·have g7 : (decide ((IntKind.i64.wrap (x1 - ((x0.length : Nat) : Int))) < 0)) = false := decide_eq_false h6
  refine CM_condF rfl g7 ?_
  refine CM_skip (QM_then (CM_seq (sr (wa (nt' (CM_block ?_))))))
  let F1 := fun k (s : Int) => laws_szActiveS_b1 x0 k s
  let R2 := rng (R := Int) F1
  refine CM_loop (σ := Nat × (Int) × (Unit)) (fun s => [(0, .slice A2 x0.length c3), (1, .int .i64 s.2.1), (5, .int .i64 ((s.1 : Nat) : Int))]) (fun s => []) (fun s => s.1 ≤ x0.length ∧ R2 (x0.length - s.1) s.1 s.2.1 = R2 (x0.length - 0) 0 (IntKind.i64.wrap (x1 - ((x0.length : Nat) : Int)))) (fun s => x0.length - s.1) (0, (IntKind.i64.wrap (x1 - ((x0.length : Nat) : Int))), ()) sl3 (fun W hm => hm) ⟨(by omega), rfl⟩ ?_
  rintro ⟨k8, s9, ⟨⟩⟩ H12
  obtain ⟨hk10, hF11⟩ : k8 ≤ x0.length ∧ R2 (x0.length - k8) k8 s9 = R2 (x0.length - 0) 0 (IntKind.i64.wrap (x1 - ((x0.length : Nat) : Int))) := H12
  show CM Tryz.prog 27 _ _ _ _ [(0, .slice A2 x0.length c3), (1, .int .i64 s9), (5, .int .i64 ((k8 : Nat) : Int))] []
  refine CM_seq (sr (wm (wm ?_)))
  refine wv (vlen underlying26) ?_
  refine wv vlss ?_
  refine nt' ?_
  by_cases hl13 : k8 < x0.length
  ·have g14 : (decide (((k8 : Nat) : Int) < ((x0.length : Nat) : Int))) = true := decide_eq_true (by omega)
   refine CM_condT rfl g14 ?_
   refine CM_skip (QM_then (CM_seq (CM_block (sr (wm (wm ?_))))))
   obtain ⟨a15, rfl, hb16, he17⟩ := q4 (by omega)
   refine wv (vix 10 k8 underlying26 type78) ?_
   obtain ⟨_, e27, hc18⟩ := he17 k8 _ (gt_some (show k8 < x0.length from by omega))
   obtain ⟨v19, v21, v23, v25, rfl, r20, r22, r24, r26⟩ := tyLActive_rd e27
   have r32 := r20
   obtain ⟨m28, A29, c30, rfl, q31⟩ := r20
   have r37 := r22
   obtain ⟨m33, A34, c35, rfl, q36⟩ := r22
   have r42 := r24
   obtain ⟨m38, A39, c40, rfl, q41⟩ := r24
   have r47 := r26
   obtain ⟨m43, A44, c45, rfl, q46⟩ := r26
   refine wv (fun W hm => rv_loadN (cs := [.int .i64 ((gt x0 k8).Query.Id), .int .i64 ((gt x0 k8).Query.Tenant), .slice A29 ((gt x0 k8).Query.Conds).length c30, .slice A34 ((gt x0 k8).Query.Out).length c35, .int .i64 ((gt x0 k8).Time), .slice A39 ((gt x0 k8).Todo).length c40, .int .i64 ((gt x0 k8).Age), .int .i64 ((gt x0 k8).Sent), .int .i64 ((gt x0 k8).Cap), .slice A44 ((gt x0 k8).Rows).length c45]) underlying78 type78 rfl rfl (hm.elCells (show (a15.add (k8 * 10)).block < w.heap.size from by rw [add_block]; exact hb16.1) hc18)) ?_
   refine wm ?_
   refine wcv (cl_fn cb35 rfl) (fun W hm => laws_szActive_c W _ (gt x0 k8) s9 (tyLActive_mk (x := (gt x0 k8)) (hm.rdS0 r32) (hm.rdS0 r37) (hm.rdS0 r42) (hm.rdS0 r47))) ?_
   refine wa (nt' (sr (wm ?_)))
   refine wv vlss ?_
   refine nt' ?_
   by_cases h48 : (laws_szActive_m (gt x0 k8) s9) < 0
   ·have g49 : (decide ((laws_szActive_m (gt x0 k8) s9) < 0)) = true := decide_eq_true h48
    refine CM_condT rfl g49 ?_
    refine sr (wa (nt' (CM_ret (QM_block_ret (QM_then_ret (QM_then_ret (QM_block_ret (QM_then_ret ?_))))))))
    exact rti (h := by unfold laws_szActiveS_m; exact cond_f g7 (fin_inl (rng_ret (body := F1) (k := k8) (s := s9) (show k8 < x0.length from by omega) (show laws_szActiveS_b1 x0 k8 s9 = Sum.inl (-1) from by unfold laws_szActiveS_b1; exact cond_t g49 (rfl)) hF11) rfl))
   ·have g49 : (decide ((laws_szActive_m (gt x0 k8) s9) < 0)) = false := decide_eq_false h48
    refine CM_condF rfl g49 ?_
    refine CM_skip (QM_block_normal (QM_then (CM_region (wm ?_))))
    refine wv (vadN k8 1 (by omega)) ?_
    refine wa (WM_nil ?_)
    have hn50 := rng_next (R := Int) (body := F1) (k := k8) (s := s9) (s' := (laws_szActive_m (gt x0 k8) s9)) (show k8 < x0.length from by omega) (show laws_szActiveS_b1 x0 k8 s9 = Sum.inr (laws_szActive_m (gt x0 k8) s9) from by unfold laws_szActiveS_b1; exact cond_f g49 (rfl)) hF11
    exact QM_round (k8 + 1, (laws_szActive_m (gt x0 k8) s9), ()) sl3 (fun W hm => hm) ⟨(by omega), hn50⟩ (rl (by omega))
  ·have g14 : (decide (((k8 : Nat) : Int) < ((x0.length : Nat) : Int))) = false := decide_eq_false (by omega)
   refine CM_condF rfl g14 ?_
   refine CM_exit (QM_then_exit (QM_then_exit ?_))
   have hE51 : R2 (x0.length - 0) 0 (IntKind.i64.wrap (x1 - ((x0.length : Nat) : Int))) = Sum.inr s9 := rng_end hl13 hF11
   refine QM_block_hit (QM_then (sr (wm (wa (nt' (CM_ret ?_))))))
   exact rti (h := by unfold laws_szActiveS_m; exact cond_f g7 (fin_inr hE51 (rfl)))

def laws_szFinished_m (x0 : DFinished) (x1 : Int) : Int :=
 cond (decide ((laws_szQuery_m x0.Query x1) < 0)) (-1) (cond (decide ((laws_szRowS_m x0.Rows (laws_szQuery_m x0.Query x1)) < 0)) (-1) (laws_szRowS_m x0.Rows (laws_szQuery_m x0.Query x1)))
theorem cb36 : Cb Tryz.prog 36 := ⟨f36, _, func36, rfl, by decide⟩
theorem laws_szFinished_c (w : World) (z0 : List Value) (x0 : DFinished) (x1 : Int) (r_0 : tyLFinished.rd w w.heap.size z0 x0) :
  Calls Tryz.prog 36 #[.agg z0.toArray, .int .i64 x1] w fun e w' => e = .returned (.int .i64 (laws_szFinished_m x0 x1)) ∧ Below w.heap.size w w' := by
 obtain ⟨v1, v3, v5, rfl, r2, r4, r6⟩ := tyLFinished_rd r_0
 have r11 := r2
 obtain ⟨m7, A8, c9, rfl, q10⟩ := r2
 have r16 := r4
 obtain ⟨m12, A13, c14, rfl, q15⟩ := r4
 have r21 := r6
 obtain ⟨m17, A18, c19, rfl, q20⟩ := r6
 refine ce2 (L := [(0, .agg #[.int .i64 x0.Query.Id, .int .i64 x0.Query.Tenant, .slice A8 x0.Query.Conds.length c9, .slice A13 x0.Query.Out.length c14, .int .i64 x0.Time, .int .i64 x0.Steps, .slice A18 x0.Rows.length c19]), (1, .int .i64 x1)]) (N := 18) func36 ?_
 refine sr ?_
 refine WM_box rfl (Wd_none rfl) (by decide) (fun p22 => ?_)
 refine wa (nt' (sr ?_))
 refine wv (vf underlying81 rfl type33) ?_
 refine wv (fun W hm => rv_loadN (cs := [.int .i64 x0.Query.Id, .int .i64 x0.Query.Tenant, .slice A8 x0.Query.Conds.length c9, .slice A13 x0.Query.Out.length c14]) underlying33 type33 rfl rfl (hm.boxPart (n := 0) rfl rfl)) ?_
 refine wm ?_
 refine wcv (cl_fn cb5 rfl) (fun W hm => laws_szQuery_c W _ x0.Query x1 (tyLQuery_mk (x := x0.Query) (hm.rdS0 r11) (hm.rdS0 r16))) ?_
 refine wa (nt' (CM_seq (sr (wm ?_))))
 refine wv vlss ?_
 refine nt' ?_
 by_cases h23 : (laws_szQuery_m x0.Query x1) < 0
 ·have g24 : (decide ((laws_szQuery_m x0.Query x1) < 0)) = true := decide_eq_true h23
  refine CM_condT rfl g24 ?_
  refine sr (wa (nt' (CM_ret (QM_then_ret ?_))))
  exact rti (h := by unfold laws_szFinished_m; exact cond_t g24 (rfl))
 ·have g24 : (decide ((laws_szQuery_m x0.Query x1) < 0)) = false := decide_eq_false h23
  refine CM_condF rfl g24 ?_
  refine CM_skip (QM_then (sr ?_))
  refine wv (vf underlying81 rfl type76) ?_
  refine wv (vl 0 6 underlying76) ?_
  refine wm ?_
  refine wcv (cl_fn cb61 rfl) (fun W hm => laws_szRowS_c W _ x0.Rows (laws_szQuery_m x0.Query x1) (hm.rdS0 r21)) ?_
  refine wa (nt' (CM_seq (sr (wm ?_))))
  refine wv vlss ?_
  refine nt' ?_
  by_cases h25 : (laws_szRowS_m x0.Rows (laws_szQuery_m x0.Query x1)) < 0
  ·have g26 : (decide ((laws_szRowS_m x0.Rows (laws_szQuery_m x0.Query x1)) < 0)) = true := decide_eq_true h25
   refine CM_condT rfl g26 ?_
   refine sr (wa (nt' (CM_ret (QM_then_ret ?_))))
   exact rti (h := by unfold laws_szFinished_m; exact cond_f g24 (cond_t g26 (rfl)))
  ·have g26 : (decide ((laws_szRowS_m x0.Rows (laws_szQuery_m x0.Query x1)) < 0)) = false := decide_eq_false h25
   refine CM_condF rfl g26 ?_
   refine CM_skip (QM_then (sr (wm (wa (nt' (CM_ret ?_))))))
   exact rti (h := by unfold laws_szFinished_m; exact cond_f g24 (cond_f g26 (rfl)))

def laws_szFinishedS_b1 (x0 : (List DFinished)) (k8 : Nat) (s9 : Int) : Int ⊕ (Int) :=
 cond (decide ((laws_szFinished_m (gt x0 k8) s9) < 0)) (Sum.inl (-1)) (Sum.inr (laws_szFinished_m (gt x0 k8) s9))
def laws_szFinishedS_m (x0 : (List DFinished)) (x1 : Int) : Int :=
 cond (decide ((IntKind.i64.wrap (x1 - ((x0.length : Nat) : Int))) < 0)) (-1) (Sum.elim id (fun (s : Int) => s) (rng (R := Int) (fun k (s : Int) => laws_szFinishedS_b1 x0 k s) (x0.length - 0) 0 (IntKind.i64.wrap (x1 - ((x0.length : Nat) : Int)))))
theorem cb15 : Cb Tryz.prog 15 := ⟨f15, _, func15, rfl, by decide⟩
theorem laws_szFinishedS_c (w : World) (z0 : Value) (x0 : (List DFinished)) (x1 : Int) (r_0 : rdS tyLFinished w w.heap.size z0 x0) :
  Calls Tryz.prog 15 #[z0, .int .i64 x1] w fun e w' => e = .returned (.int .i64 (laws_szFinishedS_m x0 x1)) ∧ Below w.heap.size w w' := by
 have r5 := r_0
 obtain ⟨m1, A2, c3, rfl, q4⟩ := r_0
 refine ce2 (L := [(0, .slice A2 x0.length c3), (1, .int .i64 x1)]) (N := 27) func15 ?_
 refine sr (wa (nt' (sr (wm (wm ?_)))))
 refine wv (vlen underlying27) ?_
 refine wv (fun W hm => rv_sub rfl rfl) ?_
 refine wa (nt' (CM_seq (sr (wm ?_))))
 refine wv vlss ?_
 refine nt' ?_
 by_cases h6 : (IntKind.i64.wrap (x1 - ((x0.length : Nat) : Int))) < 0
 ·have g7 : (decide ((IntKind.i64.wrap (x1 - ((x0.length : Nat) : Int))) < 0)) = true := decide_eq_true h6
  refine CM_condT rfl g7 ?_
  refine sr (wa (nt' (CM_ret (QM_then_ret ?_))))
  exact rti (h := by unfold laws_szFinishedS_m; exact cond_t g7 (rfl))
 ·have g7 : (decide ((IntKind.i64.wrap (x1 - ((x0.length : Nat) : Int))) < 0)) = false := decide_eq_false h6
  refine CM_condF rfl g7 ?_
  refine CM_skip (QM_then (CM_seq (sr (wa (nt' (CM_block ?_))))))
  let F1 := fun k (s : Int) => laws_szFinishedS_b1 x0 k s
  let R2 := rng (R := Int) F1
  refine CM_loop (σ := Nat × (Int) × (Unit)) (fun s => [(0, .slice A2 x0.length c3), (1, .int .i64 s.2.1), (5, .int .i64 ((s.1 : Nat) : Int))]) (fun s => []) (fun s => s.1 ≤ x0.length ∧ R2 (x0.length - s.1) s.1 s.2.1 = R2 (x0.length - 0) 0 (IntKind.i64.wrap (x1 - ((x0.length : Nat) : Int)))) (fun s => x0.length - s.1) (0, (IntKind.i64.wrap (x1 - ((x0.length : Nat) : Int))), ()) sl3 (fun W hm => hm) ⟨(by omega), rfl⟩ ?_
  rintro ⟨k8, s9, ⟨⟩⟩ H12
  obtain ⟨hk10, hF11⟩ : k8 ≤ x0.length ∧ R2 (x0.length - k8) k8 s9 = R2 (x0.length - 0) 0 (IntKind.i64.wrap (x1 - ((x0.length : Nat) : Int))) := H12
  show CM Tryz.prog 27 _ _ _ _ [(0, .slice A2 x0.length c3), (1, .int .i64 s9), (5, .int .i64 ((k8 : Nat) : Int))] []
  refine CM_seq (sr (wm (wm ?_)))
  refine wv (vlen underlying27) ?_
  refine wv vlss ?_
  refine nt' ?_
  by_cases hl13 : k8 < x0.length
  ·have g14 : (decide (((k8 : Nat) : Int) < ((x0.length : Nat) : Int))) = true := decide_eq_true (by omega)
   refine CM_condT rfl g14 ?_
   refine CM_skip (QM_then (CM_seq (CM_block (sr (wm (wm ?_))))))
   obtain ⟨a15, rfl, hb16, he17⟩ := q4 (by omega)
   refine wv (vix 7 k8 underlying27 type81) ?_
   obtain ⟨_, e25, hc18⟩ := he17 k8 _ (gt_some (show k8 < x0.length from by omega))
   obtain ⟨v19, v21, v23, rfl, r20, r22, r24⟩ := tyLFinished_rd e25
   have r30 := r20
   obtain ⟨m26, A27, c28, rfl, q29⟩ := r20
   have r35 := r22
   obtain ⟨m31, A32, c33, rfl, q34⟩ := r22
   have r40 := r24
   obtain ⟨m36, A37, c38, rfl, q39⟩ := r24
   refine wv (fun W hm => rv_loadN (cs := [.int .i64 ((gt x0 k8).Query.Id), .int .i64 ((gt x0 k8).Query.Tenant), .slice A27 ((gt x0 k8).Query.Conds).length c28, .slice A32 ((gt x0 k8).Query.Out).length c33, .int .i64 ((gt x0 k8).Time), .int .i64 ((gt x0 k8).Steps), .slice A37 ((gt x0 k8).Rows).length c38]) underlying81 type81 rfl rfl (hm.elCells (show (a15.add (k8 * 7)).block < w.heap.size from by rw [add_block]; exact hb16.1) hc18)) ?_
   refine wm ?_
   refine wcv (cl_fn cb36 rfl) (fun W hm => laws_szFinished_c W _ (gt x0 k8) s9 (tyLFinished_mk (x := (gt x0 k8)) (hm.rdS0 r30) (hm.rdS0 r35) (hm.rdS0 r40))) ?_
   refine wa (nt' (sr (wm ?_)))
   refine wv vlss ?_
   refine nt' ?_
   by_cases h41 : (laws_szFinished_m (gt x0 k8) s9) < 0
   ·have g42 : (decide ((laws_szFinished_m (gt x0 k8) s9) < 0)) = true := decide_eq_true h41
    refine CM_condT rfl g42 ?_
    refine sr (wa (nt' (CM_ret (QM_block_ret (QM_then_ret (QM_then_ret (QM_block_ret (QM_then_ret ?_))))))))
    exact rti (h := by unfold laws_szFinishedS_m; exact cond_f g7 (fin_inl (rng_ret (body := F1) (k := k8) (s := s9) (show k8 < x0.length from by omega) (show laws_szFinishedS_b1 x0 k8 s9 = Sum.inl (-1) from by unfold laws_szFinishedS_b1; exact cond_t g42 (rfl)) hF11) rfl))
   ·have g42 : (decide ((laws_szFinished_m (gt x0 k8) s9) < 0)) = false := decide_eq_false h41
    refine CM_condF rfl g42 ?_
    refine CM_skip (QM_block_normal (QM_then (CM_region (wm ?_))))
    refine wv (vadN k8 1 (by omega)) ?_
    refine wa (WM_nil ?_)
    have hn43 := rng_next (R := Int) (body := F1) (k := k8) (s := s9) (s' := (laws_szFinished_m (gt x0 k8) s9)) (show k8 < x0.length from by omega) (show laws_szFinishedS_b1 x0 k8 s9 = Sum.inr (laws_szFinished_m (gt x0 k8) s9) from by unfold laws_szFinishedS_b1; exact cond_f g42 (rfl)) hF11
    exact QM_round (k8 + 1, (laws_szFinished_m (gt x0 k8) s9), ()) sl3 (fun W hm => hm) ⟨(by omega), hn43⟩ (rl (by omega))
  ·have g14 : (decide (((k8 : Nat) : Int) < ((x0.length : Nat) : Int))) = false := decide_eq_false (by omega)
   refine CM_condF rfl g14 ?_
   refine CM_exit (QM_then_exit (QM_then_exit ?_))
   have hE44 : R2 (x0.length - 0) 0 (IntKind.i64.wrap (x1 - ((x0.length : Nat) : Int))) = Sum.inr s9 := rng_end hl13 hF11
   refine QM_block_hit (QM_then (sr (wm (wa (nt' (CM_ret ?_))))))
   exact rti (h := by unfold laws_szFinishedS_m; exact cond_f g7 (fin_inr hE44 (rfl)))

def laws_szCharge_m (x0 : DCharge) (x1 : Int) : Int :=
 cond (decide ((laws_szIntS_m x0.Ids x1) < 0)) (-1) (cond (decide ((laws_szIntS_m x0.Tenants (laws_szIntS_m x0.Ids x1)) < 0)) (-1) (cond (decide ((laws_szIntS_m x0.Rows (laws_szIntS_m x0.Tenants (laws_szIntS_m x0.Ids x1))) < 0)) (-1) (laws_szIntS_m x0.Rows (laws_szIntS_m x0.Tenants (laws_szIntS_m x0.Ids x1)))))
theorem cb37 : Cb Tryz.prog 37 := ⟨f37, _, func37, rfl, by decide⟩
theorem laws_szCharge_c (w : World) (z0 : List Value) (x0 : DCharge) (x1 : Int) (r_0 : tyLCharge.rd w w.heap.size z0 x0) :
  Calls Tryz.prog 37 #[.agg z0.toArray, .int .i64 x1] w fun e w' => e = .returned (.int .i64 (laws_szCharge_m x0 x1)) ∧ Below w.heap.size w w' := by
 obtain ⟨v1, v3, v5, rfl, r2, r4, r6⟩ := tyLCharge_rd r_0
 have r11 := r2
 obtain ⟨m7, A8, c9, rfl, q10⟩ := r2
 have r16 := r4
 obtain ⟨m12, A13, c14, rfl, q15⟩ := r4
 have r21 := r6
 obtain ⟨m17, A18, c19, rfl, q20⟩ := r6
 refine ce2 (L := [(0, .agg #[.int .i64 x0.Segment, .int .i64 x0.Base, .slice A8 x0.Ids.length c9, .slice A13 x0.Tenants.length c14, .slice A18 x0.Rows.length c19]), (1, .int .i64 x1)]) (N := 24) func37 ?_
 refine sr ?_
 refine WM_box rfl (Wd_none rfl) (by decide) (fun p22 => ?_)
 refine wa (nt' (sr ?_))
 refine wv (vf underlying84 rfl type25) ?_
 refine wv (vl 0 2 underlying25) ?_
 refine wm ?_
 refine wcv (cl_fn cb13 rfl) (fun W hm => laws_szIntS_c W _ x0.Ids x1 (hm.rdS0 r11)) ?_
 refine wa (nt' (CM_seq (sr (wm ?_))))
 refine wv vlss ?_
 refine nt' ?_
 by_cases h23 : (laws_szIntS_m x0.Ids x1) < 0
 ·have g24 : (decide ((laws_szIntS_m x0.Ids x1) < 0)) = true := decide_eq_true h23
  refine CM_condT rfl g24 ?_
  refine sr (wa (nt' (CM_ret (QM_then_ret ?_))))
  exact rti (h := by unfold laws_szCharge_m; exact cond_t g24 (rfl))
 ·have g24 : (decide ((laws_szIntS_m x0.Ids x1) < 0)) = false := decide_eq_false h23
  refine CM_condF rfl g24 ?_
  refine CM_skip (QM_then (sr ?_))
  refine wv (vf underlying84 rfl type25) ?_
  refine wv (vl 0 3 underlying25) ?_
  refine wm ?_
  refine wcv (cl_fn cb13 rfl) (fun W hm => laws_szIntS_c W _ x0.Tenants (laws_szIntS_m x0.Ids x1) (hm.rdS0 r16)) ?_
  refine wa (nt' (CM_seq (sr (wm ?_))))
  refine wv vlss ?_
  refine nt' ?_
  by_cases h25 : (laws_szIntS_m x0.Tenants (laws_szIntS_m x0.Ids x1)) < 0
  ·have g26 : (decide ((laws_szIntS_m x0.Tenants (laws_szIntS_m x0.Ids x1)) < 0)) = true := decide_eq_true h25
   refine CM_condT rfl g26 ?_
   refine sr (wa (nt' (CM_ret (QM_then_ret ?_))))
   exact rti (h := by unfold laws_szCharge_m; exact cond_f g24 (cond_t g26 (rfl)))
  ·have g26 : (decide ((laws_szIntS_m x0.Tenants (laws_szIntS_m x0.Ids x1)) < 0)) = false := decide_eq_false h25
   refine CM_condF rfl g26 ?_
   refine CM_skip (QM_then (sr ?_))
   refine wv (vf underlying84 rfl type25) ?_
   refine wv (vl 0 4 underlying25) ?_
   refine wm ?_
   refine wcv (cl_fn cb13 rfl) (fun W hm => laws_szIntS_c W _ x0.Rows (laws_szIntS_m x0.Tenants (laws_szIntS_m x0.Ids x1)) (hm.rdS0 r21)) ?_
   refine wa (nt' (CM_seq (sr (wm ?_))))
   refine wv vlss ?_
   refine nt' ?_
   by_cases h27 : (laws_szIntS_m x0.Rows (laws_szIntS_m x0.Tenants (laws_szIntS_m x0.Ids x1))) < 0
   ·have g28 : (decide ((laws_szIntS_m x0.Rows (laws_szIntS_m x0.Tenants (laws_szIntS_m x0.Ids x1))) < 0)) = true := decide_eq_true h27
    refine CM_condT rfl g28 ?_
    refine sr (wa (nt' (CM_ret (QM_then_ret ?_))))
    exact rti (h := by unfold laws_szCharge_m; exact cond_f g24 (cond_f g26 (cond_t g28 (rfl))))
   ·have g28 : (decide ((laws_szIntS_m x0.Rows (laws_szIntS_m x0.Tenants (laws_szIntS_m x0.Ids x1))) < 0)) = false := decide_eq_false h27
    refine CM_condF rfl g28 ?_
    refine CM_skip (QM_then (sr (wm (wa (nt' (CM_ret ?_))))))
    exact rti (h := by unfold laws_szCharge_m; exact cond_f g24 (cond_f g26 (cond_f g28 (rfl))))

def laws_szChargeS_b1 (x0 : (List DCharge)) (k8 : Nat) (s9 : Int) : Int ⊕ (Int) :=
 cond (decide ((laws_szCharge_m (gt x0 k8) s9) < 0)) (Sum.inl (-1)) (Sum.inr (laws_szCharge_m (gt x0 k8) s9))
def laws_szChargeS_m (x0 : (List DCharge)) (x1 : Int) : Int :=
 cond (decide ((IntKind.i64.wrap (x1 - ((x0.length : Nat) : Int))) < 0)) (-1) (Sum.elim id (fun (s : Int) => s) (rng (R := Int) (fun k (s : Int) => laws_szChargeS_b1 x0 k s) (x0.length - 0) 0 (IntKind.i64.wrap (x1 - ((x0.length : Nat) : Int)))))
theorem cb16 : Cb Tryz.prog 16 := ⟨f16, _, func16, rfl, by decide⟩
theorem laws_szChargeS_c (w : World) (z0 : Value) (x0 : (List DCharge)) (x1 : Int) (r_0 : rdS tyLCharge w w.heap.size z0 x0) :
  Calls Tryz.prog 16 #[z0, .int .i64 x1] w fun e w' => e = .returned (.int .i64 (laws_szChargeS_m x0 x1)) ∧ Below w.heap.size w w' := by
 have r5 := r_0
 obtain ⟨m1, A2, c3, rfl, q4⟩ := r_0
 refine ce2 (L := [(0, .slice A2 x0.length c3), (1, .int .i64 x1)]) (N := 27) func16 ?_
 refine sr (wa (nt' (sr (wm (wm ?_)))))
 refine wv (vlen underlying28) ?_
 refine wv (fun W hm => rv_sub rfl rfl) ?_
 refine wa (nt' (CM_seq (sr (wm ?_))))
 refine wv vlss ?_
 refine nt' ?_
 by_cases h6 : (IntKind.i64.wrap (x1 - ((x0.length : Nat) : Int))) < 0
 ·have g7 : (decide ((IntKind.i64.wrap (x1 - ((x0.length : Nat) : Int))) < 0)) = true := decide_eq_true h6
  refine CM_condT rfl g7 ?_
  refine sr (wa (nt' (CM_ret (QM_then_ret ?_))))
  exact rti (h := by unfold laws_szChargeS_m; exact cond_t g7 (rfl))
 ·have g7 : (decide ((IntKind.i64.wrap (x1 - ((x0.length : Nat) : Int))) < 0)) = false := decide_eq_false h6
  refine CM_condF rfl g7 ?_
  refine CM_skip (QM_then (CM_seq (sr (wa (nt' (CM_block ?_))))))
  let F1 := fun k (s : Int) => laws_szChargeS_b1 x0 k s
  let R2 := rng (R := Int) F1
  refine CM_loop (σ := Nat × (Int) × (Unit)) (fun s => [(0, .slice A2 x0.length c3), (1, .int .i64 s.2.1), (5, .int .i64 ((s.1 : Nat) : Int))]) (fun s => []) (fun s => s.1 ≤ x0.length ∧ R2 (x0.length - s.1) s.1 s.2.1 = R2 (x0.length - 0) 0 (IntKind.i64.wrap (x1 - ((x0.length : Nat) : Int)))) (fun s => x0.length - s.1) (0, (IntKind.i64.wrap (x1 - ((x0.length : Nat) : Int))), ()) sl3 (fun W hm => hm) ⟨(by omega), rfl⟩ ?_
  rintro ⟨k8, s9, ⟨⟩⟩ H12
  obtain ⟨hk10, hF11⟩ : k8 ≤ x0.length ∧ R2 (x0.length - k8) k8 s9 = R2 (x0.length - 0) 0 (IntKind.i64.wrap (x1 - ((x0.length : Nat) : Int))) := H12
  show CM Tryz.prog 27 _ _ _ _ [(0, .slice A2 x0.length c3), (1, .int .i64 s9), (5, .int .i64 ((k8 : Nat) : Int))] []
  refine CM_seq (sr (wm (wm ?_)))
  refine wv (vlen underlying28) ?_
  refine wv vlss ?_
  refine nt' ?_
  by_cases hl13 : k8 < x0.length
  ·have g14 : (decide (((k8 : Nat) : Int) < ((x0.length : Nat) : Int))) = true := decide_eq_true (by omega)
   refine CM_condT rfl g14 ?_
   refine CM_skip (QM_then (CM_seq (CM_block (sr (wm (wm ?_))))))
   obtain ⟨a15, rfl, hb16, he17⟩ := q4 (by omega)
   refine wv (vix 5 k8 underlying28 type84) ?_
   obtain ⟨_, e25, hc18⟩ := he17 k8 _ (gt_some (show k8 < x0.length from by omega))
   obtain ⟨v19, v21, v23, rfl, r20, r22, r24⟩ := tyLCharge_rd e25
   have r30 := r20
   obtain ⟨m26, A27, c28, rfl, q29⟩ := r20
   have r35 := r22
   obtain ⟨m31, A32, c33, rfl, q34⟩ := r22
   have r40 := r24
   obtain ⟨m36, A37, c38, rfl, q39⟩ := r24
   refine wv (fun W hm => rv_loadN (cs := [.int .i64 ((gt x0 k8).Segment), .int .i64 ((gt x0 k8).Base), .slice A27 ((gt x0 k8).Ids).length c28, .slice A32 ((gt x0 k8).Tenants).length c33, .slice A37 ((gt x0 k8).Rows).length c38]) underlying84 type84 rfl rfl (hm.elCells (show (a15.add (k8 * 5)).block < w.heap.size from by rw [add_block]; exact hb16.1) hc18)) ?_
   refine wm ?_
   refine wcv (cl_fn cb37 rfl) (fun W hm => laws_szCharge_c W _ (gt x0 k8) s9 (tyLCharge_mk (x := (gt x0 k8)) (hm.rdS0 r30) (hm.rdS0 r35) (hm.rdS0 r40))) ?_
   refine wa (nt' (sr (wm ?_)))
   refine wv vlss ?_
   refine nt' ?_
   by_cases h41 : (laws_szCharge_m (gt x0 k8) s9) < 0
   ·have g42 : (decide ((laws_szCharge_m (gt x0 k8) s9) < 0)) = true := decide_eq_true h41
    refine CM_condT rfl g42 ?_
    refine sr (wa (nt' (CM_ret (QM_block_ret (QM_then_ret (QM_then_ret (QM_block_ret (QM_then_ret ?_))))))))
    exact rti (h := by unfold laws_szChargeS_m; exact cond_f g7 (fin_inl (rng_ret (body := F1) (k := k8) (s := s9) (show k8 < x0.length from by omega) (show laws_szChargeS_b1 x0 k8 s9 = Sum.inl (-1) from by unfold laws_szChargeS_b1; exact cond_t g42 (rfl)) hF11) rfl))
   ·have g42 : (decide ((laws_szCharge_m (gt x0 k8) s9) < 0)) = false := decide_eq_false h41
    refine CM_condF rfl g42 ?_
    refine CM_skip (QM_block_normal (QM_then (CM_region (wm ?_))))
    refine wv (vadN k8 1 (by omega)) ?_
    refine wa (WM_nil ?_)
    have hn43 := rng_next (R := Int) (body := F1) (k := k8) (s := s9) (s' := (laws_szCharge_m (gt x0 k8) s9)) (show k8 < x0.length from by omega) (show laws_szChargeS_b1 x0 k8 s9 = Sum.inr (laws_szCharge_m (gt x0 k8) s9) from by unfold laws_szChargeS_b1; exact cond_f g42 (rfl)) hF11
    exact QM_round (k8 + 1, (laws_szCharge_m (gt x0 k8) s9), ()) sl3 (fun W hm => hm) ⟨(by omega), hn43⟩ (rl (by omega))
  ·have g14 : (decide (((k8 : Nat) : Int) < ((x0.length : Nat) : Int))) = false := decide_eq_false (by omega)
   refine CM_condF rfl g14 ?_
   refine CM_exit (QM_then_exit (QM_then_exit ?_))
   have hE44 : R2 (x0.length - 0) 0 (IntKind.i64.wrap (x1 - ((x0.length : Nat) : Int))) = Sum.inr s9 := rng_end hl13 hF11
   refine QM_block_hit (QM_then (sr (wm (wa (nt' (CM_ret ?_))))))
   exact rti (h := by unfold laws_szChargeS_m; exact cond_f g7 (fin_inr hE44 (rfl)))

def laws_szEngine_m (x0 : DEngine) (x1 : Int) : Int :=
 cond (decide ((laws_szStore_m x0.Store x1) < 0)) (-1) (cond (decide ((laws_szIntS_m x0.Order (laws_szStore_m x0.Store x1)) < 0)) (-1) (cond (decide ((laws_szActiveS_m x0.Active (laws_szIntS_m x0.Order (laws_szStore_m x0.Store x1))) < 0)) (-1) (cond (decide ((laws_szFinishedS_m x0.Done (laws_szActiveS_m x0.Active (laws_szIntS_m x0.Order (laws_szStore_m x0.Store x1)))) < 0)) (-1) (cond (decide ((laws_szChargeS_m x0.Ledger (laws_szFinishedS_m x0.Done (laws_szActiveS_m x0.Active (laws_szIntS_m x0.Order (laws_szStore_m x0.Store x1))))) < 0)) (-1) (laws_szChargeS_m x0.Ledger (laws_szFinishedS_m x0.Done (laws_szActiveS_m x0.Active (laws_szIntS_m x0.Order (laws_szStore_m x0.Store x1)))))))))
theorem cb4 : Cb Tryz.prog 4 := ⟨f4, _, func4, rfl, by decide⟩
theorem laws_szEngine_c (w : World) (z0 : List Value) (x0 : DEngine) (x1 : Int) (r_0 : tyLEngine.rd w w.heap.size z0 x0) :
  Calls Tryz.prog 4 #[.agg z0.toArray, .int .i64 x1] w fun e w' => e = .returned (.int .i64 (laws_szEngine_m x0 x1)) ∧ Below w.heap.size w w' := by
 obtain ⟨v1, v3, v5, v7, v9, rfl, r2, r4, r6, r8, r10⟩ := tyLEngine_rd r_0
 have r15 := r2
 obtain ⟨m11, A12, c13, rfl, q14⟩ := r2
 have r20 := r4
 obtain ⟨m16, A17, c18, rfl, q19⟩ := r4
 have r25 := r6
 obtain ⟨m21, A22, c23, rfl, q24⟩ := r6
 have r30 := r8
 obtain ⟨m26, A27, c28, rfl, q29⟩ := r8
 have r35 := r10
 obtain ⟨m31, A32, c33, rfl, q34⟩ := r10
 refine ce2 (L := [(0, .agg #[.slice A12 x0.Store.Segments.length c13, .int .i64 x0.Store.Now, .int .i64 x0.Cursor, .slice A17 x0.Order.length c18, .slice A22 x0.Active.length c23, .slice A27 x0.Done.length c28, .slice A32 x0.Ledger.length c33, .int .i64 x0.Steps]), (1, .int .i64 x1)]) (N := 36) func4 ?_
 refine sr ?_
 refine WM_box rfl (Wd_none rfl) (by decide) (fun p36 => ?_)
 refine wa (nt' (sr ?_))
 refine wv (vf underlying30 rfl type24) ?_
 refine wv (fun W hm => rv_loadN (cs := [.slice A12 x0.Store.Segments.length c13, .int .i64 x0.Store.Now]) underlying24 type24 rfl rfl (hm.boxPart (n := 0) rfl rfl)) ?_
 refine wm ?_
 refine wcv (cl_fn cb12 rfl) (fun W hm => laws_szStore_c W _ x0.Store x1 (tyLStore_mk (x := x0.Store) (hm.rdS0 r15))) ?_
 refine wa (nt' (CM_seq (sr (wm ?_))))
 refine wv vlss ?_
 refine nt' ?_
 by_cases h37 : (laws_szStore_m x0.Store x1) < 0
 ·have g38 : (decide ((laws_szStore_m x0.Store x1) < 0)) = true := decide_eq_true h37
  refine CM_condT rfl g38 ?_
  refine sr (wa (nt' (CM_ret (QM_then_ret ?_))))
  exact rti (h := by unfold laws_szEngine_m; exact cond_t g38 (rfl))
 ·have g38 : (decide ((laws_szStore_m x0.Store x1) < 0)) = false := decide_eq_false h37
  refine CM_condF rfl g38 ?_
  refine CM_skip (QM_then (sr ?_))
  refine wv (vf underlying30 rfl type25) ?_
  refine wv (vl 0 3 underlying25) ?_
  refine wm ?_
  refine wcv (cl_fn cb13 rfl) (fun W hm => laws_szIntS_c W _ x0.Order (laws_szStore_m x0.Store x1) (hm.rdS0 r20)) ?_
  refine wa (nt' (CM_seq (sr (wm ?_))))
  refine wv vlss ?_
  refine nt' ?_
  by_cases h39 : (laws_szIntS_m x0.Order (laws_szStore_m x0.Store x1)) < 0
  ·have g40 : (decide ((laws_szIntS_m x0.Order (laws_szStore_m x0.Store x1)) < 0)) = true := decide_eq_true h39
   refine CM_condT rfl g40 ?_
   refine sr (wa (nt' (CM_ret (QM_then_ret ?_))))
   exact rti (h := by unfold laws_szEngine_m; exact cond_f g38 (cond_t g40 (rfl)))
  ·have g40 : (decide ((laws_szIntS_m x0.Order (laws_szStore_m x0.Store x1)) < 0)) = false := decide_eq_false h39
   refine CM_condF rfl g40 ?_
   refine CM_skip (QM_then (sr ?_))
   refine wv (vf underlying30 rfl type26) ?_
   refine wv (vl 0 4 underlying26) ?_
   refine wm ?_
   refine wcv (cl_fn cb14 rfl) (fun W hm => laws_szActiveS_c W _ x0.Active (laws_szIntS_m x0.Order (laws_szStore_m x0.Store x1)) (hm.rdS0 r25)) ?_
   refine wa (nt' (CM_seq (sr (wm ?_))))
   refine wv vlss ?_
   refine nt' ?_
   by_cases h41 : (laws_szActiveS_m x0.Active (laws_szIntS_m x0.Order (laws_szStore_m x0.Store x1))) < 0
   ·have g42 : (decide ((laws_szActiveS_m x0.Active (laws_szIntS_m x0.Order (laws_szStore_m x0.Store x1))) < 0)) = true := decide_eq_true h41
    refine CM_condT rfl g42 ?_
    refine sr (wa (nt' (CM_ret (QM_then_ret ?_))))
    exact rti (h := by unfold laws_szEngine_m; exact cond_f g38 (cond_f g40 (cond_t g42 (rfl))))
   ·have g42 : (decide ((laws_szActiveS_m x0.Active (laws_szIntS_m x0.Order (laws_szStore_m x0.Store x1))) < 0)) = false := decide_eq_false h41
    refine CM_condF rfl g42 ?_
    refine CM_skip (QM_then (sr ?_))
    refine wv (vf underlying30 rfl type27) ?_
    refine wv (vl 0 5 underlying27) ?_
    refine wm ?_
    refine wcv (cl_fn cb15 rfl) (fun W hm => laws_szFinishedS_c W _ x0.Done (laws_szActiveS_m x0.Active (laws_szIntS_m x0.Order (laws_szStore_m x0.Store x1))) (hm.rdS0 r30)) ?_
    refine wa (nt' (CM_seq (sr (wm ?_))))
    refine wv vlss ?_
    refine nt' ?_
    by_cases h43 : (laws_szFinishedS_m x0.Done (laws_szActiveS_m x0.Active (laws_szIntS_m x0.Order (laws_szStore_m x0.Store x1)))) < 0
    ·have g44 : (decide ((laws_szFinishedS_m x0.Done (laws_szActiveS_m x0.Active (laws_szIntS_m x0.Order (laws_szStore_m x0.Store x1)))) < 0)) = true := decide_eq_true h43
     refine CM_condT rfl g44 ?_
     refine sr (wa (nt' (CM_ret (QM_then_ret ?_))))
     exact rti (h := by unfold laws_szEngine_m; exact cond_f g38 (cond_f g40 (cond_f g42 (cond_t g44 (rfl)))))
    ·have g44 : (decide ((laws_szFinishedS_m x0.Done (laws_szActiveS_m x0.Active (laws_szIntS_m x0.Order (laws_szStore_m x0.Store x1)))) < 0)) = false := decide_eq_false h43
     refine CM_condF rfl g44 ?_
     refine CM_skip (QM_then (sr ?_))
     refine wv (vf underlying30 rfl type28) ?_
     refine wv (vl 0 6 underlying28) ?_
     refine wm ?_
     refine wcv (cl_fn cb16 rfl) (fun W hm => laws_szChargeS_c W _ x0.Ledger (laws_szFinishedS_m x0.Done (laws_szActiveS_m x0.Active (laws_szIntS_m x0.Order (laws_szStore_m x0.Store x1)))) (hm.rdS0 r35)) ?_
     refine wa (nt' (CM_seq (sr (wm ?_))))
     refine wv vlss ?_
     refine nt' ?_
     by_cases h45 : (laws_szChargeS_m x0.Ledger (laws_szFinishedS_m x0.Done (laws_szActiveS_m x0.Active (laws_szIntS_m x0.Order (laws_szStore_m x0.Store x1))))) < 0
     ·have g46 : (decide ((laws_szChargeS_m x0.Ledger (laws_szFinishedS_m x0.Done (laws_szActiveS_m x0.Active (laws_szIntS_m x0.Order (laws_szStore_m x0.Store x1))))) < 0)) = true := decide_eq_true h45
      refine CM_condT rfl g46 ?_
      refine sr (wa (nt' (CM_ret (QM_then_ret ?_))))
      exact rti (h := by unfold laws_szEngine_m; exact cond_f g38 (cond_f g40 (cond_f g42 (cond_f g44 (cond_t g46 (rfl))))))
     ·have g46 : (decide ((laws_szChargeS_m x0.Ledger (laws_szFinishedS_m x0.Done (laws_szActiveS_m x0.Active (laws_szIntS_m x0.Order (laws_szStore_m x0.Store x1))))) < 0)) = false := decide_eq_false h45
      refine CM_condF rfl g46 ?_
      refine CM_skip (QM_then (sr (wm (wa (nt' (CM_ret ?_))))))
      exact rti (h := by unfold laws_szEngine_m; exact cond_f g38 (cond_f g40 (cond_f g42 (cond_f g44 (cond_f g46 (rfl))))))

def laws_toIntS_b1 (x0 : (List Int)) (k9 : Nat) (d10 : (List Int)) : (List Int) ⊕ ((List Int)) :=
 Sum.inr (d10.set k9 (gt x0 k9))
def laws_toIntS_m (x0 : (List Int)) : (List Int) :=
 Sum.elim id (fun (s : (List Int)) => s) (rng (R := (List Int)) (fun k (s : (List Int)) => laws_toIntS_b1 x0 k s) (x0.length - 0) 0 (List.replicate x0.length (0 : Int)))
theorem cb21 : Cb Tryz.prog 21 := ⟨f21, _, func21, rfl, by decide⟩
theorem laws_toIntS_c (w : World) (z0 : Value) (x0 : (List Int)) (r_0 : rdS tInt w w.heap.size z0 x0) (s_0 : x0.length ≤ 68719476736) :
  Calls Tryz.prog 21 #[z0] w fun e w' => ∃ v : Value, e = .returned (v) ∧ Mem w.heap.size w [iOwn (tSl tInt 3) [v] (laws_toIntS_m x0)] w' := by
 have r5 := r_0
 obtain ⟨m1, A2, c3, rfl, q4⟩ := r_0
 have l6 : x0.length ≤ 68719476736 := s_0
 refine ce1 (L := [(0, .slice A2 x0.length c3)]) (N := 22) func21 ?_
 refine sr (wa (nt' (sr (wm ?_))))
 refine wv (vlen underlying25) ?_
 refine WM_make (E := tInt) (n := x0.length) (x0 := (0 : Int)) underlying25 type3 rfl rfl rfl (fun _ => tInt_own) rfl rfl (show x0.length * 8 ≤ 281474976710656 from by omega) (by omega) (Wd_none rfl) (by decide) (fun p7 => ?_)
 refine wa (nt' (CM_seq (sr (wa (nt' (CM_block ?_))))))
 let F1 := fun k (s : (List Int)) => laws_toIntS_b1 x0 k s
 let R2 := rng (R := (List Int)) F1
 refine CM_loop (σ := Nat × ((List Int)) × (Unit)) (fun s => [(0, .slice A2 x0.length c3), (3, .slice (some ⟨p7, 0, none⟩) x0.length x0.length), (4, .int .i64 ((s.1 : Nat) : Int))]) (fun s => [iOwn (tSl tInt 3) [.slice (some ⟨p7, 0, none⟩) x0.length x0.length] s.2.1]) (fun s => s.1 ≤ x0.length ∧ R2 (x0.length - s.1) s.1 s.2.1 = R2 (x0.length - 0) 0 (List.replicate x0.length (0 : Int))) (fun s => x0.length - s.1) (0, (List.replicate x0.length (0 : Int)), ()) sl3 (fun W hm => hm) ⟨(by omega), rfl⟩ ?_
 rintro ⟨k9, d10, ⟨⟩⟩ H13
 obtain ⟨hk11, hF12⟩ : k9 ≤ x0.length ∧ R2 (x0.length - k9) k9 d10 = R2 (x0.length - 0) 0 (List.replicate x0.length (0 : Int)) := H13
 show CM Tryz.prog 22 _ _ _ _ [(0, .slice A2 x0.length c3), (3, .slice (some ⟨p7, 0, none⟩) x0.length x0.length), (4, .int .i64 ((k9 : Nat) : Int))] [iOwn (tSl tInt 3) [.slice (some ⟨p7, 0, none⟩) x0.length x0.length] d10]
 refine CM_seq (sr (wm (wm ?_)))
 refine wv (vlen underlying25) ?_
 refine wv vlss ?_
 refine nt' ?_
 by_cases hl14 : k9 < x0.length
 ·have g15 : (decide (((k9 : Nat) : Int) < ((x0.length : Nat) : Int))) = true := decide_eq_true (by omega)
  refine CM_condT rfl g15 ?_
  refine CM_skip (QM_then (CM_seq (CM_block (CM_region (wm (wm (wm (wm ?_))))))))
  obtain ⟨a16, rfl, hb17, he18⟩ := q4 (by omega)
  refine wv (vix 1 k9 underlying25 type3) ?_
  refine wv (fun W hm => rv_load underlying3 rfl rfl ((hm.cell0 (show (a16.add (k9 * 1)).block < w.heap.size from by rw [add_block]; exact hb17.1)).trans (rdS_int he18 k9 (by omega)))) ?_
  refine wv (vix 1 k9 underlying25 type3) ?_
  refine WM_setEl (E := tInt) (e := 3) (u := .int .i64 (gt x0 k9)) (k := k9) (p := p7) (n := x0.length) (xs := d10) (eis := []) (js := []) (yv := (gt x0 k9)) (fun W hm => hm) (fun _ _ hs => (Sep.nil hs ▸ tInt_own)) rfl type3 rfl (by omega) rfl rfl (Wd_none rfl) ?_
  refine WM_nil (QM_block_normal (QM_then (CM_region (wm ?_))))
  refine wv (vadN k9 1 (by omega)) ?_
  refine wa (WM_nil ?_)
  have hn19 := rng_next (R := (List Int)) (body := F1) (k := k9) (s := d10) (s' := (d10.set k9 (gt x0 k9))) (show k9 < x0.length from by omega) (show laws_toIntS_b1 x0 k9 d10 = Sum.inr (d10.set k9 (gt x0 k9)) from by unfold laws_toIntS_b1; exact rfl) hF12
  exact QM_round (k9 + 1, (d10.set k9 (gt x0 k9)), ()) sl3 (fun W hm => hm) ⟨(by omega), hn19⟩ (rl (by omega))
 ·have g15 : (decide (((k9 : Nat) : Int) < ((x0.length : Nat) : Int))) = false := decide_eq_false (by omega)
  refine CM_condF rfl g15 ?_
  refine CM_exit (QM_then_exit (QM_then_exit ?_))
  have hE20 : R2 (x0.length - 0) 0 (List.replicate x0.length (0 : Int)) = Sum.inr d10 := rng_end hl14 hF12
  refine QM_block_hit (QM_then (sr (wm (wa (nt' (CM_ret ?_))))))
  refine QM_r1 rfl (RR_tmp rfl) (fun W hm => ⟨.slice (some ⟨p7, 0, none⟩) x0.length x0.length, ?_, ?_⟩)
  ·first | rw [(show laws_toIntS_m x0 = d10 from by unfold laws_toIntS_m; exact fin_inr hE20 (rfl))] | rfl
  ·rw [(show laws_toIntS_m x0 = d10 from by unfold laws_toIntS_m; exact fin_inr hE20 (rfl))]; exact hm

def laws_toVersion_m (x0 : DVersion) : DVersion :=
 (⟨x0.Id, (laws_toIntS_m x0.Values), x0.Born, x0.Died⟩ : DVersion)
theorem cb99 : Cb Tryz.prog 99 := ⟨f99, _, func99, rfl, by decide⟩
theorem laws_toVersion_c (w : World) (z0 : List Value) (x0 : DVersion) (r_0 : tyLVersion.rd w w.heap.size z0 x0) (s_0 : smVersion 68719476736 x0) :
  Calls Tryz.prog 99 #[.agg z0.toArray] w fun e w' => ∃ v : List Value, e = .returned (.agg v.toArray) ∧ Mem w.heap.size w [iOwn tyVersion v (laws_toVersion_m x0)] w' := by
 obtain ⟨v1, rfl, r2⟩ := tyLVersion_rd r_0
 have r7 := r2
 obtain ⟨m3, A4, c5, rfl, q6⟩ := r2
 have l8 : x0.Values.length ≤ 68719476736 := s_0
 refine ce1 (L := [(0, .agg #[.int .i64 x0.Id, .slice A4 x0.Values.length c5, .int .i64 x0.Born, .int .i64 x0.Died])]) (N := 18) func99 ?_
 refine sr ?_
 refine WM_box rfl (Wd_none rfl) (by decide) (fun p9 => ?_)
 refine WM_alloc type142 rfl (Wd_none rfl) (by decide) (fun p10 => ?_)
 refine nt' (sr ?_)
 refine WM_alloc type142 rfl (Wd_none rfl) (by decide) (fun p11 => ?_)
 refine nt' (sr ?_)
 refine wv (vf underlying133 rfl type3) ?_
 refine wv (vl 2 0 underlying3) ?_
 refine wv (vf underlying142 rfl type3) ?_
 let K1 : List Value := [.int .i64 x0.Id, .slice A4 x0.Values.length c5, .int .i64 x0.Born, .int .i64 x0.Died]
 let I3 : It := iBox p10 142 [.int .i64 0, .slice none 0 0, .int .i64 0, .int .i64 0]
 refine sb 0 [.int .i64 x0.Id, .slice none 0 0, .int .i64 0, .int .i64 0] [I3, iBox p9 133 K1] (fun W hm => hm) type3 ?_
 refine nt' (sr ?_)
 refine wv (vf underlying133 rfl type25) ?_
 refine wv (vl 2 1 underlying25) ?_
 refine wcl (tSl tInt 3) (laws_toIntS_m x0.Values) (cl_fn cb21 rfl) (fun W hm => laws_toIntS_c W _ x0.Values (hm.rdS0 r7) s_0) (fun z12 => ?_)
 refine WM_form (n := 0) rfl ?_
 rintro A13 c14 rfl m15
 refine wv (vf underlying142 rfl type25) ?_
 let I4 : It := iOwn (tSl tInt 3) [.slice A13 (laws_toIntS_m x0.Values).length c14] (laws_toIntS_m x0.Values)
 refine sb 1 [.int .i64 x0.Id, .slice A13 (laws_toIntS_m x0.Values).length c14, .int .i64 0, .int .i64 0] [I4, I3, iBox p9 133 K1] (pk [1, 0, 2, 3]) type25 ?_
 refine nt' (sr ?_)
 refine wv (vf underlying133 rfl type3) ?_
 refine wv (vl 3 2 underlying3) ?_
 refine wv (vf underlying142 rfl type3) ?_
 refine sb 2 [.int .i64 x0.Id, .slice A13 (laws_toIntS_m x0.Values).length c14, .int .i64 x0.Born, .int .i64 0] [I4, I3, iBox p9 133 K1] (fun W hm => hm) type3 ?_
 refine nt' (sr ?_)
 refine wv (vf underlying133 rfl type3) ?_
 refine wv (vl 3 3 underlying3) ?_
 refine wv (vf underlying142 rfl type3) ?_
 let K2 : List Value := [.int .i64 x0.Id, .slice A13 (laws_toIntS_m x0.Values).length c14, .int .i64 x0.Born, .int .i64 x0.Died]
 refine sb 3 K2 [I4, I3, iBox p9 133 K1] (fun W hm => hm) type3 ?_
 refine nt' (sr ?_)
 refine wv (fun W hm => rv_loadN (cs := K2) underlying142 type142 rfl rfl (hm.boxCells (n := 0) rfl)) ?_
 refine sb 0 K2 [iBox p11 142 K2, I4, iBox p9 133 K1] (pk [2, 0, 1, 3]) type142 ?_
 refine nt' (CM_ret ?_)
 refine QM_r1 rfl (RR_cell (n := 0) rfl rfl underlying142 type142 rfl) (fun W hm => ⟨K2, ?_, ?_⟩)
 ·first | rw [(show laws_toVersion_m x0 = (⟨x0.Id, (laws_toIntS_m x0.Values), x0.Born, x0.Died⟩ : DVersion) from by unfold laws_toVersion_m; exact rfl)] | rfl
 ·rw [(show laws_toVersion_m x0 = (⟨x0.Id, (laws_toIntS_m x0.Values), x0.Born, x0.Died⟩ : DVersion) from by unfold laws_toVersion_m; exact rfl)]; exact Mem.join (is := [I4]) (js := []) (fun _ _ hs => tyVersion_join (x := (⟨x0.Id, (laws_toIntS_m x0.Values), x0.Born, x0.Died⟩ : DVersion)) hs) (hm.pick [2] (by decide))

def laws_toVersionS_b1 (x0 : (List DVersion)) (k9 : Nat) (d10 : (List DVersion)) : (List DVersion) ⊕ ((List DVersion)) :=
 Sum.inr (d10.set k9 (laws_toVersion_m (gt x0 k9)))
def laws_toVersionS_m (x0 : (List DVersion)) : (List DVersion) :=
 Sum.elim id (fun (s : (List DVersion)) => s) (rng (R := (List DVersion)) (fun k (s : (List DVersion)) => laws_toVersionS_b1 x0 k s) (x0.length - 0) 0 (List.replicate x0.length (⟨(0 : Int), [], (0 : Int), (0 : Int)⟩ : DVersion)))
theorem cb72 : Cb Tryz.prog 72 := ⟨f72, _, func72, rfl, by decide⟩
theorem laws_toVersionS_c (w : World) (z0 : Value) (x0 : (List DVersion)) (r_0 : rdS tyLVersion w w.heap.size z0 x0) (s_0 : (x0.length ≤ 68719476736 ∧ ∀ y ∈ x0, smVersion 68719476736 y)) :
  Calls Tryz.prog 72 #[z0] w fun e w' => ∃ v : Value, e = .returned (v) ∧ Mem w.heap.size w [iOwn (tSl tyVersion 142) [v] (laws_toVersionS_m x0)] w' := by
 have r5 := r_0
 obtain ⟨m1, A2, c3, rfl, q4⟩ := r_0
 have l6 : x0.length ≤ 68719476736 := s_0.1
 refine ce1 (L := [(0, .slice A2 x0.length c3)]) (N := 23) func72 ?_
 refine sr (wa (nt' (sr (wm ?_))))
 refine wv (vlen underlying111) ?_
 refine WM_make (E := tyVersion) (n := x0.length) (x0 := (⟨(0 : Int), [], (0 : Int), (0 : Int)⟩ : DVersion)) underlying122 type142 rfl rfl rfl (fun _ => ⟨[], [], _, _, rfl, rfl, tInt_own, ⟨[], [], _, _, rfl, rfl, own_nil, ⟨[], [], _, _, rfl, rfl, tInt_own, tInt_own⟩⟩⟩) rfl rfl (show x0.length * 48 ≤ 281474976710656 from by omega) (by omega) (Wd_none rfl) (by decide) (fun p7 => ?_)
 refine wa (nt' (CM_seq (sr (wa (nt' (CM_block ?_))))))
 let F1 := fun k (s : (List DVersion)) => laws_toVersionS_b1 x0 k s
 let R2 := rng (R := (List DVersion)) F1
 refine CM_loop (σ := Nat × ((List DVersion)) × (Unit)) (fun s => [(0, .slice A2 x0.length c3), (3, .slice (some ⟨p7, 0, none⟩) x0.length x0.length), (4, .int .i64 ((s.1 : Nat) : Int))]) (fun s => [iOwn (tSl tyVersion 142) [.slice (some ⟨p7, 0, none⟩) x0.length x0.length] s.2.1]) (fun s => s.1 ≤ x0.length ∧ R2 (x0.length - s.1) s.1 s.2.1 = R2 (x0.length - 0) 0 (List.replicate x0.length (⟨(0 : Int), [], (0 : Int), (0 : Int)⟩ : DVersion))) (fun s => x0.length - s.1) (0, (List.replicate x0.length (⟨(0 : Int), [], (0 : Int), (0 : Int)⟩ : DVersion)), ()) sl3 (fun W hm => hm) ⟨(by omega), rfl⟩ ?_
 rintro ⟨k9, d10, ⟨⟩⟩ H13
 obtain ⟨hk11, hF12⟩ : k9 ≤ x0.length ∧ R2 (x0.length - k9) k9 d10 = R2 (x0.length - 0) 0 (List.replicate x0.length (⟨(0 : Int), [], (0 : Int), (0 : Int)⟩ : DVersion)) := H13
 show CM Tryz.prog 23 _ _ _ _ [(0, .slice A2 x0.length c3), (3, .slice (some ⟨p7, 0, none⟩) x0.length x0.length), (4, .int .i64 ((k9 : Nat) : Int))] [iOwn (tSl tyVersion 142) [.slice (some ⟨p7, 0, none⟩) x0.length x0.length] d10]
 refine CM_seq (sr (wm (wm ?_)))
 refine wv (vlen underlying111) ?_
 refine wv vlss ?_
 refine nt' ?_
 by_cases hl14 : k9 < x0.length
 ·have g15 : (decide (((k9 : Nat) : Int) < ((x0.length : Nat) : Int))) = true := decide_eq_true (by omega)
  refine CM_condT rfl g15 ?_
  refine CM_skip (QM_then (CM_seq (CM_block (CM_region (wm (wm (wm (wm ?_))))))))
  obtain ⟨a16, rfl, hb17, he18⟩ := q4 (by omega)
  refine wv (vix 4 k9 underlying111 type133) ?_
  obtain ⟨_, e22, hc19⟩ := he18 k9 _ (gt_some (show k9 < x0.length from by omega))
  obtain ⟨v20, rfl, r21⟩ := tyLVersion_rd e22
  have l23 : ((gt x0 k9).Values).length ≤ 68719476736 := (s_0.2 _ (gt_mem (show k9 < x0.length from by omega)))
  have r28 := r21
  obtain ⟨m24, A25, c26, rfl, q27⟩ := r21
  refine wv (fun W hm => rv_loadN (cs := [.int .i64 ((gt x0 k9).Id), .slice A25 ((gt x0 k9).Values).length c26, .int .i64 ((gt x0 k9).Born), .int .i64 ((gt x0 k9).Died)]) underlying133 type133 rfl rfl (hm.elCells (show (a16.add (k9 * 4)).block < w.heap.size from by rw [add_block]; exact hb17.1) hc19)) ?_
  refine wcs tyVersion (laws_toVersion_m (gt x0 k9)) (cl_fn cb99 rfl) (fun W hm => laws_toVersion_c W _ (gt x0 k9) (tyLVersion_mk (x := (gt x0 k9)) (hm.rdS0 r28)) (s_0.2 _ (gt_mem (show k9 < x0.length from by omega)))) (fun z29 => ?_)
  refine tyVersion_sp ?_
  rintro v30 rfl
  refine WM_form (n := 0) rfl ?_
  rintro A31 c32 rfl m33
  refine wv (vix 4 k9 underlying122 type142) ?_
  refine WM_setEl (E := tyVersion) (e := 142) (u := .agg #[.int .i64 ((laws_toVersion_m (gt x0 k9)).Id), .slice A31 ((laws_toVersion_m (gt x0 k9)).Values).length c32, .int .i64 ((laws_toVersion_m (gt x0 k9)).Born), .int .i64 ((laws_toVersion_m (gt x0 k9)).Died)]) (k := k9) (p := p7) (n := x0.length) (xs := d10) (eis := [iOwn (tSl tInt 3) [.slice A31 ((laws_toVersion_m (gt x0 k9)).Values).length c32] ((laws_toVersion_m (gt x0 k9)).Values)]) (js := []) (yv := (laws_toVersion_m (gt x0 k9))) (pk [1, 0]) (fun _ _ hs => (tyVersion_join (x := (laws_toVersion_m (gt x0 k9))) hs)) rfl type142 rfl (by omega) rfl rfl (Wd_none rfl) ?_
  refine WM_nil (QM_block_normal (QM_then (CM_region (wm ?_))))
  refine wv (vadN k9 1 (by omega)) ?_
  refine wa (WM_nil ?_)
  have hn35 := rng_next (R := (List DVersion)) (body := F1) (k := k9) (s := d10) (s' := (d10.set k9 (laws_toVersion_m (gt x0 k9)))) (show k9 < x0.length from by omega) (show laws_toVersionS_b1 x0 k9 d10 = Sum.inr (d10.set k9 (laws_toVersion_m (gt x0 k9))) from by unfold laws_toVersionS_b1; exact rfl) hF12
  exact QM_round (k9 + 1, (d10.set k9 (laws_toVersion_m (gt x0 k9))), ()) sl3 (fun W hm => hm) ⟨(by omega), hn35⟩ (rl (by omega))
 ·have g15 : (decide (((k9 : Nat) : Int) < ((x0.length : Nat) : Int))) = false := decide_eq_false (by omega)
  refine CM_condF rfl g15 ?_
  refine CM_exit (QM_then_exit (QM_then_exit ?_))
  have hE36 : R2 (x0.length - 0) 0 (List.replicate x0.length (⟨(0 : Int), [], (0 : Int), (0 : Int)⟩ : DVersion)) = Sum.inr d10 := rng_end hl14 hF12
  refine QM_block_hit (QM_then (sr (wm (wa (nt' (CM_ret ?_))))))
  refine QM_r1 rfl (RR_tmp rfl) (fun W hm => ⟨.slice (some ⟨p7, 0, none⟩) x0.length x0.length, ?_, ?_⟩)
  ·first | rw [(show laws_toVersionS_m x0 = d10 from by unfold laws_toVersionS_m; exact fin_inr hE36 (rfl))] | rfl
  ·rw [(show laws_toVersionS_m x0 = d10 from by unfold laws_toVersionS_m; exact fin_inr hE36 (rfl))]; exact hm

def laws_toVersionSS_b1 (x0 : (List (List DVersion))) (k9 : Nat) (d10 : (List (List DVersion))) : (List (List DVersion)) ⊕ ((List (List DVersion))) :=
 Sum.inr (d10.set k9 (laws_toVersionS_m (gt x0 k9)))
def laws_toVersionSS_m (x0 : (List (List DVersion))) : (List (List DVersion)) :=
 Sum.elim id (fun (s : (List (List DVersion))) => s) (rng (R := (List (List DVersion))) (fun k (s : (List (List DVersion))) => laws_toVersionSS_b1 x0 k s) (x0.length - 0) 0 (List.replicate x0.length []))
theorem cb44 : Cb Tryz.prog 44 := ⟨f44, _, func44, rfl, by decide⟩
theorem laws_toVersionSS_c (w : World) (z0 : Value) (x0 : (List (List DVersion))) (r_0 : rdS (tSl tyLVersion 133) w w.heap.size z0 x0) (s_0 : (x0.length ≤ 68719476736 ∧ ∀ y ∈ x0, (y.length ≤ 68719476736 ∧ ∀ y1 ∈ y, smVersion 68719476736 y1))) :
  Calls Tryz.prog 44 #[z0] w fun e w' => ∃ v : Value, e = .returned (v) ∧ Mem w.heap.size w [iOwn (tSl (tSl tyVersion 142) 122) [v] (laws_toVersionSS_m x0)] w' := by
 have r5 := r_0
 obtain ⟨m1, A2, c3, rfl, q4⟩ := r_0
 have l6 : x0.length ≤ 68719476736 := s_0.1
 refine ce1 (L := [(0, .slice A2 x0.length c3)]) (N := 23) func44 ?_
 refine sr (wa (nt' (sr (wm ?_))))
 refine wv (vlen underlying22) ?_
 refine WM_make (E := (tSl tyVersion 142)) (n := x0.length) (x0 := []) underlying37 type122 rfl rfl rfl (fun _ => own_nil) rfl rfl (show x0.length * 24 ≤ 281474976710656 from by omega) (by omega) (Wd_none rfl) (by decide) (fun p7 => ?_)
 refine wa (nt' (CM_seq (sr (wa (nt' (CM_block ?_))))))
 let F1 := fun k (s : (List (List DVersion))) => laws_toVersionSS_b1 x0 k s
 let R2 := rng (R := (List (List DVersion))) F1
 refine CM_loop (σ := Nat × ((List (List DVersion))) × (Unit)) (fun s => [(0, .slice A2 x0.length c3), (3, .slice (some ⟨p7, 0, none⟩) x0.length x0.length), (4, .int .i64 ((s.1 : Nat) : Int))]) (fun s => [iOwn (tSl (tSl tyVersion 142) 122) [.slice (some ⟨p7, 0, none⟩) x0.length x0.length] s.2.1]) (fun s => s.1 ≤ x0.length ∧ R2 (x0.length - s.1) s.1 s.2.1 = R2 (x0.length - 0) 0 (List.replicate x0.length [])) (fun s => x0.length - s.1) (0, (List.replicate x0.length []), ()) sl3 (fun W hm => hm) ⟨(by omega), rfl⟩ ?_
 rintro ⟨k9, d10, ⟨⟩⟩ H13
 obtain ⟨hk11, hF12⟩ : k9 ≤ x0.length ∧ R2 (x0.length - k9) k9 d10 = R2 (x0.length - 0) 0 (List.replicate x0.length []) := H13
 show CM Tryz.prog 23 _ _ _ _ [(0, .slice A2 x0.length c3), (3, .slice (some ⟨p7, 0, none⟩) x0.length x0.length), (4, .int .i64 ((k9 : Nat) : Int))] [iOwn (tSl (tSl tyVersion 142) 122) [.slice (some ⟨p7, 0, none⟩) x0.length x0.length] d10]
 refine CM_seq (sr (wm (wm ?_)))
 refine wv (vlen underlying22) ?_
 refine wv vlss ?_
 refine nt' ?_
 by_cases hl14 : k9 < x0.length
 ·have g15 : (decide (((k9 : Nat) : Int) < ((x0.length : Nat) : Int))) = true := decide_eq_true (by omega)
  refine CM_condT rfl g15 ?_
  refine CM_skip (QM_then (CM_seq (CM_block (CM_region (wm (wm (wm (wm ?_))))))))
  obtain ⟨a16, rfl, hb17, he18⟩ := q4 (by omega)
  refine wv (vix 1 k9 underlying22 type111) ?_
  obtain ⟨_, e20, hc19⟩ := he18 k9 _ (gt_some (show k9 < x0.length from by omega))
  have l21 : (gt x0 k9).length ≤ 68719476736 := (s_0.2 _ (gt_mem (show k9 < x0.length from by omega))).1
  obtain ⟨v22, rfl, r23⟩ := e20
  have r28 := r23
  obtain ⟨m24, A25, c26, rfl, q27⟩ := r23
  refine wv (fun W hm => rv_load underlying111 rfl rfl ((hm.cell0 (show (a16.add (k9 * 1)).block < w.heap.size from by rw [add_block]; exact hb17.1)).trans (hc19 0 _ rfl))) ?_
  refine wcl (tSl tyVersion 142) (laws_toVersionS_m (gt x0 k9)) (cl_fn cb72 rfl) (fun W hm => laws_toVersionS_c W _ (gt x0 k9) (hm.rdS0 r28) (s_0.2 _ (gt_mem (show k9 < x0.length from by omega)))) (fun z29 => ?_)
  refine WM_form (n := 0) rfl ?_
  rintro A30 c31 rfl m32
  refine wv (vix 1 k9 underlying37 type122) ?_
  refine WM_setEl (E := (tSl tyVersion 142)) (e := 122) (u := .slice A30 (laws_toVersionS_m (gt x0 k9)).length c31) (k := k9) (p := p7) (n := x0.length) (xs := d10) (eis := [iOwn (tSl tyVersion 142) [.slice A30 (laws_toVersionS_m (gt x0 k9)).length c31] (laws_toVersionS_m (gt x0 k9))]) (js := []) (yv := (laws_toVersionS_m (gt x0 k9))) (pk [1, 0]) (fun _ _ hs => (Sep.one hs)) rfl type122 rfl (by omega) rfl rfl (Wd_none rfl) ?_
  refine WM_nil (QM_block_normal (QM_then (CM_region (wm ?_))))
  refine wv (vadN k9 1 (by omega)) ?_
  refine wa (WM_nil ?_)
  have hn34 := rng_next (R := (List (List DVersion))) (body := F1) (k := k9) (s := d10) (s' := (d10.set k9 (laws_toVersionS_m (gt x0 k9)))) (show k9 < x0.length from by omega) (show laws_toVersionSS_b1 x0 k9 d10 = Sum.inr (d10.set k9 (laws_toVersionS_m (gt x0 k9))) from by unfold laws_toVersionSS_b1; exact rfl) hF12
  exact QM_round (k9 + 1, (d10.set k9 (laws_toVersionS_m (gt x0 k9))), ()) sl3 (fun W hm => hm) ⟨(by omega), hn34⟩ (rl (by omega))
 ·have g15 : (decide (((k9 : Nat) : Int) < ((x0.length : Nat) : Int))) = false := decide_eq_false (by omega)
  refine CM_condF rfl g15 ?_
  refine CM_exit (QM_then_exit (QM_then_exit ?_))
  have hE35 : R2 (x0.length - 0) 0 (List.replicate x0.length []) = Sum.inr d10 := rng_end hl14 hF12
  refine QM_block_hit (QM_then (sr (wm (wa (nt' (CM_ret ?_))))))
  refine QM_r1 rfl (RR_tmp rfl) (fun W hm => ⟨.slice (some ⟨p7, 0, none⟩) x0.length x0.length, ?_, ?_⟩)
  ·first | rw [(show laws_toVersionSS_m x0 = d10 from by unfold laws_toVersionSS_m; exact fin_inr hE35 (rfl))] | rfl
  ·rw [(show laws_toVersionSS_m x0 = d10 from by unfold laws_toVersionSS_m; exact fin_inr hE35 (rfl))]; exact hm

def laws_toStore_m (x0 : DStore) : DStore :=
 (⟨(laws_toVersionSS_m x0.Segments), x0.Now⟩ : DStore)
theorem cb20 : Cb Tryz.prog 20 := ⟨f20, _, func20, rfl, by decide⟩
theorem laws_toStore_c (w : World) (z0 : List Value) (x0 : DStore) (r_0 : tyLStore.rd w w.heap.size z0 x0) (s_0 : smStore 68719476736 x0) :
  Calls Tryz.prog 20 #[.agg z0.toArray] w fun e w' => ∃ v : List Value, e = .returned (.agg v.toArray) ∧ Mem w.heap.size w [iOwn tyStore v (laws_toStore_m x0)] w' := by
 obtain ⟨v1, rfl, r2⟩ := tyLStore_rd r_0
 have r7 := r2
 obtain ⟨m3, A4, c5, rfl, q6⟩ := r2
 have l8 : x0.Segments.length ≤ 68719476736 := s_0.1
 refine ce1 (L := [(0, .agg #[.slice A4 x0.Segments.length c5, .int .i64 x0.Now])]) (N := 12) func20 ?_
 refine sr ?_
 refine WM_box rfl (Wd_none rfl) (by decide) (fun p9 => ?_)
 refine WM_alloc type39 rfl (Wd_none rfl) (by decide) (fun p10 => ?_)
 refine nt' (sr ?_)
 refine WM_alloc type39 rfl (Wd_none rfl) (by decide) (fun p11 => ?_)
 refine nt' (sr ?_)
 refine wv (vf underlying24 rfl type22) ?_
 refine wv (vl 2 0 underlying22) ?_
 refine wcl (tSl (tSl tyVersion 142) 122) (laws_toVersionSS_m x0.Segments) (cl_fn cb44 rfl) (fun W hm => laws_toVersionSS_c W _ x0.Segments (hm.rdS0 r7) s_0) (fun z12 => ?_)
 refine WM_form (n := 0) rfl ?_
 rintro A13 c14 rfl m15
 refine wv (vf underlying39 rfl type37) ?_
 let I2 : It := iOwn (tSl (tSl tyVersion 142) 122) [.slice A13 (laws_toVersionSS_m x0.Segments).length c14] (laws_toVersionSS_m x0.Segments)
 let I3 : It := iBox p9 24 [.slice A4 x0.Segments.length c5, .int .i64 x0.Now]
 refine sb 0 [.slice A13 (laws_toVersionSS_m x0.Segments).length c14, .int .i64 0] [I2, iBox p10 39 [.slice none 0 0, .int .i64 0], I3] (pk [1, 0, 2, 3]) type37 ?_
 refine nt' (sr ?_)
 refine wv (vf underlying24 rfl type3) ?_
 refine wv (vl 3 1 underlying3) ?_
 refine wv (vf underlying39 rfl type3) ?_
 let K1 : List Value := [.slice A13 (laws_toVersionSS_m x0.Segments).length c14, .int .i64 x0.Now]
 refine sb 1 K1 [I2, iBox p10 39 [.slice none 0 0, .int .i64 0], I3] (fun W hm => hm) type3 ?_
 refine nt' (sr ?_)
 refine wv (fun W hm => rv_loadN (cs := K1) underlying39 type39 rfl rfl (hm.boxCells (n := 0) rfl)) ?_
 refine sb 0 K1 [iBox p11 39 K1, I2, I3] (pk [2, 0, 1, 3]) type39 ?_
 refine nt' (CM_ret ?_)
 refine QM_r1 rfl (RR_cell (n := 0) rfl rfl underlying39 type39 rfl) (fun W hm => ⟨K1, ?_, ?_⟩)
 ·first | rw [(show laws_toStore_m x0 = (⟨(laws_toVersionSS_m x0.Segments), x0.Now⟩ : DStore) from by unfold laws_toStore_m; exact rfl)] | rfl
 ·rw [(show laws_toStore_m x0 = (⟨(laws_toVersionSS_m x0.Segments), x0.Now⟩ : DStore) from by unfold laws_toStore_m; exact rfl)]; exact Mem.join (is := [I2]) (js := []) (fun _ _ hs => tyStore_join (x := (⟨(laws_toVersionSS_m x0.Segments), x0.Now⟩ : DStore)) hs) (hm.pick [2] (by decide))

def laws_toCond_m (x0 : DCond) : DCond :=
 x0
theorem cb48 : Cb Tryz.prog 48 := ⟨f48, _, func48, rfl, by decide⟩
theorem laws_toCond_c (w : World) (z0 : List Value) (x0 : DCond) (r_0 : tyLCond.rd w w.heap.size z0 x0) :
  Calls Tryz.prog 48 #[.agg z0.toArray] w fun e w' => ∃ v : List Value, e = .returned (.agg v.toArray) ∧ Mem w.heap.size w [iOwn tyCond v (laws_toCond_m x0)] w' := by
 obtain rfl := tyLCond_rd r_0
 refine ce1 (L := [(0, .agg #[.int .i64 x0.Field, .int .i64 x0.Low, .int .i64 x0.High])]) (N := 14) func48 ?_
 refine sr ?_
 refine WM_box rfl (Wd_none rfl) (by decide) (fun p1 => ?_)
 refine WM_alloc type102 rfl (Wd_none rfl) (by decide) (fun p2 => ?_)
 refine nt' (sr ?_)
 refine WM_alloc type102 rfl (Wd_none rfl) (by decide) (fun p3 => ?_)
 refine nt' (sr ?_)
 refine wv (vf underlying104 rfl type3) ?_
 refine wv (vl 2 0 underlying3) ?_
 refine wv (vf underlying102 rfl type3) ?_
 let I1 : It := iBox p2 102 [.int .i64 0, .int .i64 0, .int .i64 0]
 let I2 : It := iBox p1 104 [.int .i64 x0.Field, .int .i64 x0.Low, .int .i64 x0.High]
 refine sb 0 [.int .i64 x0.Field, .int .i64 0, .int .i64 0] [I1, I2] (fun W hm => hm) type3 ?_
 refine nt' (sr ?_)
 refine wv (vf underlying104 rfl type3) ?_
 refine wv (vl 2 1 underlying3) ?_
 refine wv (vf underlying102 rfl type3) ?_
 refine sb 1 [.int .i64 x0.Field, .int .i64 x0.Low, .int .i64 0] [I1, I2] (fun W hm => hm) type3 ?_
 refine nt' (sr ?_)
 refine wv (vf underlying104 rfl type3) ?_
 refine wv (vl 2 2 underlying3) ?_
 refine wv (vf underlying102 rfl type3) ?_
 refine sb 2 [.int .i64 x0.Field, .int .i64 x0.Low, .int .i64 x0.High] [I1, I2] (fun W hm => hm) type3 ?_
 refine nt' (sr ?_)
 refine wv (fun W hm => rv_loadN (cs := [.int .i64 x0.Field, .int .i64 x0.Low, .int .i64 x0.High]) underlying102 type102 rfl rfl (hm.boxCells (n := 0) rfl)) ?_
 refine sb 0 [.int .i64 x0.Field, .int .i64 x0.Low, .int .i64 x0.High] [iBox p3 102 [.int .i64 x0.Field, .int .i64 x0.Low, .int .i64 x0.High], I2] (pk [1, 0, 2]) type102 ?_
 refine nt' (CM_ret ?_)
 refine QM_r1 rfl (RR_cell (n := 0) rfl rfl underlying102 type102 rfl) (fun W hm => ⟨[.int .i64 x0.Field, .int .i64 x0.Low, .int .i64 x0.High], ?_, ?_⟩)
 ·first | rw [(show laws_toCond_m x0 = x0 from by unfold laws_toCond_m; exact rfl)] | rfl
 ·rw [(show laws_toCond_m x0 = x0 from by unfold laws_toCond_m; exact rfl)]; exact Mem.join (is := []) (js := []) (fun _ _ hs => tyCond_join (x := x0) hs) (hm.pick [] (by decide))

def laws_toCondS_b1 (x0 : (List DCond)) (k9 : Nat) (d10 : (List DCond)) : (List DCond) ⊕ ((List DCond)) :=
 Sum.inr (d10.set k9 (laws_toCond_m (gt x0 k9)))
def laws_toCondS_m (x0 : (List DCond)) : (List DCond) :=
 Sum.elim id (fun (s : (List DCond)) => s) (rng (R := (List DCond)) (fun k (s : (List DCond)) => laws_toCondS_b1 x0 k s) (x0.length - 0) 0 (List.replicate x0.length (⟨(0 : Int), (0 : Int), (0 : Int)⟩ : DCond)))
theorem cb25 : Cb Tryz.prog 25 := ⟨f25, _, func25, rfl, by decide⟩
theorem laws_toCondS_c (w : World) (z0 : Value) (x0 : (List DCond)) (r_0 : rdS tyLCond w w.heap.size z0 x0) (s_0 : x0.length ≤ 68719476736) :
  Calls Tryz.prog 25 #[z0] w fun e w' => ∃ v : Value, e = .returned (v) ∧ Mem w.heap.size w [iOwn (tSl tyCond 102) [v] (laws_toCondS_m x0)] w' := by
 have r5 := r_0
 obtain ⟨m1, A2, c3, rfl, q4⟩ := r_0
 have l6 : x0.length ≤ 68719476736 := s_0
 refine ce1 (L := [(0, .slice A2 x0.length c3)]) (N := 23) func25 ?_
 refine sr (wa (nt' (sr (wm ?_))))
 refine wv (vlen underlying31) ?_
 refine WM_make (E := tyCond) (n := x0.length) (x0 := (⟨(0 : Int), (0 : Int), (0 : Int)⟩ : DCond)) underlying46 type102 rfl rfl rfl (fun _ => ⟨[], [], _, _, rfl, rfl, tInt_own, ⟨[], [], _, _, rfl, rfl, tInt_own, tInt_own⟩⟩) rfl rfl (show x0.length * 24 ≤ 281474976710656 from by omega) (by omega) (Wd_none rfl) (by decide) (fun p7 => ?_)
 refine wa (nt' (CM_seq (sr (wa (nt' (CM_block ?_))))))
 let F1 := fun k (s : (List DCond)) => laws_toCondS_b1 x0 k s
 let R2 := rng (R := (List DCond)) F1
 refine CM_loop (σ := Nat × ((List DCond)) × (Unit)) (fun s => [(0, .slice A2 x0.length c3), (3, .slice (some ⟨p7, 0, none⟩) x0.length x0.length), (4, .int .i64 ((s.1 : Nat) : Int))]) (fun s => [iOwn (tSl tyCond 102) [.slice (some ⟨p7, 0, none⟩) x0.length x0.length] s.2.1]) (fun s => s.1 ≤ x0.length ∧ R2 (x0.length - s.1) s.1 s.2.1 = R2 (x0.length - 0) 0 (List.replicate x0.length (⟨(0 : Int), (0 : Int), (0 : Int)⟩ : DCond))) (fun s => x0.length - s.1) (0, (List.replicate x0.length (⟨(0 : Int), (0 : Int), (0 : Int)⟩ : DCond)), ()) sl3 (fun W hm => hm) ⟨(by omega), rfl⟩ ?_
 rintro ⟨k9, d10, ⟨⟩⟩ H13
 obtain ⟨hk11, hF12⟩ : k9 ≤ x0.length ∧ R2 (x0.length - k9) k9 d10 = R2 (x0.length - 0) 0 (List.replicate x0.length (⟨(0 : Int), (0 : Int), (0 : Int)⟩ : DCond)) := H13
 show CM Tryz.prog 23 _ _ _ _ [(0, .slice A2 x0.length c3), (3, .slice (some ⟨p7, 0, none⟩) x0.length x0.length), (4, .int .i64 ((k9 : Nat) : Int))] [iOwn (tSl tyCond 102) [.slice (some ⟨p7, 0, none⟩) x0.length x0.length] d10]
 refine CM_seq (sr (wm (wm ?_)))
 refine wv (vlen underlying31) ?_
 refine wv vlss ?_
 refine nt' ?_
 by_cases hl14 : k9 < x0.length
 ·have g15 : (decide (((k9 : Nat) : Int) < ((x0.length : Nat) : Int))) = true := decide_eq_true (by omega)
  refine CM_condT rfl g15 ?_
  refine CM_skip (QM_then (CM_seq (CM_block (CM_region (wm (wm (wm (wm ?_))))))))
  obtain ⟨a16, rfl, hb17, he18⟩ := q4 (by omega)
  refine wv (vix 3 k9 underlying31 type104) ?_
  obtain ⟨_, e20, hc19⟩ := he18 k9 _ (gt_some (show k9 < x0.length from by omega))
  obtain rfl := tyLCond_rd e20
  refine wv (fun W hm => rv_loadN (cs := [.int .i64 ((gt x0 k9).Field), .int .i64 ((gt x0 k9).Low), .int .i64 ((gt x0 k9).High)]) underlying104 type104 rfl rfl (hm.elCells (show (a16.add (k9 * 3)).block < w.heap.size from by rw [add_block]; exact hb17.1) hc19)) ?_
  refine wcs tyCond (laws_toCond_m (gt x0 k9)) (cl_fn cb48 rfl) (fun W hm => laws_toCond_c W _ (gt x0 k9) (tyLCond_mk (x := (gt x0 k9)))) (fun z21 => ?_)
  refine tyCond_sp ?_
  rintro ⟨⟩ rfl
  refine wv (vix 3 k9 underlying46 type102) ?_
  refine WM_setEl (E := tyCond) (e := 102) (u := .agg #[.int .i64 ((laws_toCond_m (gt x0 k9)).Field), .int .i64 ((laws_toCond_m (gt x0 k9)).Low), .int .i64 ((laws_toCond_m (gt x0 k9)).High)]) (k := k9) (p := p7) (n := x0.length) (xs := d10) (eis := []) (js := []) (yv := (laws_toCond_m (gt x0 k9))) (fun W hm => hm) (fun _ _ hs => (tyCond_join (x := (laws_toCond_m (gt x0 k9))) hs)) rfl type102 rfl (by omega) rfl rfl (Wd_none rfl) ?_
  refine WM_nil (QM_block_normal (QM_then (CM_region (wm ?_))))
  refine wv (vadN k9 1 (by omega)) ?_
  refine wa (WM_nil ?_)
  have hn22 := rng_next (R := (List DCond)) (body := F1) (k := k9) (s := d10) (s' := (d10.set k9 (laws_toCond_m (gt x0 k9)))) (show k9 < x0.length from by omega) (show laws_toCondS_b1 x0 k9 d10 = Sum.inr (d10.set k9 (laws_toCond_m (gt x0 k9))) from by unfold laws_toCondS_b1; exact rfl) hF12
  exact QM_round (k9 + 1, (d10.set k9 (laws_toCond_m (gt x0 k9))), ()) sl3 (fun W hm => hm) ⟨(by omega), hn22⟩ (rl (by omega))
 ·have g15 : (decide (((k9 : Nat) : Int) < ((x0.length : Nat) : Int))) = false := decide_eq_false (by omega)
  refine CM_condF rfl g15 ?_
  refine CM_exit (QM_then_exit (QM_then_exit ?_))
  have hE23 : R2 (x0.length - 0) 0 (List.replicate x0.length (⟨(0 : Int), (0 : Int), (0 : Int)⟩ : DCond)) = Sum.inr d10 := rng_end hl14 hF12
  refine QM_block_hit (QM_then (sr (wm (wa (nt' (CM_ret ?_))))))
  refine QM_r1 rfl (RR_tmp rfl) (fun W hm => ⟨.slice (some ⟨p7, 0, none⟩) x0.length x0.length, ?_, ?_⟩)
  ·first | rw [(show laws_toCondS_m x0 = d10 from by unfold laws_toCondS_m; exact fin_inr hE23 (rfl))] | rfl
  ·rw [(show laws_toCondS_m x0 = d10 from by unfold laws_toCondS_m; exact fin_inr hE23 (rfl))]; exact hm

def laws_toQuery_m (x0 : DQuery) : DQuery :=
 (⟨x0.Id, x0.Tenant, (laws_toCondS_m x0.Conds), (laws_toIntS_m x0.Out)⟩ : DQuery)
theorem cb8 : Cb Tryz.prog 8 := ⟨f8, _, func8, rfl, by decide⟩
theorem laws_toQuery_c (w : World) (z0 : List Value) (x0 : DQuery) (r_0 : tyLQuery.rd w w.heap.size z0 x0) (s_0 : smQuery 68719476736 x0) :
  Calls Tryz.prog 8 #[.agg z0.toArray] w fun e w' => ∃ v : List Value, e = .returned (.agg v.toArray) ∧ Mem w.heap.size w [iOwn tyQuery v (laws_toQuery_m x0)] w' := by
 obtain ⟨v1, v3, rfl, r2, r4⟩ := tyLQuery_rd r_0
 have r9 := r2
 obtain ⟨m5, A6, c7, rfl, q8⟩ := r2
 have r14 := r4
 obtain ⟨m10, A11, c12, rfl, q13⟩ := r4
 have l15 : x0.Conds.length ≤ 68719476736 := s_0.1
 have l16 : x0.Out.length ≤ 68719476736 := s_0.2
 refine ce1 (L := [(0, .agg #[.int .i64 x0.Id, .int .i64 x0.Tenant, .slice A6 x0.Conds.length c7, .slice A11 x0.Out.length c12])]) (N := 19) func8 ?_
 refine sr ?_
 refine WM_box rfl (Wd_none rfl) (by decide) (fun p17 => ?_)
 refine WM_alloc type48 rfl (Wd_none rfl) (by decide) (fun p18 => ?_)
 refine nt' (sr ?_)
 refine WM_alloc type48 rfl (Wd_none rfl) (by decide) (fun p19 => ?_)
 refine nt' (sr ?_)
 refine wv (vf underlying33 rfl type3) ?_
 refine wv (vl 2 0 underlying3) ?_
 refine wv (vf underlying48 rfl type3) ?_
 let K1 : List Value := [.int .i64 0, .int .i64 0, .slice none 0 0, .slice none 0 0]
 let K2 : List Value := [.int .i64 x0.Id, .int .i64 x0.Tenant, .slice A6 x0.Conds.length c7, .slice A11 x0.Out.length c12]
 refine sb 0 [.int .i64 x0.Id, .int .i64 0, .slice none 0 0, .slice none 0 0] [iBox p18 48 K1, iBox p17 33 K2] (fun W hm => hm) type3 ?_
 refine nt' (sr ?_)
 refine wv (vf underlying33 rfl type3) ?_
 refine wv (vl 2 1 underlying3) ?_
 refine wv (vf underlying48 rfl type3) ?_
 refine sb 1 [.int .i64 x0.Id, .int .i64 x0.Tenant, .slice none 0 0, .slice none 0 0] [iBox p18 48 K1, iBox p17 33 K2] (fun W hm => hm) type3 ?_
 refine nt' (sr ?_)
 refine wv (vf underlying33 rfl type31) ?_
 refine wv (vl 2 2 underlying31) ?_
 refine wcl (tSl tyCond 102) (laws_toCondS_m x0.Conds) (cl_fn cb25 rfl) (fun W hm => laws_toCondS_c W _ x0.Conds (hm.rdS0 r9) s_0.1) (fun z20 => ?_)
 refine WM_form (n := 0) rfl ?_
 rintro A21 c22 rfl m23
 refine wv (vf underlying48 rfl type46) ?_
 let I4 : It := iOwn (tSl tyCond 102) [.slice A21 (laws_toCondS_m x0.Conds).length c22] (laws_toCondS_m x0.Conds)
 refine sb 2 [.int .i64 x0.Id, .int .i64 x0.Tenant, .slice A21 (laws_toCondS_m x0.Conds).length c22, .slice none 0 0] [I4, iBox p18 48 K1, iBox p17 33 K2] (pk [1, 0, 2, 3]) type46 ?_
 refine nt' (sr ?_)
 refine wv (vf underlying33 rfl type25) ?_
 refine wv (vl 3 3 underlying25) ?_
 refine wcl (tSl tInt 3) (laws_toIntS_m x0.Out) (cl_fn cb21 rfl) (fun W hm => laws_toIntS_c W _ x0.Out (hm.rdS0 r14) s_0.2) (fun z25 => ?_)
 refine WM_form (n := 0) rfl ?_
 rintro A26 c27 rfl m28
 refine wv (vf underlying48 rfl type25) ?_
 let K3 : List Value := [.int .i64 x0.Id, .int .i64 x0.Tenant, .slice A21 (laws_toCondS_m x0.Conds).length c22, .slice A26 (laws_toIntS_m x0.Out).length c27]
 let I5 : It := iOwn (tSl tInt 3) [.slice A26 (laws_toIntS_m x0.Out).length c27] (laws_toIntS_m x0.Out)
 refine sb 3 K3 [I5, I4, iBox p18 48 K1, iBox p17 33 K2] (pk [1, 0, 2, 3, 4]) type25 ?_
 refine nt' (sr ?_)
 refine wv (fun W hm => rv_loadN (cs := K3) underlying48 type48 rfl rfl (hm.boxCells (n := 0) rfl)) ?_
 refine sb 0 K3 [iBox p19 48 K3, I5, I4, iBox p17 33 K2] (pk [3, 0, 1, 2, 4]) type48 ?_
 refine nt' (CM_ret ?_)
 refine QM_r1 rfl (RR_cell (n := 0) rfl rfl underlying48 type48 rfl) (fun W hm => ⟨K3, ?_, ?_⟩)
 ·first | rw [(show laws_toQuery_m x0 = (⟨x0.Id, x0.Tenant, (laws_toCondS_m x0.Conds), (laws_toIntS_m x0.Out)⟩ : DQuery) from by unfold laws_toQuery_m; exact rfl)] | rfl
 ·rw [(show laws_toQuery_m x0 = (⟨x0.Id, x0.Tenant, (laws_toCondS_m x0.Conds), (laws_toIntS_m x0.Out)⟩ : DQuery) from by unfold laws_toQuery_m; exact rfl)]; exact Mem.join (is := [I4, I5]) (js := []) (fun _ _ hs => tyQuery_join (x := (⟨x0.Id, x0.Tenant, (laws_toCondS_m x0.Conds), (laws_toIntS_m x0.Out)⟩ : DQuery)) hs) (hm.pick [3, 2] (by decide))

def laws_toRow_m (x0 : DRow) : DRow :=
 (⟨x0.Id, (laws_toIntS_m x0.Values)⟩ : DRow)
theorem cb100 : Cb Tryz.prog 100 := ⟨f100, _, func100, rfl, by decide⟩
theorem laws_toRow_c (w : World) (z0 : List Value) (x0 : DRow) (r_0 : tyLRow.rd w w.heap.size z0 x0) (s_0 : smRow 68719476736 x0) :
  Calls Tryz.prog 100 #[.agg z0.toArray] w fun e w' => ∃ v : List Value, e = .returned (.agg v.toArray) ∧ Mem w.heap.size w [iOwn tyRow v (laws_toRow_m x0)] w' := by
 obtain ⟨v1, rfl, r2⟩ := tyLRow_rd r_0
 have r7 := r2
 obtain ⟨m3, A4, c5, rfl, q6⟩ := r2
 have l8 : x0.Values.length ≤ 68719476736 := s_0
 refine ce1 (L := [(0, .agg #[.int .i64 x0.Id, .slice A4 x0.Values.length c5])]) (N := 12) func100 ?_
 refine sr ?_
 refine WM_box rfl (Wd_none rfl) (by decide) (fun p9 => ?_)
 refine WM_alloc type138 rfl (Wd_none rfl) (by decide) (fun p10 => ?_)
 refine nt' (sr ?_)
 refine WM_alloc type138 rfl (Wd_none rfl) (by decide) (fun p11 => ?_)
 refine nt' (sr ?_)
 refine wv (vf underlying136 rfl type3) ?_
 refine wv (vl 2 0 underlying3) ?_
 refine wv (vf underlying138 rfl type3) ?_
 let I2 : It := iBox p9 136 [.int .i64 x0.Id, .slice A4 x0.Values.length c5]
 refine sb 0 [.int .i64 x0.Id, .slice none 0 0] [iBox p10 138 [.int .i64 0, .slice none 0 0], I2] (fun W hm => hm) type3 ?_
 refine nt' (sr ?_)
 refine wv (vf underlying136 rfl type25) ?_
 refine wv (vl 2 1 underlying25) ?_
 refine wcl (tSl tInt 3) (laws_toIntS_m x0.Values) (cl_fn cb21 rfl) (fun W hm => laws_toIntS_c W _ x0.Values (hm.rdS0 r7) s_0) (fun z12 => ?_)
 refine WM_form (n := 0) rfl ?_
 rintro A13 c14 rfl m15
 refine wv (vf underlying138 rfl type25) ?_
 let K1 : List Value := [.int .i64 x0.Id, .slice A13 (laws_toIntS_m x0.Values).length c14]
 let I3 : It := iOwn (tSl tInt 3) [.slice A13 (laws_toIntS_m x0.Values).length c14] (laws_toIntS_m x0.Values)
 refine sb 1 K1 [I3, iBox p10 138 [.int .i64 0, .slice none 0 0], I2] (pk [1, 0, 2, 3]) type25 ?_
 refine nt' (sr ?_)
 refine wv (fun W hm => rv_loadN (cs := K1) underlying138 type138 rfl rfl (hm.boxCells (n := 0) rfl)) ?_
 refine sb 0 K1 [iBox p11 138 K1, I3, I2] (pk [2, 0, 1, 3]) type138 ?_
 refine nt' (CM_ret ?_)
 refine QM_r1 rfl (RR_cell (n := 0) rfl rfl underlying138 type138 rfl) (fun W hm => ⟨K1, ?_, ?_⟩)
 ·first | rw [(show laws_toRow_m x0 = (⟨x0.Id, (laws_toIntS_m x0.Values)⟩ : DRow) from by unfold laws_toRow_m; exact rfl)] | rfl
 ·rw [(show laws_toRow_m x0 = (⟨x0.Id, (laws_toIntS_m x0.Values)⟩ : DRow) from by unfold laws_toRow_m; exact rfl)]; exact Mem.join (is := [I3]) (js := []) (fun _ _ hs => tyRow_join (x := (⟨x0.Id, (laws_toIntS_m x0.Values)⟩ : DRow)) hs) (hm.pick [2] (by decide))

def laws_toRowS_b1 (x0 : (List DRow)) (k9 : Nat) (d10 : (List DRow)) : (List DRow) ⊕ ((List DRow)) :=
 Sum.inr (d10.set k9 (laws_toRow_m (gt x0 k9)))
def laws_toRowS_m (x0 : (List DRow)) : (List DRow) :=
 Sum.elim id (fun (s : (List DRow)) => s) (rng (R := (List DRow)) (fun k (s : (List DRow)) => laws_toRowS_b1 x0 k s) (x0.length - 0) 0 (List.replicate x0.length (⟨(0 : Int), []⟩ : DRow)))
theorem cb73 : Cb Tryz.prog 73 := ⟨f73, _, func73, rfl, by decide⟩
theorem laws_toRowS_c (w : World) (z0 : Value) (x0 : (List DRow)) (r_0 : rdS tyLRow w w.heap.size z0 x0) (s_0 : (x0.length ≤ 68719476736 ∧ ∀ y ∈ x0, smRow 68719476736 y)) :
  Calls Tryz.prog 73 #[z0] w fun e w' => ∃ v : Value, e = .returned (v) ∧ Mem w.heap.size w [iOwn (tSl tyRow 138) [v] (laws_toRowS_m x0)] w' := by
 have r5 := r_0
 obtain ⟨m1, A2, c3, rfl, q4⟩ := r_0
 have l6 : x0.length ≤ 68719476736 := s_0.1
 refine ce1 (L := [(0, .slice A2 x0.length c3)]) (N := 23) func73 ?_
 refine sr (wa (nt' (sr (wm ?_))))
 refine wv (vlen underlying76) ?_
 refine WM_make (E := tyRow) (n := x0.length) (x0 := (⟨(0 : Int), []⟩ : DRow)) underlying91 type138 rfl rfl rfl (fun _ => ⟨[], [], _, _, rfl, rfl, tInt_own, own_nil⟩) rfl rfl (show x0.length * 32 ≤ 281474976710656 from by omega) (by omega) (Wd_none rfl) (by decide) (fun p7 => ?_)
 refine wa (nt' (CM_seq (sr (wa (nt' (CM_block ?_))))))
 let F1 := fun k (s : (List DRow)) => laws_toRowS_b1 x0 k s
 let R2 := rng (R := (List DRow)) F1
 refine CM_loop (σ := Nat × ((List DRow)) × (Unit)) (fun s => [(0, .slice A2 x0.length c3), (3, .slice (some ⟨p7, 0, none⟩) x0.length x0.length), (4, .int .i64 ((s.1 : Nat) : Int))]) (fun s => [iOwn (tSl tyRow 138) [.slice (some ⟨p7, 0, none⟩) x0.length x0.length] s.2.1]) (fun s => s.1 ≤ x0.length ∧ R2 (x0.length - s.1) s.1 s.2.1 = R2 (x0.length - 0) 0 (List.replicate x0.length (⟨(0 : Int), []⟩ : DRow))) (fun s => x0.length - s.1) (0, (List.replicate x0.length (⟨(0 : Int), []⟩ : DRow)), ()) sl3 (fun W hm => hm) ⟨(by omega), rfl⟩ ?_
 rintro ⟨k9, d10, ⟨⟩⟩ H13
 obtain ⟨hk11, hF12⟩ : k9 ≤ x0.length ∧ R2 (x0.length - k9) k9 d10 = R2 (x0.length - 0) 0 (List.replicate x0.length (⟨(0 : Int), []⟩ : DRow)) := H13
 show CM Tryz.prog 23 _ _ _ _ [(0, .slice A2 x0.length c3), (3, .slice (some ⟨p7, 0, none⟩) x0.length x0.length), (4, .int .i64 ((k9 : Nat) : Int))] [iOwn (tSl tyRow 138) [.slice (some ⟨p7, 0, none⟩) x0.length x0.length] d10]
 refine CM_seq (sr (wm (wm ?_)))
 refine wv (vlen underlying76) ?_
 refine wv vlss ?_
 refine nt' ?_
 by_cases hl14 : k9 < x0.length
 ·have g15 : (decide (((k9 : Nat) : Int) < ((x0.length : Nat) : Int))) = true := decide_eq_true (by omega)
  refine CM_condT rfl g15 ?_
  refine CM_skip (QM_then (CM_seq (CM_block (CM_region (wm (wm (wm (wm ?_))))))))
  obtain ⟨a16, rfl, hb17, he18⟩ := q4 (by omega)
  refine wv (vix 2 k9 underlying76 type136) ?_
  obtain ⟨_, e22, hc19⟩ := he18 k9 _ (gt_some (show k9 < x0.length from by omega))
  obtain ⟨v20, rfl, r21⟩ := tyLRow_rd e22
  have l23 : ((gt x0 k9).Values).length ≤ 68719476736 := (s_0.2 _ (gt_mem (show k9 < x0.length from by omega)))
  have r28 := r21
  obtain ⟨m24, A25, c26, rfl, q27⟩ := r21
  refine wv (fun W hm => rv_loadN (cs := [.int .i64 ((gt x0 k9).Id), .slice A25 ((gt x0 k9).Values).length c26]) underlying136 type136 rfl rfl (hm.elCells (show (a16.add (k9 * 2)).block < w.heap.size from by rw [add_block]; exact hb17.1) hc19)) ?_
  refine wcs tyRow (laws_toRow_m (gt x0 k9)) (cl_fn cb100 rfl) (fun W hm => laws_toRow_c W _ (gt x0 k9) (tyLRow_mk (x := (gt x0 k9)) (hm.rdS0 r28)) (s_0.2 _ (gt_mem (show k9 < x0.length from by omega)))) (fun z29 => ?_)
  refine tyRow_sp ?_
  rintro v30 rfl
  refine WM_form (n := 0) rfl ?_
  rintro A31 c32 rfl m33
  refine wv (vix 2 k9 underlying91 type138) ?_
  refine WM_setEl (E := tyRow) (e := 138) (u := .agg #[.int .i64 ((laws_toRow_m (gt x0 k9)).Id), .slice A31 ((laws_toRow_m (gt x0 k9)).Values).length c32]) (k := k9) (p := p7) (n := x0.length) (xs := d10) (eis := [iOwn (tSl tInt 3) [.slice A31 ((laws_toRow_m (gt x0 k9)).Values).length c32] ((laws_toRow_m (gt x0 k9)).Values)]) (js := []) (yv := (laws_toRow_m (gt x0 k9))) (pk [1, 0]) (fun _ _ hs => (tyRow_join (x := (laws_toRow_m (gt x0 k9))) hs)) rfl type138 rfl (by omega) rfl rfl (Wd_none rfl) ?_
  refine WM_nil (QM_block_normal (QM_then (CM_region (wm ?_))))
  refine wv (vadN k9 1 (by omega)) ?_
  refine wa (WM_nil ?_)
  have hn35 := rng_next (R := (List DRow)) (body := F1) (k := k9) (s := d10) (s' := (d10.set k9 (laws_toRow_m (gt x0 k9)))) (show k9 < x0.length from by omega) (show laws_toRowS_b1 x0 k9 d10 = Sum.inr (d10.set k9 (laws_toRow_m (gt x0 k9))) from by unfold laws_toRowS_b1; exact rfl) hF12
  exact QM_round (k9 + 1, (d10.set k9 (laws_toRow_m (gt x0 k9))), ()) sl3 (fun W hm => hm) ⟨(by omega), hn35⟩ (rl (by omega))
 ·have g15 : (decide (((k9 : Nat) : Int) < ((x0.length : Nat) : Int))) = false := decide_eq_false (by omega)
  refine CM_condF rfl g15 ?_
  refine CM_exit (QM_then_exit (QM_then_exit ?_))
  have hE36 : R2 (x0.length - 0) 0 (List.replicate x0.length (⟨(0 : Int), []⟩ : DRow)) = Sum.inr d10 := rng_end hl14 hF12
  refine QM_block_hit (QM_then (sr (wm (wa (nt' (CM_ret ?_))))))
  refine QM_r1 rfl (RR_tmp rfl) (fun W hm => ⟨.slice (some ⟨p7, 0, none⟩) x0.length x0.length, ?_, ?_⟩)
  ·first | rw [(show laws_toRowS_m x0 = d10 from by unfold laws_toRowS_m; exact fin_inr hE36 (rfl))] | rfl
  ·rw [(show laws_toRowS_m x0 = d10 from by unfold laws_toRowS_m; exact fin_inr hE36 (rfl))]; exact hm

def laws_toActive_m (x0 : DActive) : DActive :=
 (⟨(laws_toQuery_m x0.Query), x0.Time, (laws_toIntS_m x0.Todo), x0.Age, x0.Sent, x0.Cap, (laws_toRowS_m x0.Rows)⟩ : DActive)
theorem cb45 : Cb Tryz.prog 45 := ⟨f45, _, func45, rfl, by decide⟩
theorem laws_toActive_c (w : World) (z0 : List Value) (x0 : DActive) (r_0 : tyLActive.rd w w.heap.size z0 x0) (s_0 : smActive 68719476736 x0) :
  Calls Tryz.prog 45 #[.agg z0.toArray] w fun e w' => ∃ v : List Value, e = .returned (.agg v.toArray) ∧ Mem w.heap.size w [iOwn tyActive v (laws_toActive_m x0)] w' := by
 obtain ⟨v1, v3, v5, v7, rfl, r2, r4, r6, r8⟩ := tyLActive_rd r_0
 have r13 := r2
 obtain ⟨m9, A10, c11, rfl, q12⟩ := r2
 have r18 := r4
 obtain ⟨m14, A15, c16, rfl, q17⟩ := r4
 have r23 := r6
 obtain ⟨m19, A20, c21, rfl, q22⟩ := r6
 have r28 := r8
 obtain ⟨m24, A25, c26, rfl, q27⟩ := r8
 have l29 : x0.Query.Conds.length ≤ 68719476736 := s_0.1.1
 have l30 : x0.Query.Out.length ≤ 68719476736 := s_0.1.2
 have l31 : x0.Todo.length ≤ 68719476736 := s_0.2.1
 have l32 : x0.Rows.length ≤ 68719476736 := s_0.2.2.1
 refine ce1 (L := [(0, .agg #[.int .i64 x0.Query.Id, .int .i64 x0.Query.Tenant, .slice A10 x0.Query.Conds.length c11, .slice A15 x0.Query.Out.length c16, .int .i64 x0.Time, .slice A20 x0.Todo.length c21, .int .i64 x0.Age, .int .i64 x0.Sent, .int .i64 x0.Cap, .slice A25 x0.Rows.length c26])]) (N := 29) func45 ?_
 refine sr ?_
 refine WM_box rfl (Wd_none rfl) (by decide) (fun p33 => ?_)
 refine WM_alloc type93 rfl (Wd_none rfl) (by decide) (fun p34 => ?_)
 refine nt' (sr ?_)
 refine WM_alloc type93 rfl (Wd_none rfl) (by decide) (fun p35 => ?_)
 refine nt' (sr ?_)
 refine wv (vf underlying78 rfl type33) ?_
 refine wv (fun W hm => rv_loadN (cs := [.int .i64 x0.Query.Id, .int .i64 x0.Query.Tenant, .slice A10 x0.Query.Conds.length c11, .slice A15 x0.Query.Out.length c16]) underlying33 type33 rfl rfl (hm.boxPart (n := 2) rfl rfl)) ?_
 refine wcs tyQuery (laws_toQuery_m x0.Query) (cl_fn cb8 rfl) (fun W hm => laws_toQuery_c W _ x0.Query (tyLQuery_mk (x := x0.Query) (hm.rdS0 r13) (hm.rdS0 r18)) s_0.1) (fun z36 => ?_)
 refine tyQuery_sp ?_
 rintro ⟨v37, v38⟩ rfl
 refine WM_form (n := 0) rfl ?_
 rintro A39 c40 rfl m41
 refine WM_form (n := 1) rfl ?_
 rintro A43 c44 rfl m45
 refine wv (vf underlying93 rfl type48) ?_
 let K1 : List Value := [.int .i64 0, .int .i64 0, .slice none 0 0, .slice none 0 0, .int .i64 0, .slice none 0 0, .int .i64 0, .int .i64 0, .int .i64 0, .slice none 0 0]
 let K2 : List Value := [.int .i64 x0.Query.Id, .int .i64 x0.Query.Tenant, .slice A10 x0.Query.Conds.length c11, .slice A15 x0.Query.Out.length c16, .int .i64 x0.Time, .slice A20 x0.Todo.length c21, .int .i64 x0.Age, .int .i64 x0.Sent, .int .i64 x0.Cap, .slice A25 x0.Rows.length c26]
 let I4 : It := iOwn (tSl tyCond 102) [.slice A39 ((laws_toQuery_m x0.Query).Conds).length c40] ((laws_toQuery_m x0.Query).Conds)
 let I5 : It := iOwn (tSl tInt 3) [.slice A43 ((laws_toQuery_m x0.Query).Out).length c44] ((laws_toQuery_m x0.Query).Out)
 refine sb 0 [.int .i64 ((laws_toQuery_m x0.Query).Id), .int .i64 ((laws_toQuery_m x0.Query).Tenant), .slice A39 ((laws_toQuery_m x0.Query).Conds).length c40, .slice A43 ((laws_toQuery_m x0.Query).Out).length c44, .int .i64 0, .slice none 0 0, .int .i64 0, .int .i64 0, .int .i64 0, .slice none 0 0] [I4, I5, iBox p34 93 K1, iBox p33 78 K2] (pk [2, 0, 1, 3, 4]) type48 ?_
 refine nt' (sr ?_)
 refine wv (vf underlying78 rfl type3) ?_
 refine wv (vl 4 4 underlying3) ?_
 refine wv (vf underlying93 rfl type3) ?_
 refine sb 4 [.int .i64 ((laws_toQuery_m x0.Query).Id), .int .i64 ((laws_toQuery_m x0.Query).Tenant), .slice A39 ((laws_toQuery_m x0.Query).Conds).length c40, .slice A43 ((laws_toQuery_m x0.Query).Out).length c44, .int .i64 x0.Time, .slice none 0 0, .int .i64 0, .int .i64 0, .int .i64 0, .slice none 0 0] [I4, I5, iBox p34 93 K1, iBox p33 78 K2] (fun W hm => hm) type3 ?_
 refine nt' (sr ?_)
 refine wv (vf underlying78 rfl type25) ?_
 refine wv (vl 4 5 underlying25) ?_
 refine wcl (tSl tInt 3) (laws_toIntS_m x0.Todo) (cl_fn cb21 rfl) (fun W hm => laws_toIntS_c W _ x0.Todo (hm.rdS0 r23) s_0.2.1) (fun z47 => ?_)
 refine WM_form (n := 0) rfl ?_
 rintro A48 c49 rfl m50
 refine wv (vf underlying93 rfl type25) ?_
 let I6 : It := iOwn (tSl tInt 3) [.slice A48 (laws_toIntS_m x0.Todo).length c49] (laws_toIntS_m x0.Todo)
 refine sb 5 [.int .i64 ((laws_toQuery_m x0.Query).Id), .int .i64 ((laws_toQuery_m x0.Query).Tenant), .slice A39 ((laws_toQuery_m x0.Query).Conds).length c40, .slice A43 ((laws_toQuery_m x0.Query).Out).length c44, .int .i64 x0.Time, .slice A48 (laws_toIntS_m x0.Todo).length c49, .int .i64 0, .int .i64 0, .int .i64 0, .slice none 0 0] [I6, I4, I5, iBox p34 93 K1, iBox p33 78 K2] (pk [1, 0, 2, 3, 4, 5]) type25 ?_
 refine nt' (sr ?_)
 refine wv (vf underlying78 rfl type3) ?_
 refine wv (vl 5 6 underlying3) ?_
 refine wv (vf underlying93 rfl type3) ?_
 refine sb 6 [.int .i64 ((laws_toQuery_m x0.Query).Id), .int .i64 ((laws_toQuery_m x0.Query).Tenant), .slice A39 ((laws_toQuery_m x0.Query).Conds).length c40, .slice A43 ((laws_toQuery_m x0.Query).Out).length c44, .int .i64 x0.Time, .slice A48 (laws_toIntS_m x0.Todo).length c49, .int .i64 x0.Age, .int .i64 0, .int .i64 0, .slice none 0 0] [I6, I4, I5, iBox p34 93 K1, iBox p33 78 K2] (fun W hm => hm) type3 ?_
 refine nt' (sr ?_)
 refine wv (vf underlying78 rfl type3) ?_
 refine wv (vl 5 7 underlying3) ?_
 refine wv (vf underlying93 rfl type3) ?_
 refine sb 7 [.int .i64 ((laws_toQuery_m x0.Query).Id), .int .i64 ((laws_toQuery_m x0.Query).Tenant), .slice A39 ((laws_toQuery_m x0.Query).Conds).length c40, .slice A43 ((laws_toQuery_m x0.Query).Out).length c44, .int .i64 x0.Time, .slice A48 (laws_toIntS_m x0.Todo).length c49, .int .i64 x0.Age, .int .i64 x0.Sent, .int .i64 0, .slice none 0 0] [I6, I4, I5, iBox p34 93 K1, iBox p33 78 K2] (fun W hm => hm) type3 ?_
 refine nt' (sr ?_)
 refine wv (vf underlying78 rfl type3) ?_
 refine wv (vl 5 8 underlying3) ?_
 refine wv (vf underlying93 rfl type3) ?_
 refine sb 8 [.int .i64 ((laws_toQuery_m x0.Query).Id), .int .i64 ((laws_toQuery_m x0.Query).Tenant), .slice A39 ((laws_toQuery_m x0.Query).Conds).length c40, .slice A43 ((laws_toQuery_m x0.Query).Out).length c44, .int .i64 x0.Time, .slice A48 (laws_toIntS_m x0.Todo).length c49, .int .i64 x0.Age, .int .i64 x0.Sent, .int .i64 x0.Cap, .slice none 0 0] [I6, I4, I5, iBox p34 93 K1, iBox p33 78 K2] (fun W hm => hm) type3 ?_
 refine nt' (sr ?_)
 refine wv (vf underlying78 rfl type76) ?_
 refine wv (vl 5 9 underlying76) ?_
 refine wcl (tSl tyRow 138) (laws_toRowS_m x0.Rows) (cl_fn cb73 rfl) (fun W hm => laws_toRowS_c W _ x0.Rows (hm.rdS0 r28) s_0.2.2) (fun z52 => ?_)
 refine WM_form (n := 0) rfl ?_
 rintro A53 c54 rfl m55
 refine wv (vf underlying93 rfl type91) ?_
 let K3 : List Value := [.int .i64 ((laws_toQuery_m x0.Query).Id), .int .i64 ((laws_toQuery_m x0.Query).Tenant), .slice A39 ((laws_toQuery_m x0.Query).Conds).length c40, .slice A43 ((laws_toQuery_m x0.Query).Out).length c44, .int .i64 x0.Time, .slice A48 (laws_toIntS_m x0.Todo).length c49, .int .i64 x0.Age, .int .i64 x0.Sent, .int .i64 x0.Cap, .slice A53 (laws_toRowS_m x0.Rows).length c54]
 let I7 : It := iOwn (tSl tyRow 138) [.slice A53 (laws_toRowS_m x0.Rows).length c54] (laws_toRowS_m x0.Rows)
 refine sb 9 K3 [I7, I6, I4, I5, iBox p34 93 K1, iBox p33 78 K2] (pk [1, 0, 2, 3, 4, 5, 6]) type91 ?_
 refine nt' (sr ?_)
 refine wv (fun W hm => rv_loadN (cs := K3) underlying93 type93 rfl rfl (hm.boxCells (n := 0) rfl)) ?_
 refine sb 0 K3 [iBox p35 93 K3, I7, I6, I4, I5, iBox p33 78 K2] (pk [5, 0, 1, 2, 3, 4, 6]) type93 ?_
 refine nt' (CM_ret ?_)
 refine QM_r1 rfl (RR_cell (n := 0) rfl rfl underlying93 type93 rfl) (fun W hm => ⟨K3, ?_, ?_⟩)
 ·first | rw [(show laws_toActive_m x0 = (⟨(laws_toQuery_m x0.Query), x0.Time, (laws_toIntS_m x0.Todo), x0.Age, x0.Sent, x0.Cap, (laws_toRowS_m x0.Rows)⟩ : DActive) from by unfold laws_toActive_m; exact rfl)] | rfl
 ·rw [(show laws_toActive_m x0 = (⟨(laws_toQuery_m x0.Query), x0.Time, (laws_toIntS_m x0.Todo), x0.Age, x0.Sent, x0.Cap, (laws_toRowS_m x0.Rows)⟩ : DActive) from by unfold laws_toActive_m; exact rfl)]; exact Mem.join (is := [I4, I5, I6, I7]) (js := []) (fun _ _ hs => tyActive_join (x := (⟨(laws_toQuery_m x0.Query), x0.Time, (laws_toIntS_m x0.Todo), x0.Age, x0.Sent, x0.Cap, (laws_toRowS_m x0.Rows)⟩ : DActive)) hs) (hm.pick [4, 5, 3, 2] (by decide))

def laws_toActiveS_b1 (x0 : (List DActive)) (k9 : Nat) (d10 : (List DActive)) : (List DActive) ⊕ ((List DActive)) :=
 Sum.inr (d10.set k9 (laws_toActive_m (gt x0 k9)))
def laws_toActiveS_m (x0 : (List DActive)) : (List DActive) :=
 Sum.elim id (fun (s : (List DActive)) => s) (rng (R := (List DActive)) (fun k (s : (List DActive)) => laws_toActiveS_b1 x0 k s) (x0.length - 0) 0 (List.replicate x0.length (⟨(⟨(0 : Int), (0 : Int), [], []⟩ : DQuery), (0 : Int), [], (0 : Int), (0 : Int), (0 : Int), []⟩ : DActive)))
theorem cb22 : Cb Tryz.prog 22 := ⟨f22, _, func22, rfl, by decide⟩
theorem laws_toActiveS_c (w : World) (z0 : Value) (x0 : (List DActive)) (r_0 : rdS tyLActive w w.heap.size z0 x0) (s_0 : (x0.length ≤ 68719476736 ∧ ∀ y ∈ x0, smActive 68719476736 y)) :
  Calls Tryz.prog 22 #[z0] w fun e w' => ∃ v : Value, e = .returned (v) ∧ Mem w.heap.size w [iOwn (tSl tyActive 93) [v] (laws_toActiveS_m x0)] w' := by
 have r5 := r_0
 obtain ⟨m1, A2, c3, rfl, q4⟩ := r_0
 have l6 : x0.length ≤ 68719476736 := s_0.1
 refine ce1 (L := [(0, .slice A2 x0.length c3)]) (N := 23) func22 ?_
 refine sr (wa (nt' (sr (wm ?_))))
 refine wv (vlen underlying26) ?_
 refine WM_make (E := tyActive) (n := x0.length) (x0 := (⟨(⟨(0 : Int), (0 : Int), [], []⟩ : DQuery), (0 : Int), [], (0 : Int), (0 : Int), (0 : Int), []⟩ : DActive)) underlying40 type93 rfl rfl rfl (fun _ => ⟨[], [], _, _, rfl, rfl, ⟨[], [], _, _, rfl, rfl, tInt_own, ⟨[], [], _, _, rfl, rfl, tInt_own, ⟨[], [], _, _, rfl, rfl, own_nil, own_nil⟩⟩⟩, ⟨[], [], _, _, rfl, rfl, tInt_own, ⟨[], [], _, _, rfl, rfl, own_nil, ⟨[], [], _, _, rfl, rfl, tInt_own, ⟨[], [], _, _, rfl, rfl, tInt_own, ⟨[], [], _, _, rfl, rfl, tInt_own, own_nil⟩⟩⟩⟩⟩⟩) rfl rfl (show x0.length * 144 ≤ 281474976710656 from by omega) (by omega) (Wd_none rfl) (by decide) (fun p7 => ?_)
 refine wa (nt' (CM_seq (sr (wa (nt' (CM_block ?_))))))
 let F1 := fun k (s : (List DActive)) => laws_toActiveS_b1 x0 k s
 let R2 := rng (R := (List DActive)) F1
 refine CM_loop (σ := Nat × ((List DActive)) × (Unit)) (fun s => [(0, .slice A2 x0.length c3), (3, .slice (some ⟨p7, 0, none⟩) x0.length x0.length), (4, .int .i64 ((s.1 : Nat) : Int))]) (fun s => [iOwn (tSl tyActive 93) [.slice (some ⟨p7, 0, none⟩) x0.length x0.length] s.2.1]) (fun s => s.1 ≤ x0.length ∧ R2 (x0.length - s.1) s.1 s.2.1 = R2 (x0.length - 0) 0 (List.replicate x0.length (⟨(⟨(0 : Int), (0 : Int), [], []⟩ : DQuery), (0 : Int), [], (0 : Int), (0 : Int), (0 : Int), []⟩ : DActive))) (fun s => x0.length - s.1) (0, (List.replicate x0.length (⟨(⟨(0 : Int), (0 : Int), [], []⟩ : DQuery), (0 : Int), [], (0 : Int), (0 : Int), (0 : Int), []⟩ : DActive)), ()) sl3 (fun W hm => hm) ⟨(by omega), rfl⟩ ?_
 rintro ⟨k9, d10, ⟨⟩⟩ H13
 obtain ⟨hk11, hF12⟩ : k9 ≤ x0.length ∧ R2 (x0.length - k9) k9 d10 = R2 (x0.length - 0) 0 (List.replicate x0.length (⟨(⟨(0 : Int), (0 : Int), [], []⟩ : DQuery), (0 : Int), [], (0 : Int), (0 : Int), (0 : Int), []⟩ : DActive)) := H13
 show CM Tryz.prog 23 _ _ _ _ [(0, .slice A2 x0.length c3), (3, .slice (some ⟨p7, 0, none⟩) x0.length x0.length), (4, .int .i64 ((k9 : Nat) : Int))] [iOwn (tSl tyActive 93) [.slice (some ⟨p7, 0, none⟩) x0.length x0.length] d10]
 refine CM_seq (sr (wm (wm ?_)))
 refine wv (vlen underlying26) ?_
 refine wv vlss ?_
 refine nt' ?_
 by_cases hl14 : k9 < x0.length
 ·have g15 : (decide (((k9 : Nat) : Int) < ((x0.length : Nat) : Int))) = true := decide_eq_true (by omega)
  refine CM_condT rfl g15 ?_
  refine CM_skip (QM_then (CM_seq (CM_block (CM_region (wm (wm (wm (wm ?_))))))))
  obtain ⟨a16, rfl, hb17, he18⟩ := q4 (by omega)
  refine wv (vix 10 k9 underlying26 type78) ?_
  obtain ⟨_, e28, hc19⟩ := he18 k9 _ (gt_some (show k9 < x0.length from by omega))
  obtain ⟨v20, v22, v24, v26, rfl, r21, r23, r25, r27⟩ := tyLActive_rd e28
  have l29 : ((gt x0 k9).Query.Conds).length ≤ 68719476736 := (s_0.2 _ (gt_mem (show k9 < x0.length from by omega))).1.1
  have l30 : ((gt x0 k9).Query.Out).length ≤ 68719476736 := (s_0.2 _ (gt_mem (show k9 < x0.length from by omega))).1.2
  have l31 : ((gt x0 k9).Todo).length ≤ 68719476736 := (s_0.2 _ (gt_mem (show k9 < x0.length from by omega))).2.1
  have l32 : ((gt x0 k9).Rows).length ≤ 68719476736 := (s_0.2 _ (gt_mem (show k9 < x0.length from by omega))).2.2.1
  have r37 := r21
  obtain ⟨m33, A34, c35, rfl, q36⟩ := r21
  have r42 := r23
  obtain ⟨m38, A39, c40, rfl, q41⟩ := r23
  have r47 := r25
  obtain ⟨m43, A44, c45, rfl, q46⟩ := r25
  have r52 := r27
  obtain ⟨m48, A49, c50, rfl, q51⟩ := r27
  refine wv (fun W hm => rv_loadN (cs := [.int .i64 ((gt x0 k9).Query.Id), .int .i64 ((gt x0 k9).Query.Tenant), .slice A34 ((gt x0 k9).Query.Conds).length c35, .slice A39 ((gt x0 k9).Query.Out).length c40, .int .i64 ((gt x0 k9).Time), .slice A44 ((gt x0 k9).Todo).length c45, .int .i64 ((gt x0 k9).Age), .int .i64 ((gt x0 k9).Sent), .int .i64 ((gt x0 k9).Cap), .slice A49 ((gt x0 k9).Rows).length c50]) underlying78 type78 rfl rfl (hm.elCells (show (a16.add (k9 * 10)).block < w.heap.size from by rw [add_block]; exact hb17.1) hc19)) ?_
  refine wcs tyActive (laws_toActive_m (gt x0 k9)) (cl_fn cb45 rfl) (fun W hm => laws_toActive_c W _ (gt x0 k9) (tyLActive_mk (x := (gt x0 k9)) (hm.rdS0 r37) (hm.rdS0 r42) (hm.rdS0 r47) (hm.rdS0 r52)) (s_0.2 _ (gt_mem (show k9 < x0.length from by omega)))) (fun z53 => ?_)
  refine tyActive_sp ?_
  rintro ⟨v54, v55, v56, v57⟩ rfl
  refine WM_form (n := 0) rfl ?_
  rintro A58 c59 rfl m60
  refine WM_form (n := 1) rfl ?_
  rintro A62 c63 rfl m64
  refine WM_form (n := 2) rfl ?_
  rintro A66 c67 rfl m68
  refine WM_form (n := 3) rfl ?_
  rintro A70 c71 rfl m72
  refine wv (vix 10 k9 underlying40 type93) ?_
  refine WM_setEl (E := tyActive) (e := 93) (u := .agg #[.int .i64 ((laws_toActive_m (gt x0 k9)).Query.Id), .int .i64 ((laws_toActive_m (gt x0 k9)).Query.Tenant), .slice A58 ((laws_toActive_m (gt x0 k9)).Query.Conds).length c59, .slice A62 ((laws_toActive_m (gt x0 k9)).Query.Out).length c63, .int .i64 ((laws_toActive_m (gt x0 k9)).Time), .slice A66 ((laws_toActive_m (gt x0 k9)).Todo).length c67, .int .i64 ((laws_toActive_m (gt x0 k9)).Age), .int .i64 ((laws_toActive_m (gt x0 k9)).Sent), .int .i64 ((laws_toActive_m (gt x0 k9)).Cap), .slice A70 ((laws_toActive_m (gt x0 k9)).Rows).length c71]) (k := k9) (p := p7) (n := x0.length) (xs := d10) (eis := [iOwn (tSl tyCond 102) [.slice A58 ((laws_toActive_m (gt x0 k9)).Query.Conds).length c59] ((laws_toActive_m (gt x0 k9)).Query.Conds), iOwn (tSl tInt 3) [.slice A62 ((laws_toActive_m (gt x0 k9)).Query.Out).length c63] ((laws_toActive_m (gt x0 k9)).Query.Out), iOwn (tSl tInt 3) [.slice A66 ((laws_toActive_m (gt x0 k9)).Todo).length c67] ((laws_toActive_m (gt x0 k9)).Todo), iOwn (tSl tyRow 138) [.slice A70 ((laws_toActive_m (gt x0 k9)).Rows).length c71] ((laws_toActive_m (gt x0 k9)).Rows)]) (js := []) (yv := (laws_toActive_m (gt x0 k9))) (pk [4, 0, 1, 2, 3]) (fun _ _ hs => (tyActive_join (x := (laws_toActive_m (gt x0 k9))) hs)) rfl type93 rfl (by omega) rfl rfl (Wd_none rfl) ?_
  refine WM_nil (QM_block_normal (QM_then (CM_region (wm ?_))))
  refine wv (vadN k9 1 (by omega)) ?_
  refine wa (WM_nil ?_)
  have hn74 := rng_next (R := (List DActive)) (body := F1) (k := k9) (s := d10) (s' := (d10.set k9 (laws_toActive_m (gt x0 k9)))) (show k9 < x0.length from by omega) (show laws_toActiveS_b1 x0 k9 d10 = Sum.inr (d10.set k9 (laws_toActive_m (gt x0 k9))) from by unfold laws_toActiveS_b1; exact rfl) hF12
  exact QM_round (k9 + 1, (d10.set k9 (laws_toActive_m (gt x0 k9))), ()) sl3 (fun W hm => hm) ⟨(by omega), hn74⟩ (rl (by omega))
 ·have g15 : (decide (((k9 : Nat) : Int) < ((x0.length : Nat) : Int))) = false := decide_eq_false (by omega)
  refine CM_condF rfl g15 ?_
  refine CM_exit (QM_then_exit (QM_then_exit ?_))
  have hE75 : R2 (x0.length - 0) 0 (List.replicate x0.length (⟨(⟨(0 : Int), (0 : Int), [], []⟩ : DQuery), (0 : Int), [], (0 : Int), (0 : Int), (0 : Int), []⟩ : DActive)) = Sum.inr d10 := rng_end hl14 hF12
  refine QM_block_hit (QM_then (sr (wm (wa (nt' (CM_ret ?_))))))
  refine QM_r1 rfl (RR_tmp rfl) (fun W hm => ⟨.slice (some ⟨p7, 0, none⟩) x0.length x0.length, ?_, ?_⟩)
  ·first | rw [(show laws_toActiveS_m x0 = d10 from by unfold laws_toActiveS_m; exact fin_inr hE75 (rfl))] | rfl
  ·rw [(show laws_toActiveS_m x0 = d10 from by unfold laws_toActiveS_m; exact fin_inr hE75 (rfl))]; exact hm

def laws_toFinished_m (x0 : DFinished) : DFinished :=
 (⟨(laws_toQuery_m x0.Query), x0.Time, x0.Steps, (laws_toRowS_m x0.Rows)⟩ : DFinished)
theorem cb46 : Cb Tryz.prog 46 := ⟨f46, _, func46, rfl, by decide⟩
theorem laws_toFinished_c (w : World) (z0 : List Value) (x0 : DFinished) (r_0 : tyLFinished.rd w w.heap.size z0 x0) (s_0 : smFinished 68719476736 x0) :
  Calls Tryz.prog 46 #[.agg z0.toArray] w fun e w' => ∃ v : List Value, e = .returned (.agg v.toArray) ∧ Mem w.heap.size w [iOwn tyFinished v (laws_toFinished_m x0)] w' := by
 obtain ⟨v1, v3, v5, rfl, r2, r4, r6⟩ := tyLFinished_rd r_0
 have r11 := r2
 obtain ⟨m7, A8, c9, rfl, q10⟩ := r2
 have r16 := r4
 obtain ⟨m12, A13, c14, rfl, q15⟩ := r4
 have r21 := r6
 obtain ⟨m17, A18, c19, rfl, q20⟩ := r6
 have l22 : x0.Query.Conds.length ≤ 68719476736 := s_0.1.1
 have l23 : x0.Query.Out.length ≤ 68719476736 := s_0.1.2
 have l24 : x0.Rows.length ≤ 68719476736 := s_0.2.1
 refine ce1 (L := [(0, .agg #[.int .i64 x0.Query.Id, .int .i64 x0.Query.Tenant, .slice A8 x0.Query.Conds.length c9, .slice A13 x0.Query.Out.length c14, .int .i64 x0.Time, .int .i64 x0.Steps, .slice A18 x0.Rows.length c19])]) (N := 19) func46 ?_
 refine sr ?_
 refine WM_box rfl (Wd_none rfl) (by decide) (fun p25 => ?_)
 refine WM_alloc type97 rfl (Wd_none rfl) (by decide) (fun p26 => ?_)
 refine nt' (sr ?_)
 refine WM_alloc type97 rfl (Wd_none rfl) (by decide) (fun p27 => ?_)
 refine nt' (sr ?_)
 refine wv (vf underlying81 rfl type33) ?_
 refine wv (fun W hm => rv_loadN (cs := [.int .i64 x0.Query.Id, .int .i64 x0.Query.Tenant, .slice A8 x0.Query.Conds.length c9, .slice A13 x0.Query.Out.length c14]) underlying33 type33 rfl rfl (hm.boxPart (n := 2) rfl rfl)) ?_
 refine wcs tyQuery (laws_toQuery_m x0.Query) (cl_fn cb8 rfl) (fun W hm => laws_toQuery_c W _ x0.Query (tyLQuery_mk (x := x0.Query) (hm.rdS0 r11) (hm.rdS0 r16)) s_0.1) (fun z28 => ?_)
 refine tyQuery_sp ?_
 rintro ⟨v29, v30⟩ rfl
 refine WM_form (n := 0) rfl ?_
 rintro A31 c32 rfl m33
 refine WM_form (n := 1) rfl ?_
 rintro A35 c36 rfl m37
 refine wv (vf underlying97 rfl type48) ?_
 let K1 : List Value := [.int .i64 0, .int .i64 0, .slice none 0 0, .slice none 0 0, .int .i64 0, .int .i64 0, .slice none 0 0]
 let K2 : List Value := [.int .i64 x0.Query.Id, .int .i64 x0.Query.Tenant, .slice A8 x0.Query.Conds.length c9, .slice A13 x0.Query.Out.length c14, .int .i64 x0.Time, .int .i64 x0.Steps, .slice A18 x0.Rows.length c19]
 let I4 : It := iOwn (tSl tyCond 102) [.slice A31 ((laws_toQuery_m x0.Query).Conds).length c32] ((laws_toQuery_m x0.Query).Conds)
 let I5 : It := iOwn (tSl tInt 3) [.slice A35 ((laws_toQuery_m x0.Query).Out).length c36] ((laws_toQuery_m x0.Query).Out)
 refine sb 0 [.int .i64 ((laws_toQuery_m x0.Query).Id), .int .i64 ((laws_toQuery_m x0.Query).Tenant), .slice A31 ((laws_toQuery_m x0.Query).Conds).length c32, .slice A35 ((laws_toQuery_m x0.Query).Out).length c36, .int .i64 0, .int .i64 0, .slice none 0 0] [I4, I5, iBox p26 97 K1, iBox p25 81 K2] (pk [2, 0, 1, 3, 4]) type48 ?_
 refine nt' (sr ?_)
 refine wv (vf underlying81 rfl type3) ?_
 refine wv (vl 4 4 underlying3) ?_
 refine wv (vf underlying97 rfl type3) ?_
 refine sb 4 [.int .i64 ((laws_toQuery_m x0.Query).Id), .int .i64 ((laws_toQuery_m x0.Query).Tenant), .slice A31 ((laws_toQuery_m x0.Query).Conds).length c32, .slice A35 ((laws_toQuery_m x0.Query).Out).length c36, .int .i64 x0.Time, .int .i64 0, .slice none 0 0] [I4, I5, iBox p26 97 K1, iBox p25 81 K2] (fun W hm => hm) type3 ?_
 refine nt' (sr ?_)
 refine wv (vf underlying81 rfl type3) ?_
 refine wv (vl 4 5 underlying3) ?_
 refine wv (vf underlying97 rfl type3) ?_
 refine sb 5 [.int .i64 ((laws_toQuery_m x0.Query).Id), .int .i64 ((laws_toQuery_m x0.Query).Tenant), .slice A31 ((laws_toQuery_m x0.Query).Conds).length c32, .slice A35 ((laws_toQuery_m x0.Query).Out).length c36, .int .i64 x0.Time, .int .i64 x0.Steps, .slice none 0 0] [I4, I5, iBox p26 97 K1, iBox p25 81 K2] (fun W hm => hm) type3 ?_
 refine nt' (sr ?_)
 refine wv (vf underlying81 rfl type76) ?_
 refine wv (vl 4 6 underlying76) ?_
 refine wcl (tSl tyRow 138) (laws_toRowS_m x0.Rows) (cl_fn cb73 rfl) (fun W hm => laws_toRowS_c W _ x0.Rows (hm.rdS0 r21) s_0.2) (fun z39 => ?_)
 refine WM_form (n := 0) rfl ?_
 rintro A40 c41 rfl m42
 refine wv (vf underlying97 rfl type91) ?_
 let K3 : List Value := [.int .i64 ((laws_toQuery_m x0.Query).Id), .int .i64 ((laws_toQuery_m x0.Query).Tenant), .slice A31 ((laws_toQuery_m x0.Query).Conds).length c32, .slice A35 ((laws_toQuery_m x0.Query).Out).length c36, .int .i64 x0.Time, .int .i64 x0.Steps, .slice A40 (laws_toRowS_m x0.Rows).length c41]
 let I6 : It := iOwn (tSl tyRow 138) [.slice A40 (laws_toRowS_m x0.Rows).length c41] (laws_toRowS_m x0.Rows)
 refine sb 6 K3 [I6, I4, I5, iBox p26 97 K1, iBox p25 81 K2] (pk [1, 0, 2, 3, 4, 5]) type91 ?_
 refine nt' (sr ?_)
 refine wv (fun W hm => rv_loadN (cs := K3) underlying97 type97 rfl rfl (hm.boxCells (n := 0) rfl)) ?_
 refine sb 0 K3 [iBox p27 97 K3, I6, I4, I5, iBox p25 81 K2] (pk [4, 0, 1, 2, 3, 5]) type97 ?_
 refine nt' (CM_ret ?_)
 refine QM_r1 rfl (RR_cell (n := 0) rfl rfl underlying97 type97 rfl) (fun W hm => ⟨K3, ?_, ?_⟩)
 ·first | rw [(show laws_toFinished_m x0 = (⟨(laws_toQuery_m x0.Query), x0.Time, x0.Steps, (laws_toRowS_m x0.Rows)⟩ : DFinished) from by unfold laws_toFinished_m; exact rfl)] | rfl
 ·rw [(show laws_toFinished_m x0 = (⟨(laws_toQuery_m x0.Query), x0.Time, x0.Steps, (laws_toRowS_m x0.Rows)⟩ : DFinished) from by unfold laws_toFinished_m; exact rfl)]; exact Mem.join (is := [I4, I5, I6]) (js := []) (fun _ _ hs => tyFinished_join (x := (⟨(laws_toQuery_m x0.Query), x0.Time, x0.Steps, (laws_toRowS_m x0.Rows)⟩ : DFinished)) hs) (hm.pick [3, 4, 2] (by decide))

def laws_toFinishedS_b1 (x0 : (List DFinished)) (k9 : Nat) (d10 : (List DFinished)) : (List DFinished) ⊕ ((List DFinished)) :=
 Sum.inr (d10.set k9 (laws_toFinished_m (gt x0 k9)))
def laws_toFinishedS_m (x0 : (List DFinished)) : (List DFinished) :=
 Sum.elim id (fun (s : (List DFinished)) => s) (rng (R := (List DFinished)) (fun k (s : (List DFinished)) => laws_toFinishedS_b1 x0 k s) (x0.length - 0) 0 (List.replicate x0.length (⟨(⟨(0 : Int), (0 : Int), [], []⟩ : DQuery), (0 : Int), (0 : Int), []⟩ : DFinished)))
theorem cb23 : Cb Tryz.prog 23 := ⟨f23, _, func23, rfl, by decide⟩
theorem laws_toFinishedS_c (w : World) (z0 : Value) (x0 : (List DFinished)) (r_0 : rdS tyLFinished w w.heap.size z0 x0) (s_0 : (x0.length ≤ 68719476736 ∧ ∀ y ∈ x0, smFinished 68719476736 y)) :
  Calls Tryz.prog 23 #[z0] w fun e w' => ∃ v : Value, e = .returned (v) ∧ Mem w.heap.size w [iOwn (tSl tyFinished 97) [v] (laws_toFinishedS_m x0)] w' := by
 have r5 := r_0
 obtain ⟨m1, A2, c3, rfl, q4⟩ := r_0
 have l6 : x0.length ≤ 68719476736 := s_0.1
 refine ce1 (L := [(0, .slice A2 x0.length c3)]) (N := 23) func23 ?_
 refine sr (wa (nt' (sr (wm ?_))))
 refine wv (vlen underlying27) ?_
 refine WM_make (E := tyFinished) (n := x0.length) (x0 := (⟨(⟨(0 : Int), (0 : Int), [], []⟩ : DQuery), (0 : Int), (0 : Int), []⟩ : DFinished)) underlying41 type97 rfl rfl rfl (fun _ => ⟨[], [], _, _, rfl, rfl, ⟨[], [], _, _, rfl, rfl, tInt_own, ⟨[], [], _, _, rfl, rfl, tInt_own, ⟨[], [], _, _, rfl, rfl, own_nil, own_nil⟩⟩⟩, ⟨[], [], _, _, rfl, rfl, tInt_own, ⟨[], [], _, _, rfl, rfl, tInt_own, own_nil⟩⟩⟩) rfl rfl (show x0.length * 104 ≤ 281474976710656 from by omega) (by omega) (Wd_none rfl) (by decide) (fun p7 => ?_)
 refine wa (nt' (CM_seq (sr (wa (nt' (CM_block ?_))))))
 let F1 := fun k (s : (List DFinished)) => laws_toFinishedS_b1 x0 k s
 let R2 := rng (R := (List DFinished)) F1
 refine CM_loop (σ := Nat × ((List DFinished)) × (Unit)) (fun s => [(0, .slice A2 x0.length c3), (3, .slice (some ⟨p7, 0, none⟩) x0.length x0.length), (4, .int .i64 ((s.1 : Nat) : Int))]) (fun s => [iOwn (tSl tyFinished 97) [.slice (some ⟨p7, 0, none⟩) x0.length x0.length] s.2.1]) (fun s => s.1 ≤ x0.length ∧ R2 (x0.length - s.1) s.1 s.2.1 = R2 (x0.length - 0) 0 (List.replicate x0.length (⟨(⟨(0 : Int), (0 : Int), [], []⟩ : DQuery), (0 : Int), (0 : Int), []⟩ : DFinished))) (fun s => x0.length - s.1) (0, (List.replicate x0.length (⟨(⟨(0 : Int), (0 : Int), [], []⟩ : DQuery), (0 : Int), (0 : Int), []⟩ : DFinished)), ()) sl3 (fun W hm => hm) ⟨(by omega), rfl⟩ ?_
 rintro ⟨k9, d10, ⟨⟩⟩ H13
 obtain ⟨hk11, hF12⟩ : k9 ≤ x0.length ∧ R2 (x0.length - k9) k9 d10 = R2 (x0.length - 0) 0 (List.replicate x0.length (⟨(⟨(0 : Int), (0 : Int), [], []⟩ : DQuery), (0 : Int), (0 : Int), []⟩ : DFinished)) := H13
 show CM Tryz.prog 23 _ _ _ _ [(0, .slice A2 x0.length c3), (3, .slice (some ⟨p7, 0, none⟩) x0.length x0.length), (4, .int .i64 ((k9 : Nat) : Int))] [iOwn (tSl tyFinished 97) [.slice (some ⟨p7, 0, none⟩) x0.length x0.length] d10]
 refine CM_seq (sr (wm (wm ?_)))
 refine wv (vlen underlying27) ?_
 refine wv vlss ?_
 refine nt' ?_
 by_cases hl14 : k9 < x0.length
 ·have g15 : (decide (((k9 : Nat) : Int) < ((x0.length : Nat) : Int))) = true := decide_eq_true (by omega)
  refine CM_condT rfl g15 ?_
  refine CM_skip (QM_then (CM_seq (CM_block (CM_region (wm (wm (wm (wm ?_))))))))
  obtain ⟨a16, rfl, hb17, he18⟩ := q4 (by omega)
  refine wv (vix 7 k9 underlying27 type81) ?_
  obtain ⟨_, e26, hc19⟩ := he18 k9 _ (gt_some (show k9 < x0.length from by omega))
  obtain ⟨v20, v22, v24, rfl, r21, r23, r25⟩ := tyLFinished_rd e26
  have l27 : ((gt x0 k9).Query.Conds).length ≤ 68719476736 := (s_0.2 _ (gt_mem (show k9 < x0.length from by omega))).1.1
  have l28 : ((gt x0 k9).Query.Out).length ≤ 68719476736 := (s_0.2 _ (gt_mem (show k9 < x0.length from by omega))).1.2
  have l29 : ((gt x0 k9).Rows).length ≤ 68719476736 := (s_0.2 _ (gt_mem (show k9 < x0.length from by omega))).2.1
  have r34 := r21
  obtain ⟨m30, A31, c32, rfl, q33⟩ := r21
  have r39 := r23
  obtain ⟨m35, A36, c37, rfl, q38⟩ := r23
  have r44 := r25
  obtain ⟨m40, A41, c42, rfl, q43⟩ := r25
  refine wv (fun W hm => rv_loadN (cs := [.int .i64 ((gt x0 k9).Query.Id), .int .i64 ((gt x0 k9).Query.Tenant), .slice A31 ((gt x0 k9).Query.Conds).length c32, .slice A36 ((gt x0 k9).Query.Out).length c37, .int .i64 ((gt x0 k9).Time), .int .i64 ((gt x0 k9).Steps), .slice A41 ((gt x0 k9).Rows).length c42]) underlying81 type81 rfl rfl (hm.elCells (show (a16.add (k9 * 7)).block < w.heap.size from by rw [add_block]; exact hb17.1) hc19)) ?_
  refine wcs tyFinished (laws_toFinished_m (gt x0 k9)) (cl_fn cb46 rfl) (fun W hm => laws_toFinished_c W _ (gt x0 k9) (tyLFinished_mk (x := (gt x0 k9)) (hm.rdS0 r34) (hm.rdS0 r39) (hm.rdS0 r44)) (s_0.2 _ (gt_mem (show k9 < x0.length from by omega)))) (fun z45 => ?_)
  refine tyFinished_sp ?_
  rintro ⟨v46, v47, v48⟩ rfl
  refine WM_form (n := 0) rfl ?_
  rintro A49 c50 rfl m51
  refine WM_form (n := 1) rfl ?_
  rintro A53 c54 rfl m55
  refine WM_form (n := 2) rfl ?_
  rintro A57 c58 rfl m59
  refine wv (vix 7 k9 underlying41 type97) ?_
  refine WM_setEl (E := tyFinished) (e := 97) (u := .agg #[.int .i64 ((laws_toFinished_m (gt x0 k9)).Query.Id), .int .i64 ((laws_toFinished_m (gt x0 k9)).Query.Tenant), .slice A49 ((laws_toFinished_m (gt x0 k9)).Query.Conds).length c50, .slice A53 ((laws_toFinished_m (gt x0 k9)).Query.Out).length c54, .int .i64 ((laws_toFinished_m (gt x0 k9)).Time), .int .i64 ((laws_toFinished_m (gt x0 k9)).Steps), .slice A57 ((laws_toFinished_m (gt x0 k9)).Rows).length c58]) (k := k9) (p := p7) (n := x0.length) (xs := d10) (eis := [iOwn (tSl tyCond 102) [.slice A49 ((laws_toFinished_m (gt x0 k9)).Query.Conds).length c50] ((laws_toFinished_m (gt x0 k9)).Query.Conds), iOwn (tSl tInt 3) [.slice A53 ((laws_toFinished_m (gt x0 k9)).Query.Out).length c54] ((laws_toFinished_m (gt x0 k9)).Query.Out), iOwn (tSl tyRow 138) [.slice A57 ((laws_toFinished_m (gt x0 k9)).Rows).length c58] ((laws_toFinished_m (gt x0 k9)).Rows)]) (js := []) (yv := (laws_toFinished_m (gt x0 k9))) (pk [3, 0, 1, 2]) (fun _ _ hs => (tyFinished_join (x := (laws_toFinished_m (gt x0 k9))) hs)) rfl type97 rfl (by omega) rfl rfl (Wd_none rfl) ?_
  refine WM_nil (QM_block_normal (QM_then (CM_region (wm ?_))))
  refine wv (vadN k9 1 (by omega)) ?_
  refine wa (WM_nil ?_)
  have hn61 := rng_next (R := (List DFinished)) (body := F1) (k := k9) (s := d10) (s' := (d10.set k9 (laws_toFinished_m (gt x0 k9)))) (show k9 < x0.length from by omega) (show laws_toFinishedS_b1 x0 k9 d10 = Sum.inr (d10.set k9 (laws_toFinished_m (gt x0 k9))) from by unfold laws_toFinishedS_b1; exact rfl) hF12
  exact QM_round (k9 + 1, (d10.set k9 (laws_toFinished_m (gt x0 k9))), ()) sl3 (fun W hm => hm) ⟨(by omega), hn61⟩ (rl (by omega))
 ·have g15 : (decide (((k9 : Nat) : Int) < ((x0.length : Nat) : Int))) = false := decide_eq_false (by omega)
  refine CM_condF rfl g15 ?_
  refine CM_exit (QM_then_exit (QM_then_exit ?_))
  have hE62 : R2 (x0.length - 0) 0 (List.replicate x0.length (⟨(⟨(0 : Int), (0 : Int), [], []⟩ : DQuery), (0 : Int), (0 : Int), []⟩ : DFinished)) = Sum.inr d10 := rng_end hl14 hF12
  refine QM_block_hit (QM_then (sr (wm (wa (nt' (CM_ret ?_))))))
  refine QM_r1 rfl (RR_tmp rfl) (fun W hm => ⟨.slice (some ⟨p7, 0, none⟩) x0.length x0.length, ?_, ?_⟩)
  ·first | rw [(show laws_toFinishedS_m x0 = d10 from by unfold laws_toFinishedS_m; exact fin_inr hE62 (rfl))] | rfl
  ·rw [(show laws_toFinishedS_m x0 = d10 from by unfold laws_toFinishedS_m; exact fin_inr hE62 (rfl))]; exact hm

def laws_toCharge_m (x0 : DCharge) : DCharge :=
 (⟨x0.Segment, x0.Base, (laws_toIntS_m x0.Ids), (laws_toIntS_m x0.Tenants), (laws_toIntS_m x0.Rows)⟩ : DCharge)
theorem cb47 : Cb Tryz.prog 47 := ⟨f47, _, func47, rfl, by decide⟩
theorem laws_toCharge_c (w : World) (z0 : List Value) (x0 : DCharge) (r_0 : tyLCharge.rd w w.heap.size z0 x0) (s_0 : smCharge 68719476736 x0) :
  Calls Tryz.prog 47 #[.agg z0.toArray] w fun e w' => ∃ v : List Value, e = .returned (.agg v.toArray) ∧ Mem w.heap.size w [iOwn tyCharge v (laws_toCharge_m x0)] w' := by
 obtain ⟨v1, v3, v5, rfl, r2, r4, r6⟩ := tyLCharge_rd r_0
 have r11 := r2
 obtain ⟨m7, A8, c9, rfl, q10⟩ := r2
 have r16 := r4
 obtain ⟨m12, A13, c14, rfl, q15⟩ := r4
 have r21 := r6
 obtain ⟨m17, A18, c19, rfl, q20⟩ := r6
 have l22 : x0.Ids.length ≤ 68719476736 := s_0.1
 have l23 : x0.Tenants.length ≤ 68719476736 := s_0.2.1
 have l24 : x0.Rows.length ≤ 68719476736 := s_0.2.2
 refine ce1 (L := [(0, .agg #[.int .i64 x0.Segment, .int .i64 x0.Base, .slice A8 x0.Ids.length c9, .slice A13 x0.Tenants.length c14, .slice A18 x0.Rows.length c19])]) (N := 23) func47 ?_
 refine sr ?_
 refine WM_box rfl (Wd_none rfl) (by decide) (fun p25 => ?_)
 refine WM_alloc type99 rfl (Wd_none rfl) (by decide) (fun p26 => ?_)
 refine nt' (sr ?_)
 refine WM_alloc type99 rfl (Wd_none rfl) (by decide) (fun p27 => ?_)
 refine nt' (sr ?_)
 refine wv (vf underlying84 rfl type3) ?_
 refine wv (vl 2 0 underlying3) ?_
 refine wv (vf underlying99 rfl type3) ?_
 let K1 : List Value := [.int .i64 0, .int .i64 0, .slice none 0 0, .slice none 0 0, .slice none 0 0]
 let K2 : List Value := [.int .i64 x0.Segment, .int .i64 x0.Base, .slice A8 x0.Ids.length c9, .slice A13 x0.Tenants.length c14, .slice A18 x0.Rows.length c19]
 refine sb 0 [.int .i64 x0.Segment, .int .i64 0, .slice none 0 0, .slice none 0 0, .slice none 0 0] [iBox p26 99 K1, iBox p25 84 K2] (fun W hm => hm) type3 ?_
 refine nt' (sr ?_)
 refine wv (vf underlying84 rfl type3) ?_
 refine wv (vl 2 1 underlying3) ?_
 refine wv (vf underlying99 rfl type3) ?_
 refine sb 1 [.int .i64 x0.Segment, .int .i64 x0.Base, .slice none 0 0, .slice none 0 0, .slice none 0 0] [iBox p26 99 K1, iBox p25 84 K2] (fun W hm => hm) type3 ?_
 refine nt' (sr ?_)
 refine wv (vf underlying84 rfl type25) ?_
 refine wv (vl 2 2 underlying25) ?_
 refine wcl (tSl tInt 3) (laws_toIntS_m x0.Ids) (cl_fn cb21 rfl) (fun W hm => laws_toIntS_c W _ x0.Ids (hm.rdS0 r11) s_0.1) (fun z28 => ?_)
 refine WM_form (n := 0) rfl ?_
 rintro A29 c30 rfl m31
 refine wv (vf underlying99 rfl type25) ?_
 let I4 : It := iOwn (tSl tInt 3) [.slice A29 (laws_toIntS_m x0.Ids).length c30] (laws_toIntS_m x0.Ids)
 refine sb 2 [.int .i64 x0.Segment, .int .i64 x0.Base, .slice A29 (laws_toIntS_m x0.Ids).length c30, .slice none 0 0, .slice none 0 0] [I4, iBox p26 99 K1, iBox p25 84 K2] (pk [1, 0, 2, 3]) type25 ?_
 refine nt' (sr ?_)
 refine wv (vf underlying84 rfl type25) ?_
 refine wv (vl 3 3 underlying25) ?_
 refine wcl (tSl tInt 3) (laws_toIntS_m x0.Tenants) (cl_fn cb21 rfl) (fun W hm => laws_toIntS_c W _ x0.Tenants (hm.rdS0 r16) s_0.2.1) (fun z33 => ?_)
 refine WM_form (n := 0) rfl ?_
 rintro A34 c35 rfl m36
 refine wv (vf underlying99 rfl type25) ?_
 let I5 : It := iOwn (tSl tInt 3) [.slice A34 (laws_toIntS_m x0.Tenants).length c35] (laws_toIntS_m x0.Tenants)
 refine sb 3 [.int .i64 x0.Segment, .int .i64 x0.Base, .slice A29 (laws_toIntS_m x0.Ids).length c30, .slice A34 (laws_toIntS_m x0.Tenants).length c35, .slice none 0 0] [I5, I4, iBox p26 99 K1, iBox p25 84 K2] (pk [1, 0, 2, 3, 4]) type25 ?_
 refine nt' (sr ?_)
 refine wv (vf underlying84 rfl type25) ?_
 refine wv (vl 4 4 underlying25) ?_
 refine wcl (tSl tInt 3) (laws_toIntS_m x0.Rows) (cl_fn cb21 rfl) (fun W hm => laws_toIntS_c W _ x0.Rows (hm.rdS0 r21) s_0.2.2) (fun z38 => ?_)
 refine WM_form (n := 0) rfl ?_
 rintro A39 c40 rfl m41
 refine wv (vf underlying99 rfl type25) ?_
 let K3 : List Value := [.int .i64 x0.Segment, .int .i64 x0.Base, .slice A29 (laws_toIntS_m x0.Ids).length c30, .slice A34 (laws_toIntS_m x0.Tenants).length c35, .slice A39 (laws_toIntS_m x0.Rows).length c40]
 let I6 : It := iOwn (tSl tInt 3) [.slice A39 (laws_toIntS_m x0.Rows).length c40] (laws_toIntS_m x0.Rows)
 refine sb 4 K3 [I6, I5, I4, iBox p26 99 K1, iBox p25 84 K2] (pk [1, 0, 2, 3, 4, 5]) type25 ?_
 refine nt' (sr ?_)
 refine wv (fun W hm => rv_loadN (cs := K3) underlying99 type99 rfl rfl (hm.boxCells (n := 0) rfl)) ?_
 refine sb 0 K3 [iBox p27 99 K3, I6, I5, I4, iBox p25 84 K2] (pk [4, 0, 1, 2, 3, 5]) type99 ?_
 refine nt' (CM_ret ?_)
 refine QM_r1 rfl (RR_cell (n := 0) rfl rfl underlying99 type99 rfl) (fun W hm => ⟨K3, ?_, ?_⟩)
 ·first | rw [(show laws_toCharge_m x0 = (⟨x0.Segment, x0.Base, (laws_toIntS_m x0.Ids), (laws_toIntS_m x0.Tenants), (laws_toIntS_m x0.Rows)⟩ : DCharge) from by unfold laws_toCharge_m; exact rfl)] | rfl
 ·rw [(show laws_toCharge_m x0 = (⟨x0.Segment, x0.Base, (laws_toIntS_m x0.Ids), (laws_toIntS_m x0.Tenants), (laws_toIntS_m x0.Rows)⟩ : DCharge) from by unfold laws_toCharge_m; exact rfl)]; exact Mem.join (is := [I4, I5, I6]) (js := []) (fun _ _ hs => tyCharge_join (x := (⟨x0.Segment, x0.Base, (laws_toIntS_m x0.Ids), (laws_toIntS_m x0.Tenants), (laws_toIntS_m x0.Rows)⟩ : DCharge)) hs) (hm.pick [4, 3, 2] (by decide))

def laws_toChargeS_b1 (x0 : (List DCharge)) (k9 : Nat) (d10 : (List DCharge)) : (List DCharge) ⊕ ((List DCharge)) :=
 Sum.inr (d10.set k9 (laws_toCharge_m (gt x0 k9)))
def laws_toChargeS_m (x0 : (List DCharge)) : (List DCharge) :=
 Sum.elim id (fun (s : (List DCharge)) => s) (rng (R := (List DCharge)) (fun k (s : (List DCharge)) => laws_toChargeS_b1 x0 k s) (x0.length - 0) 0 (List.replicate x0.length (⟨(0 : Int), (0 : Int), [], [], []⟩ : DCharge)))
theorem cb24 : Cb Tryz.prog 24 := ⟨f24, _, func24, rfl, by decide⟩
theorem laws_toChargeS_c (w : World) (z0 : Value) (x0 : (List DCharge)) (r_0 : rdS tyLCharge w w.heap.size z0 x0) (s_0 : (x0.length ≤ 68719476736 ∧ ∀ y ∈ x0, smCharge 68719476736 y)) :
  Calls Tryz.prog 24 #[z0] w fun e w' => ∃ v : Value, e = .returned (v) ∧ Mem w.heap.size w [iOwn (tSl tyCharge 99) [v] (laws_toChargeS_m x0)] w' := by
 have r5 := r_0
 obtain ⟨m1, A2, c3, rfl, q4⟩ := r_0
 have l6 : x0.length ≤ 68719476736 := s_0.1
 refine ce1 (L := [(0, .slice A2 x0.length c3)]) (N := 23) func24 ?_
 refine sr (wa (nt' (sr (wm ?_))))
 refine wv (vlen underlying28) ?_
 refine WM_make (E := tyCharge) (n := x0.length) (x0 := (⟨(0 : Int), (0 : Int), [], [], []⟩ : DCharge)) underlying42 type99 rfl rfl rfl (fun _ => ⟨[], [], _, _, rfl, rfl, tInt_own, ⟨[], [], _, _, rfl, rfl, tInt_own, ⟨[], [], _, _, rfl, rfl, own_nil, ⟨[], [], _, _, rfl, rfl, own_nil, own_nil⟩⟩⟩⟩) rfl rfl (show x0.length * 88 ≤ 281474976710656 from by omega) (by omega) (Wd_none rfl) (by decide) (fun p7 => ?_)
 refine wa (nt' (CM_seq (sr (wa (nt' (CM_block ?_))))))
 let F1 := fun k (s : (List DCharge)) => laws_toChargeS_b1 x0 k s
 let R2 := rng (R := (List DCharge)) F1
 refine CM_loop (σ := Nat × ((List DCharge)) × (Unit)) (fun s => [(0, .slice A2 x0.length c3), (3, .slice (some ⟨p7, 0, none⟩) x0.length x0.length), (4, .int .i64 ((s.1 : Nat) : Int))]) (fun s => [iOwn (tSl tyCharge 99) [.slice (some ⟨p7, 0, none⟩) x0.length x0.length] s.2.1]) (fun s => s.1 ≤ x0.length ∧ R2 (x0.length - s.1) s.1 s.2.1 = R2 (x0.length - 0) 0 (List.replicate x0.length (⟨(0 : Int), (0 : Int), [], [], []⟩ : DCharge))) (fun s => x0.length - s.1) (0, (List.replicate x0.length (⟨(0 : Int), (0 : Int), [], [], []⟩ : DCharge)), ()) sl3 (fun W hm => hm) ⟨(by omega), rfl⟩ ?_
 rintro ⟨k9, d10, ⟨⟩⟩ H13
 obtain ⟨hk11, hF12⟩ : k9 ≤ x0.length ∧ R2 (x0.length - k9) k9 d10 = R2 (x0.length - 0) 0 (List.replicate x0.length (⟨(0 : Int), (0 : Int), [], [], []⟩ : DCharge)) := H13
 show CM Tryz.prog 23 _ _ _ _ [(0, .slice A2 x0.length c3), (3, .slice (some ⟨p7, 0, none⟩) x0.length x0.length), (4, .int .i64 ((k9 : Nat) : Int))] [iOwn (tSl tyCharge 99) [.slice (some ⟨p7, 0, none⟩) x0.length x0.length] d10]
 refine CM_seq (sr (wm (wm ?_)))
 refine wv (vlen underlying28) ?_
 refine wv vlss ?_
 refine nt' ?_
 by_cases hl14 : k9 < x0.length
 ·have g15 : (decide (((k9 : Nat) : Int) < ((x0.length : Nat) : Int))) = true := decide_eq_true (by omega)
  refine CM_condT rfl g15 ?_
  refine CM_skip (QM_then (CM_seq (CM_block (CM_region (wm (wm (wm (wm ?_))))))))
  obtain ⟨a16, rfl, hb17, he18⟩ := q4 (by omega)
  refine wv (vix 5 k9 underlying28 type84) ?_
  obtain ⟨_, e26, hc19⟩ := he18 k9 _ (gt_some (show k9 < x0.length from by omega))
  obtain ⟨v20, v22, v24, rfl, r21, r23, r25⟩ := tyLCharge_rd e26
  have l27 : ((gt x0 k9).Ids).length ≤ 68719476736 := (s_0.2 _ (gt_mem (show k9 < x0.length from by omega))).1
  have l28 : ((gt x0 k9).Tenants).length ≤ 68719476736 := (s_0.2 _ (gt_mem (show k9 < x0.length from by omega))).2.1
  have l29 : ((gt x0 k9).Rows).length ≤ 68719476736 := (s_0.2 _ (gt_mem (show k9 < x0.length from by omega))).2.2
  have r34 := r21
  obtain ⟨m30, A31, c32, rfl, q33⟩ := r21
  have r39 := r23
  obtain ⟨m35, A36, c37, rfl, q38⟩ := r23
  have r44 := r25
  obtain ⟨m40, A41, c42, rfl, q43⟩ := r25
  refine wv (fun W hm => rv_loadN (cs := [.int .i64 ((gt x0 k9).Segment), .int .i64 ((gt x0 k9).Base), .slice A31 ((gt x0 k9).Ids).length c32, .slice A36 ((gt x0 k9).Tenants).length c37, .slice A41 ((gt x0 k9).Rows).length c42]) underlying84 type84 rfl rfl (hm.elCells (show (a16.add (k9 * 5)).block < w.heap.size from by rw [add_block]; exact hb17.1) hc19)) ?_
  refine wcs tyCharge (laws_toCharge_m (gt x0 k9)) (cl_fn cb47 rfl) (fun W hm => laws_toCharge_c W _ (gt x0 k9) (tyLCharge_mk (x := (gt x0 k9)) (hm.rdS0 r34) (hm.rdS0 r39) (hm.rdS0 r44)) (s_0.2 _ (gt_mem (show k9 < x0.length from by omega)))) (fun z45 => ?_)
  refine tyCharge_sp ?_
  rintro ⟨v46, v47, v48⟩ rfl
  refine WM_form (n := 0) rfl ?_
  rintro A49 c50 rfl m51
  refine WM_form (n := 1) rfl ?_
  rintro A53 c54 rfl m55
  refine WM_form (n := 2) rfl ?_
  rintro A57 c58 rfl m59
  refine wv (vix 5 k9 underlying42 type99) ?_
  refine WM_setEl (E := tyCharge) (e := 99) (u := .agg #[.int .i64 ((laws_toCharge_m (gt x0 k9)).Segment), .int .i64 ((laws_toCharge_m (gt x0 k9)).Base), .slice A49 ((laws_toCharge_m (gt x0 k9)).Ids).length c50, .slice A53 ((laws_toCharge_m (gt x0 k9)).Tenants).length c54, .slice A57 ((laws_toCharge_m (gt x0 k9)).Rows).length c58]) (k := k9) (p := p7) (n := x0.length) (xs := d10) (eis := [iOwn (tSl tInt 3) [.slice A49 ((laws_toCharge_m (gt x0 k9)).Ids).length c50] ((laws_toCharge_m (gt x0 k9)).Ids), iOwn (tSl tInt 3) [.slice A53 ((laws_toCharge_m (gt x0 k9)).Tenants).length c54] ((laws_toCharge_m (gt x0 k9)).Tenants), iOwn (tSl tInt 3) [.slice A57 ((laws_toCharge_m (gt x0 k9)).Rows).length c58] ((laws_toCharge_m (gt x0 k9)).Rows)]) (js := []) (yv := (laws_toCharge_m (gt x0 k9))) (pk [3, 0, 1, 2]) (fun _ _ hs => (tyCharge_join (x := (laws_toCharge_m (gt x0 k9))) hs)) rfl type99 rfl (by omega) rfl rfl (Wd_none rfl) ?_
  refine WM_nil (QM_block_normal (QM_then (CM_region (wm ?_))))
  refine wv (vadN k9 1 (by omega)) ?_
  refine wa (WM_nil ?_)
  have hn61 := rng_next (R := (List DCharge)) (body := F1) (k := k9) (s := d10) (s' := (d10.set k9 (laws_toCharge_m (gt x0 k9)))) (show k9 < x0.length from by omega) (show laws_toChargeS_b1 x0 k9 d10 = Sum.inr (d10.set k9 (laws_toCharge_m (gt x0 k9))) from by unfold laws_toChargeS_b1; exact rfl) hF12
  exact QM_round (k9 + 1, (d10.set k9 (laws_toCharge_m (gt x0 k9))), ()) sl3 (fun W hm => hm) ⟨(by omega), hn61⟩ (rl (by omega))
 ·have g15 : (decide (((k9 : Nat) : Int) < ((x0.length : Nat) : Int))) = false := decide_eq_false (by omega)
  refine CM_condF rfl g15 ?_
  refine CM_exit (QM_then_exit (QM_then_exit ?_))
  have hE62 : R2 (x0.length - 0) 0 (List.replicate x0.length (⟨(0 : Int), (0 : Int), [], [], []⟩ : DCharge)) = Sum.inr d10 := rng_end hl14 hF12
  refine QM_block_hit (QM_then (sr (wm (wa (nt' (CM_ret ?_))))))
  refine QM_r1 rfl (RR_tmp rfl) (fun W hm => ⟨.slice (some ⟨p7, 0, none⟩) x0.length x0.length, ?_, ?_⟩)
  ·first | rw [(show laws_toChargeS_m x0 = d10 from by unfold laws_toChargeS_m; exact fin_inr hE62 (rfl))] | rfl
  ·rw [(show laws_toChargeS_m x0 = d10 from by unfold laws_toChargeS_m; exact fin_inr hE62 (rfl))]; exact hm

def laws_toEngine_m (x0 : DEngine) : DEngine :=
 (⟨(laws_toStore_m x0.Store), x0.Cursor, (laws_toIntS_m x0.Order), (laws_toActiveS_m x0.Active), (laws_toFinishedS_m x0.Done), (laws_toChargeS_m x0.Ledger), x0.Steps⟩ : DEngine)
theorem cb7 : Cb Tryz.prog 7 := ⟨f7, _, func7, rfl, by decide⟩
theorem laws_toEngine_c (w : World) (z0 : List Value) (x0 : DEngine) (r_0 : tyLEngine.rd w w.heap.size z0 x0) (s_0 : smEngine 68719476736 x0) :
  Calls Tryz.prog 7 #[.agg z0.toArray] w fun e w' => ∃ v : List Value, e = .returned (.agg v.toArray) ∧ Mem w.heap.size w [iOwn tyEngine v (laws_toEngine_m x0)] w' := by
 obtain ⟨v1, v3, v5, v7, v9, rfl, r2, r4, r6, r8, r10⟩ := tyLEngine_rd r_0
 have r15 := r2
 obtain ⟨m11, A12, c13, rfl, q14⟩ := r2
 have r20 := r4
 obtain ⟨m16, A17, c18, rfl, q19⟩ := r4
 have r25 := r6
 obtain ⟨m21, A22, c23, rfl, q24⟩ := r6
 have r30 := r8
 obtain ⟨m26, A27, c28, rfl, q29⟩ := r8
 have r35 := r10
 obtain ⟨m31, A32, c33, rfl, q34⟩ := r10
 have l36 : x0.Store.Segments.length ≤ 68719476736 := s_0.1.1
 have l37 : x0.Order.length ≤ 68719476736 := s_0.2.1
 have l38 : x0.Active.length ≤ 68719476736 := s_0.2.2.1.1
 have l39 : x0.Done.length ≤ 68719476736 := s_0.2.2.2.1.1
 have l40 : x0.Ledger.length ≤ 68719476736 := s_0.2.2.2.2.1
 refine ce1 (L := [(0, .agg #[.slice A12 x0.Store.Segments.length c13, .int .i64 x0.Store.Now, .int .i64 x0.Cursor, .slice A17 x0.Order.length c18, .slice A22 x0.Active.length c23, .slice A27 x0.Done.length c28, .slice A32 x0.Ledger.length c33, .int .i64 x0.Steps])]) (N := 31) func7 ?_
 refine sr ?_
 refine WM_box rfl (Wd_none rfl) (by decide) (fun p41 => ?_)
 refine WM_alloc type44 rfl (Wd_none rfl) (by decide) (fun p42 => ?_)
 refine nt' (sr ?_)
 refine WM_alloc type44 rfl (Wd_none rfl) (by decide) (fun p43 => ?_)
 refine nt' (sr ?_)
 refine wv (vf underlying30 rfl type24) ?_
 refine wv (fun W hm => rv_loadN (cs := [.slice A12 x0.Store.Segments.length c13, .int .i64 x0.Store.Now]) underlying24 type24 rfl rfl (hm.boxPart (n := 2) rfl rfl)) ?_
 refine wcs tyStore (laws_toStore_m x0.Store) (cl_fn cb20 rfl) (fun W hm => laws_toStore_c W _ x0.Store (tyLStore_mk (x := x0.Store) (hm.rdS0 r15)) s_0.1) (fun z44 => ?_)
 refine tyStore_sp ?_
 rintro v45 rfl
 refine WM_form (n := 0) rfl ?_
 rintro A46 c47 rfl m48
 refine wv (vf underlying44 rfl type39) ?_
 let K1 : List Value := [.slice A46 ((laws_toStore_m x0.Store).Segments).length c47]
 let K2 : List Value := [.slice none 0 0, .int .i64 0, .int .i64 0, .slice none 0 0, .slice none 0 0, .slice none 0 0, .slice none 0 0, .int .i64 0]
 let K3 : List Value := [.slice A12 x0.Store.Segments.length c13, .int .i64 x0.Store.Now, .int .i64 x0.Cursor, .slice A17 x0.Order.length c18, .slice A22 x0.Active.length c23, .slice A27 x0.Done.length c28, .slice A32 x0.Ledger.length c33, .int .i64 x0.Steps]
 let I5 : It := iOwn (tSl (tSl tyVersion 142) 122) K1 ((laws_toStore_m x0.Store).Segments)
 refine sb 0 [.slice A46 ((laws_toStore_m x0.Store).Segments).length c47, .int .i64 ((laws_toStore_m x0.Store).Now), .int .i64 0, .slice none 0 0, .slice none 0 0, .slice none 0 0, .slice none 0 0, .int .i64 0] [I5, iBox p42 44 K2, iBox p41 30 K3] (pk [1, 0, 2, 3]) type39 ?_
 refine nt' (sr ?_)
 refine wv (vf underlying30 rfl type3) ?_
 refine wv (vl 3 2 underlying3) ?_
 refine wv (vf underlying44 rfl type3) ?_
 refine sb 2 [.slice A46 ((laws_toStore_m x0.Store).Segments).length c47, .int .i64 ((laws_toStore_m x0.Store).Now), .int .i64 x0.Cursor, .slice none 0 0, .slice none 0 0, .slice none 0 0, .slice none 0 0, .int .i64 0] [I5, iBox p42 44 K2, iBox p41 30 K3] (fun W hm => hm) type3 ?_
 refine nt' (sr ?_)
 refine wv (vf underlying30 rfl type25) ?_
 refine wv (vl 3 3 underlying25) ?_
 refine wcl (tSl tInt 3) (laws_toIntS_m x0.Order) (cl_fn cb21 rfl) (fun W hm => laws_toIntS_c W _ x0.Order (hm.rdS0 r20) s_0.2.1) (fun z50 => ?_)
 refine WM_form (n := 0) rfl ?_
 rintro A51 c52 rfl m53
 refine wv (vf underlying44 rfl type25) ?_
 let I6 : It := iOwn (tSl tInt 3) [.slice A51 (laws_toIntS_m x0.Order).length c52] (laws_toIntS_m x0.Order)
 refine sb 3 [.slice A46 ((laws_toStore_m x0.Store).Segments).length c47, .int .i64 ((laws_toStore_m x0.Store).Now), .int .i64 x0.Cursor, .slice A51 (laws_toIntS_m x0.Order).length c52, .slice none 0 0, .slice none 0 0, .slice none 0 0, .int .i64 0] [I6, I5, iBox p42 44 K2, iBox p41 30 K3] (pk [1, 0, 2, 3, 4]) type25 ?_
 refine nt' (sr ?_)
 refine wv (vf underlying30 rfl type26) ?_
 refine wv (vl 4 4 underlying26) ?_
 refine wcl (tSl tyActive 93) (laws_toActiveS_m x0.Active) (cl_fn cb22 rfl) (fun W hm => laws_toActiveS_c W _ x0.Active (hm.rdS0 r25) s_0.2.2.1) (fun z55 => ?_)
 refine WM_form (n := 0) rfl ?_
 rintro A56 c57 rfl m58
 refine wv (vf underlying44 rfl type40) ?_
 let I7 : It := iOwn (tSl tyActive 93) [.slice A56 (laws_toActiveS_m x0.Active).length c57] (laws_toActiveS_m x0.Active)
 refine sb 4 [.slice A46 ((laws_toStore_m x0.Store).Segments).length c47, .int .i64 ((laws_toStore_m x0.Store).Now), .int .i64 x0.Cursor, .slice A51 (laws_toIntS_m x0.Order).length c52, .slice A56 (laws_toActiveS_m x0.Active).length c57, .slice none 0 0, .slice none 0 0, .int .i64 0] [I7, I6, I5, iBox p42 44 K2, iBox p41 30 K3] (pk [1, 0, 2, 3, 4, 5]) type40 ?_
 refine nt' (sr ?_)
 refine wv (vf underlying30 rfl type27) ?_
 refine wv (vl 5 5 underlying27) ?_
 refine wcl (tSl tyFinished 97) (laws_toFinishedS_m x0.Done) (cl_fn cb23 rfl) (fun W hm => laws_toFinishedS_c W _ x0.Done (hm.rdS0 r30) s_0.2.2.2.1) (fun z60 => ?_)
 refine WM_form (n := 0) rfl ?_
 rintro A61 c62 rfl m63
 refine wv (vf underlying44 rfl type41) ?_
 let I8 : It := iOwn (tSl tyFinished 97) [.slice A61 (laws_toFinishedS_m x0.Done).length c62] (laws_toFinishedS_m x0.Done)
 refine sb 5 [.slice A46 ((laws_toStore_m x0.Store).Segments).length c47, .int .i64 ((laws_toStore_m x0.Store).Now), .int .i64 x0.Cursor, .slice A51 (laws_toIntS_m x0.Order).length c52, .slice A56 (laws_toActiveS_m x0.Active).length c57, .slice A61 (laws_toFinishedS_m x0.Done).length c62, .slice none 0 0, .int .i64 0] [I8, I7, I6, I5, iBox p42 44 K2, iBox p41 30 K3] (pk [1, 0, 2, 3, 4, 5, 6]) type41 ?_
 refine nt' (sr ?_)
 refine wv (vf underlying30 rfl type28) ?_
 refine wv (vl 6 6 underlying28) ?_
 refine wcl (tSl tyCharge 99) (laws_toChargeS_m x0.Ledger) (cl_fn cb24 rfl) (fun W hm => laws_toChargeS_c W _ x0.Ledger (hm.rdS0 r35) s_0.2.2.2.2) (fun z65 => ?_)
 refine WM_form (n := 0) rfl ?_
 rintro A66 c67 rfl m68
 refine wv (vf underlying44 rfl type42) ?_
 let I9 : It := iOwn (tSl tyCharge 99) [.slice A66 (laws_toChargeS_m x0.Ledger).length c67] (laws_toChargeS_m x0.Ledger)
 refine sb 6 [.slice A46 ((laws_toStore_m x0.Store).Segments).length c47, .int .i64 ((laws_toStore_m x0.Store).Now), .int .i64 x0.Cursor, .slice A51 (laws_toIntS_m x0.Order).length c52, .slice A56 (laws_toActiveS_m x0.Active).length c57, .slice A61 (laws_toFinishedS_m x0.Done).length c62, .slice A66 (laws_toChargeS_m x0.Ledger).length c67, .int .i64 0] [I9, I8, I7, I6, I5, iBox p42 44 K2, iBox p41 30 K3] (pk [1, 0, 2, 3, 4, 5, 6, 7]) type42 ?_
 refine nt' (sr ?_)
 refine wv (vf underlying30 rfl type3) ?_
 refine wv (vl 7 7 underlying3) ?_
 refine wv (vf underlying44 rfl type3) ?_
 let K4 : List Value := [.slice A46 ((laws_toStore_m x0.Store).Segments).length c47, .int .i64 ((laws_toStore_m x0.Store).Now), .int .i64 x0.Cursor, .slice A51 (laws_toIntS_m x0.Order).length c52, .slice A56 (laws_toActiveS_m x0.Active).length c57, .slice A61 (laws_toFinishedS_m x0.Done).length c62, .slice A66 (laws_toChargeS_m x0.Ledger).length c67, .int .i64 x0.Steps]
 refine sb 7 K4 [I9, I8, I7, I6, I5, iBox p42 44 K2, iBox p41 30 K3] (fun W hm => hm) type3 ?_
 refine nt' (sr ?_)
 refine wv (fun W hm => rv_loadN (cs := K4) underlying44 type44 rfl rfl (hm.boxCells (n := 0) rfl)) ?_
 refine sb 0 K4 [iBox p43 44 K4, I9, I8, I7, I6, I5, iBox p41 30 K3] (pk [6, 0, 1, 2, 3, 4, 5, 7]) type44 ?_
 refine nt' (CM_ret ?_)
 refine QM_r1 rfl (RR_cell (n := 0) rfl rfl underlying44 type44 rfl) (fun W hm => ⟨K4, ?_, ?_⟩)
 ·first | rw [(show laws_toEngine_m x0 = (⟨(laws_toStore_m x0.Store), x0.Cursor, (laws_toIntS_m x0.Order), (laws_toActiveS_m x0.Active), (laws_toFinishedS_m x0.Done), (laws_toChargeS_m x0.Ledger), x0.Steps⟩ : DEngine) from by unfold laws_toEngine_m; exact rfl)] | rfl
 ·rw [(show laws_toEngine_m x0 = (⟨(laws_toStore_m x0.Store), x0.Cursor, (laws_toIntS_m x0.Order), (laws_toActiveS_m x0.Active), (laws_toFinishedS_m x0.Done), (laws_toChargeS_m x0.Ledger), x0.Steps⟩ : DEngine) from by unfold laws_toEngine_m; exact rfl)]; exact Mem.join (is := [I5, I6, I7, I8, I9]) (js := []) (fun _ _ hs => tyEngine_join (x := (⟨(laws_toStore_m x0.Store), x0.Cursor, (laws_toIntS_m x0.Order), (laws_toActiveS_m x0.Active), (laws_toFinishedS_m x0.Done), (laws_toChargeS_m x0.Ledger), x0.Steps⟩ : DEngine)) hs) (hm.pick [6, 5, 4, 3, 2] (by decide))

def spec_l7One_m (x0 : Int) (x1 : (List Int)) (x2 : Int) (x3 : Int) : DVersion :=
 (⟨x0, x1, x2, x3⟩ : DVersion)
theorem cb110 : Cb Tryz.prog 110 := ⟨f110, _, func110, rfl, by decide⟩
theorem spec_l7One_c (w : World) (x0 : Int) (z1 : Value) (x1 : (List Int)) (x2 : Int) (x3 : Int) (r_1 : rdS tInt w w.heap.size z1 x1) (s_1 : x1.length ≤ 68719476736) :
  Calls Tryz.prog 110 #[.int .i64 x0, z1, .int .i64 x2, .int .i64 x3] w fun e w' => ∃ v : List Value, e = .returned (.agg v.toArray) ∧ Mem w.heap.size w [iOwn tyVersion v (spec_l7One_m x0 x1 x2 x3)] w' := by
 have r5 := r_1
 obtain ⟨m1, A2, c3, rfl, q4⟩ := r_1
 have l6 : x1.length ≤ 68719476736 := s_1
 refine ce4 (L := [(0, .int .i64 x0), (1, .slice A2 x1.length c3), (2, .int .i64 x2), (3, .int .i64 x3)]) (N := 16) func110 ?_
 refine sr ?_
 refine WM_alloc type142 rfl (Wd_none rfl) (by decide) (fun p7 => ?_)
 refine nt' (sr (wm ?_))
 refine WM_build0 (E := tInt) underlying25 type3 (Wd_none rfl) (by decide) (fun p8 => ?_)
 refine wm ?_
 refine apR tInt tInt 3 (.slice (some ⟨p8, 0, none⟩) 0 0) [] x1 [iBox p7 142 [.int .i64 0, .slice none 0 0, .int .i64 0, .int .i64 0]] (fun W hm => hm) (fun W hm => src_flat flat_int (hm.rdS0 r5)) underlying25 type3 (show (0 + x1.length) * 8 ≤ 140737488355328 from by omega) (fun v10 => ?_)
 refine WM_form (n := 0) rfl ?_
 rintro A11 c12 rfl m13
 refine wm (wm ?_)
 let K1 : List Value := [.int .i64 x0, .slice A11 x1.length c12, .int .i64 x2, .int .i64 x3]
 refine wv (fun W hm => rv_build (cs := K1) rfl (by kernel_rfl)) ?_
 let I2 : It := iOwn (tSl tInt 3) [.slice A11 x1.length c12] x1
 refine sb 0 K1 [I2] (pk [1, 0]) type142 ?_
 refine nt' (CM_ret ?_)
 refine QM_r1 rfl (RR_cell (n := 0) rfl rfl underlying142 type142 rfl) (fun W hm => ⟨K1, ?_, ?_⟩)
 ·first | rw [(show spec_l7One_m x0 x1 x2 x3 = (⟨x0, x1, x2, x3⟩ : DVersion) from by unfold spec_l7One_m; exact rfl)] | rfl
 ·rw [(show spec_l7One_m x0 x1 x2 x3 = (⟨x0, x1, x2, x3⟩ : DVersion) from by unfold spec_l7One_m; exact rfl)]; exact Mem.join (is := [I2]) (js := []) (fun _ _ hs => tyVersion_join (x := (⟨x0, x1, x2, x3⟩ : DVersion)) hs) (hm.pick [1] (by decide))

def spec_l7Part_b1 (x0 : (List DVersion)) (k9 : Nat) (d10 : (List DVersion)) : (List DVersion) ⊕ ((List DVersion)) :=
 Sum.inr (d10 ++ [(spec_l7One_m ((gt x0 k9).Id) ((gt x0 k9).Values) ((gt x0 k9).Born) ((gt x0 k9).Died))])
def spec_l7Part_m (x0 : (List DVersion)) : (List DVersion) :=
 Sum.elim id (fun (s : (List DVersion)) => s) (rng (R := (List DVersion)) (fun k (s : (List DVersion)) => spec_l7Part_b1 x0 k s) (x0.length - 0) 0 [])
theorem cb90 : Cb Tryz.prog 90 := ⟨f90, _, func90, rfl, by decide⟩
theorem spec_l7Part_c (w : World) (z0 : Value) (x0 : (List DVersion)) (r_0 : rdS tyVersion w w.heap.size z0 x0) (s_0 : (x0.length ≤ 68719476736 ∧ ∀ y ∈ x0, smVersion 68719476736 y)) :
  Calls Tryz.prog 90 #[z0] w fun e w' => ∃ v : Value, e = .returned (v) ∧ Mem w.heap.size w [iOwn (tSl tyVersion 142) [v] (spec_l7Part_m x0)] w' := by
 have r5 := r_0
 obtain ⟨m1, A2, c3, rfl, q4⟩ := r_0
 have l6 : x0.length ≤ 68719476736 := s_0.1
 refine ce1 (L := [(0, .slice A2 x0.length c3)]) (N := 37) func90 ?_
 refine sr (wa (nt' (sr ?_)))
 refine WM_build0 (E := tyVersion) underlying122 type142 (Wd_none rfl) (by decide) (fun p7 => ?_)
 refine wa (nt' (CM_seq (sr (wa (nt' (CM_block ?_))))))
 let F1 := fun k (s : (List DVersion)) => spec_l7Part_b1 x0 k s
 let R2 := rng (R := (List DVersion)) F1
 refine CM_loop (σ := Nat × ((List DVersion)) × (Option Addr × Nat)) (fun s => [(0, .slice A2 x0.length c3), (3, .slice s.2.2.1 s.2.1.length s.2.2.2), (4, .int .i64 ((s.1 : Nat) : Int))]) (fun s => [iOwn (tSl tyVersion 142) [.slice s.2.2.1 s.2.1.length s.2.2.2] s.2.1]) (fun s => s.1 ≤ x0.length ∧ R2 (x0.length - s.1) s.1 s.2.1 = R2 (x0.length - 0) 0 [] ∧ s.2.1.length ≤ 0 + s.1) (fun s => x0.length - s.1) (0, [], ((some ⟨p7, 0, none⟩), 0)) sl3 (fun W hm => hm) ⟨(by omega), rfl, Nat.le_refl _⟩ ?_
 rintro ⟨k9, d10, ⟨A11, c12⟩⟩ H15
 obtain ⟨hk13, hF14, hi16⟩ : k9 ≤ x0.length ∧ R2 (x0.length - k9) k9 d10 = R2 (x0.length - 0) 0 [] ∧ d10.length ≤ 0 + k9 := H15
 show CM Tryz.prog 37 _ _ _ _ [(0, .slice A2 x0.length c3), (3, .slice A11 d10.length c12), (4, .int .i64 ((k9 : Nat) : Int))] [iOwn (tSl tyVersion 142) [.slice A11 d10.length c12] d10]
 refine CM_seq (sr (wm (wm ?_)))
 refine wv (vlen underlying122) ?_
 refine wv vlss ?_
 refine nt' ?_
 by_cases hl17 : k9 < x0.length
 ·have g18 : (decide (((k9 : Nat) : Int) < ((x0.length : Nat) : Int))) = true := decide_eq_true (by omega)
  refine CM_condT rfl g18 ?_
  refine CM_skip (QM_then (CM_seq (CM_block ?_)))
  refine rb 25 (s := []) (pk []) ?_
  refine qt 25 0 1 rfl vmv ?_
  refine qt 25 1 3 rfl vmv ?_
  refine qt 25 2 7 rfl vmv ?_
  obtain ⟨a19, rfl, hb20, he21⟩ := q4 (by omega)
  refine qt 25 3 15 rfl (vix 4 k9 underlying122 type142) ?_
  refine qt 25 4 31 rfl (vf underlying142 rfl type3) ?_
  obtain ⟨_, e25, hc22⟩ := he21 k9 _ (gt_some (show k9 < x0.length from by omega))
  obtain ⟨v23, rfl, r24⟩ := tyVersion_rd e25
  have l26 : ((gt x0 k9).Values).length ≤ 68719476736 := (s_0.2 _ (gt_mem (show k9 < x0.length from by omega)))
  have r31 := r24
  obtain ⟨m27, A28, c29, rfl, q30⟩ := r24
  refine qt 25 5 63 rfl (fun W hm => rv_load underlying3 rfl rfl ((hm.cell0 (show ((a19.add (k9 * 4)).add 0).block < w.heap.size from by rw [add_block, add_block]; exact hb20.1)).trans (hc22 0 _ rfl))) ?_
  refine qt 25 6 127 rfl vmv ?_
  refine qt 25 7 255 rfl vmv ?_
  refine qt 25 8 511 rfl (vix 4 k9 underlying122 type142) ?_
  refine qt 25 9 1023 rfl (vf underlying142 rfl type25) ?_
  refine qt 25 10 2047 rfl (fun W hm => rv_load underlying25 rfl rfl ((hm.cell0 (show ((a19.add (k9 * 4)).add 1).block < w.heap.size from by rw [add_block, add_block]; exact hb20.1)).trans (hc22 1 _ rfl))) ?_
  refine qt 25 11 4095 rfl vmv ?_
  refine qt 25 12 8191 rfl vmv ?_
  refine qt 25 13 16383 rfl (vix 4 k9 underlying122 type142) ?_
  refine qt 25 14 32767 rfl (vf underlying142 rfl type3) ?_
  refine qt 25 15 65535 rfl (fun W hm => rv_load underlying3 rfl rfl ((hm.cell0 (show ((a19.add (k9 * 4)).add 2).block < w.heap.size from by rw [add_block, add_block]; exact hb20.1)).trans (hc22 2 _ rfl))) ?_
  refine qt 25 16 131071 rfl vmv ?_
  refine qt 25 17 262143 rfl vmv ?_
  refine qt 25 18 524287 rfl (vix 4 k9 underlying122 type142) ?_
  refine qt 25 19 1048575 rfl (vf underlying142 rfl type3) ?_
  refine qt 25 20 2097151 rfl (fun W hm => rv_load underlying3 rfl rfl ((hm.cell0 (show ((a19.add (k9 * 4)).add 3).block < w.heap.size from by rw [add_block, add_block]; exact hb20.1)).trans (hc22 3 _ rfl))) ?_
  refine qo 25 21 4194303 rfl ?_
  refine wcs tyVersion (spec_l7One_m ((gt x0 k9).Id) ((gt x0 k9).Values) ((gt x0 k9).Born) ((gt x0 k9).Died)) (cl_fn cb110 rfl) (fun W hm => spec_l7One_c W ((gt x0 k9).Id) _ ((gt x0 k9).Values) ((gt x0 k9).Born) ((gt x0 k9).Died) (hm.rdS0 r31) (s_0.2 _ (gt_mem (show k9 < x0.length from by omega)))) (fun z32 => ?_)
  refine tyVersion_sp ?_
  rintro v33 rfl
  refine WM_form (n := 0) rfl ?_
  rintro A34 c35 rfl m36
  refine qn (pk []) ?_
  refine qo 25 22 8388607 rfl ?_
  let K3 : List Value := [.int .i64 ((spec_l7One_m ((gt x0 k9).Id) ((gt x0 k9).Values) ((gt x0 k9).Born) ((gt x0 k9).Died)).Id), .slice A34 ((spec_l7One_m ((gt x0 k9).Id) ((gt x0 k9).Values) ((gt x0 k9).Born) ((gt x0 k9).Died)).Values).length c35, .int .i64 ((spec_l7One_m ((gt x0 k9).Id) ((gt x0 k9).Values) ((gt x0 k9).Born) ((gt x0 k9).Died)).Born), .int .i64 ((spec_l7One_m ((gt x0 k9).Id) ((gt x0 k9).Values) ((gt x0 k9).Born) ((gt x0 k9).Died)).Died)]
  refine WM_build (cs := K3) underlying122 type142 rfl (by decide) (by decide) rfl (by kernel_rfl) (Wd_none rfl) (by decide) (fun p38 => ?_)
  refine qn (pk []) ?_
  refine qo 25 23 16777215 rfl ?_
  refine ap1 tyVersion 142 (.slice A11 d10.length c12) d10 (spec_l7One_m ((gt x0 k9).Id) ((gt x0 k9).Values) ((gt x0 k9).Born) ((gt x0 k9).Died)) [iOwn (tSl tInt 3) [.slice A34 ((spec_l7One_m ((gt x0 k9).Id) ((gt x0 k9).Values) ((gt x0 k9).Born) ((gt x0 k9).Died)).Values).length c35] ((spec_l7One_m ((gt x0 k9).Id) ((gt x0 k9).Values) ((gt x0 k9).Born) ((gt x0 k9).Died)).Values)] [] K3 (pk [0, 2, 1]) (fun _ _ hs => Els.single (tyVersion_join (x := (spec_l7One_m ((gt x0 k9).Id) ((gt x0 k9).Values) ((gt x0 k9).Born) ((gt x0 k9).Died))) hs)) underlying122 type142 (show (d10.length + 1) * 48 ≤ 140737488355328 from by omega) (fun v39 => ?_)
  refine WM_form (n := 0) rfl ?_
  rintro A40 c41 rfl m42
  refine qn (pk []) ?_
  refine qt 25 24 33554431 rfl (fun W hm => rv_assign rfl) ?_
  refine QB_done (by kernel_rfl) ?_
  refine QM_block_normal (QM_then (CM_region (wm ?_)))
  refine wv (vadN k9 1 (by omega)) ?_
  refine wa (WM_nil ?_)
  have hn44 := rng_next (R := (List DVersion)) (body := F1) (k := k9) (s := d10) (s' := (d10 ++ [(spec_l7One_m ((gt x0 k9).Id) ((gt x0 k9).Values) ((gt x0 k9).Born) ((gt x0 k9).Died))])) (show k9 < x0.length from by omega) (show spec_l7Part_b1 x0 k9 d10 = Sum.inr (d10 ++ [(spec_l7One_m ((gt x0 k9).Id) ((gt x0 k9).Values) ((gt x0 k9).Born) ((gt x0 k9).Died))]) from by unfold spec_l7Part_b1; exact rfl) hF14
  exact QM_round (k9 + 1, (d10 ++ [(spec_l7One_m ((gt x0 k9).Id) ((gt x0 k9).Values) ((gt x0 k9).Born) ((gt x0 k9).Died))]), (A40, c41)) sl3 (fun W hm => hm) ⟨(by omega), hn44, (show (d10 ++ [(spec_l7One_m ((gt x0 k9).Id) ((gt x0 k9).Values) ((gt x0 k9).Born) ((gt x0 k9).Died))]).length ≤ 0 + (k9 + 1) from by first | omega | (simp only [List.length_append, List.length_cons, List.length_nil] at *; omega))⟩ (rl (by omega))
 ·have g18 : (decide (((k9 : Nat) : Int) < ((x0.length : Nat) : Int))) = false := decide_eq_false (by omega)
  refine CM_condF rfl g18 ?_
  refine CM_exit (QM_then_exit (QM_then_exit ?_))
  have hE45 : R2 (x0.length - 0) 0 [] = Sum.inr d10 := rng_end hl17 hF14
  refine QM_block_hit (QM_then (sr (wm (wa (nt' (CM_ret ?_))))))
  refine QM_r1 rfl (RR_tmp rfl) (fun W hm => ⟨.slice A11 d10.length c12, ?_, ?_⟩)
  ·first | rw [(show spec_l7Part_m x0 = d10 from by unfold spec_l7Part_m; exact fin_inr hE45 (rfl))] | rfl
  ·rw [(show spec_l7Part_m x0 = d10 from by unfold spec_l7Part_m; exact fin_inr hE45 (rfl))]; exact hm
theorem spec_l7Part_eq (x0 : (List DVersion)) : spec_l7Part_m x0 = x0 := by
 unfold spec_l7Part_m; rw [rng_app (xs := x0) (b := fun k s => spec_l7Part_b1 x0 k s) (fun _ _ => rfl)]; rfl
theorem spec_l7Part_c2 (w : World) (z0 : Value) (x0 : (List DVersion)) (r_0 : rdS tyVersion w w.heap.size z0 x0) (s_0 : (x0.length ≤ 68719476736 ∧ ∀ y ∈ x0, smVersion 68719476736 y)) :
  Calls Tryz.prog 90 #[z0] w fun e w' => ∃ v : Value, e = .returned (v) ∧ Mem w.heap.size w [iOwn (tSl tyVersion 142) [v] x0] w' := by
 have h := spec_l7Part_c w z0 x0 r_0 s_0
 rw [spec_l7Part_eq] at h
 exact h

def spec_l7Copy_b1 (x0 : DStore) (k12 : Nat) (d15 : (List (List DVersion))) : DStore ⊕ ((List (List DVersion))) :=
 Sum.inr (d15 ++ [(gt x0.Segments k12)])
def spec_l7Copy_m (x0 : DStore) : DStore :=
 Sum.elim id (fun (s : (List (List DVersion))) => (⟨s, x0.Now⟩ : DStore)) (rng (R := DStore) (fun k (s : (List (List DVersion))) => spec_l7Copy_b1 x0 k s) (x0.Segments.length - 0) 0 [])
theorem cb62 : Cb Tryz.prog 62 := ⟨f62, _, func62, rfl, by decide⟩
theorem spec_l7Copy_c (w : World) (z0 : List Value) (x0 : DStore) (r_0 : tyStore.rd w w.heap.size z0 x0) (s_0 : smStore 68719476736 x0) :
  Calls Tryz.prog 62 #[.agg z0.toArray] w fun e w' => ∃ v : List Value, e = .returned (.agg v.toArray) ∧ Mem w.heap.size w [iOwn tyStore v (spec_l7Copy_m x0)] w' := by
 obtain ⟨v1, rfl, r2⟩ := tyStore_rd r_0
 have r7 := r2
 obtain ⟨m3, A4, c5, rfl, q6⟩ := r2
 have l8 : x0.Segments.length ≤ 68719476736 := s_0.1
 refine ce1 (L := [(0, .agg #[.slice A4 x0.Segments.length c5, .int .i64 x0.Now])]) (N := 27) func62 ?_
 refine sr ?_
 refine WM_box rfl (Wd_none rfl) (by decide) (fun p9 => ?_)
 refine WM_alloc type39 rfl (Wd_none rfl) (by decide) (fun p10 => ?_)
 refine nt' (sr ?_)
 refine wv (vf underlying39 rfl type3) ?_
 refine wv (vl 1 1 underlying3) ?_
 refine wv (fun W hm => rv_build (cs := [.slice none 0 0, .int .i64 x0.Now]) rfl (by kernel_rfl)) ?_
 refine WM_alloc type39 rfl (Wd_none rfl) (by decide) (fun p11 => ?_)
 let I3 : It := iBox p9 39 [.slice A4 x0.Segments.length c5, .int .i64 x0.Now]
 refine sb 0 [.slice none 0 0, .int .i64 x0.Now] [iBox p10 39 [.slice none 0 0, .int .i64 0], I3] (fun W hm => hm) type39 ?_
 refine nt' (CM_seq (sr (wa (nt' (CM_block ?_)))))
 refine CM_items (fun W hm => (hm.addNil (E := (tSl tyVersion 142)) (e := 122)).last) ?_
 let F1 := fun k (s : (List (List DVersion))) => spec_l7Copy_b1 x0 k s
 let R2 := rng (R := DStore) F1
 refine CM_loop (σ := Nat × ((List (List DVersion))) × (Option Addr × Nat)) (fun s => [(1, .pointer (some (⟨p9, 0, none⟩ : Addr))), (2, .pointer (some (⟨p10, 0, none⟩ : Addr))), (3, .pointer (some (⟨p11, 0, none⟩ : Addr))), (4, .int .i64 ((s.1 : Nat) : Int))]) (fun s => [iBox p11 39 [.slice s.2.2.1 s.2.1.length s.2.2.2, .int .i64 x0.Now], iBox p10 39 [.slice none 0 0, .int .i64 0], I3, iOwn (tSl (tSl tyVersion 142) 122) [.slice s.2.2.1 s.2.1.length s.2.2.2] s.2.1]) (fun s => s.1 ≤ x0.Segments.length ∧ R2 (x0.Segments.length - s.1) s.1 s.2.1 = R2 (x0.Segments.length - 0) 0 [] ∧ s.2.1.length ≤ 0 + s.1) (fun s => x0.Segments.length - s.1) (0, [], (none, 0)) sl4 (fun W hm => hm) ⟨(by omega), rfl, Nat.le_refl _⟩ ?_
 rintro ⟨k12, d15, ⟨A16, c17⟩⟩ H20
 obtain ⟨hk18, hF19, hi21⟩ : k12 ≤ x0.Segments.length ∧ R2 (x0.Segments.length - k12) k12 d15 = R2 (x0.Segments.length - 0) 0 [] ∧ d15.length ≤ 0 + k12 := H20
 let I4 : It := iBox p11 39 [.slice A16 d15.length c17, .int .i64 x0.Now]
 let I5 : It := iOwn (tSl (tSl tyVersion 142) 122) [.slice A16 d15.length c17] d15
 show CM Tryz.prog 27 _ _ _ _ [(1, .pointer (some (⟨p9, 0, none⟩ : Addr))), (2, .pointer (some (⟨p10, 0, none⟩ : Addr))), (3, .pointer (some (⟨p11, 0, none⟩ : Addr))), (4, .int .i64 ((k12 : Nat) : Int))] [I4, iBox p10 39 [.slice none 0 0, .int .i64 0], I3, I5]
 refine CM_seq (sr (wm ?_))
 refine wv (vf underlying39 rfl type37) ?_
 refine wv (vl 2 0 underlying37) ?_
 refine wv (vlen underlying37) ?_
 refine wv vlss ?_
 refine nt' ?_
 by_cases hl22 : k12 < x0.Segments.length
 ·have g23 : (decide (((k12 : Nat) : Int) < ((x0.Segments.length : Nat) : Int))) = true := decide_eq_true (by omega)
  refine CM_condT rfl g23 ?_
  refine CM_skip (QM_then (CM_seq (CM_block ?_)))
  obtain ⟨a24, rfl, hb25, he26⟩ := q6 (by omega)
  obtain ⟨_, e28, hc27⟩ := he26 k12 _ (gt_some (show k12 < x0.Segments.length from by omega))
  have l29 : (gt x0.Segments k12).length ≤ 68719476736 := (s_0.2 _ (gt_mem (show k12 < x0.Segments.length from by omega))).1
  obtain ⟨v30, rfl, r31⟩ := e28
  have r36 := r31
  obtain ⟨m32, A33, c34, rfl, q35⟩ := r31
  let I6 : It := iBox p9 39 [.slice (some a24) x0.Segments.length c5, .int .i64 x0.Now]
  refine CM_cut (σ := Option Addr × Nat) (fun s => [(1, .pointer (some (⟨p9, 0, none⟩ : Addr))), (2, .pointer (some (⟨p10, 0, none⟩ : Addr))), (3, .pointer (some (⟨p11, 0, none⟩ : Addr))), (4, .int .i64 ((k12 : Nat) : Int))]) (fun s => [iBox p11 39 [.slice s.1 (d15 ++ [(gt x0.Segments k12)]).length s.2, .int .i64 x0.Now], iOwn (tSl (tSl tyVersion 142) 122) [.slice s.1 (d15 ++ [(gt x0.Segments k12)]).length s.2] (d15 ++ [(gt x0.Segments k12)]), iBox p10 39 [.slice none 0 0, .int .i64 0], I6]) (fun _ => True) ?_ ?_
  ·
   refine rb 12 (s := [iBox p10 39 [.slice none 0 0, .int .i64 0]]) (pk [1]) ?_
   refine qt 12 0 1 rfl (vf underlying39 rfl type37) ?_
   refine qt 12 2 5 rfl (vf underlying39 rfl type37) ?_
   refine qt 12 4 21 rfl vmv ?_
   refine qa [1, 3] ?_
   refine qc 12 23 rfl ?_ ?_
   ·
    refine wv (vl 0 0 underlying37) ?_
    refine qn (pk [1]) ?_
    refine qo 12 3 31 rfl ?_
    refine wv (vl 2 0 underlying37) ?_
    refine qn (pk [1]) ?_
    refine qt 12 5 63 rfl (vix 1 k12 underlying37 type122) ?_
    refine qt 12 6 127 rfl (fun W hm => rv_load underlying122 rfl rfl ((hm.cell0 (show (a24.add (k12 * 1)).block < w.heap.size from by rw [add_block]; exact hb25.1)).trans (hc27 0 _ rfl))) ?_
    refine qo 12 7 255 rfl ?_
    refine wcl (tSl tyVersion 142) (gt x0.Segments k12) (cl_fn cb90 rfl) (fun W hm => spec_l7Part_c2 W _ (gt x0.Segments k12) (hm.rdS0 r36) (s_0.2 _ (gt_mem (show k12 < x0.Segments.length from by omega)))) (fun z48 => ?_)
    refine WM_form (n := 0) rfl ?_
    rintro A49 c50 rfl m51
    refine qn (pk [2]) ?_
    refine qo 12 8 511 rfl ?_
    refine WM_build (cs := [.slice A49 (gt x0.Segments k12).length c50]) underlying37 type122 rfl (by decide) (by decide) rfl (by kernel_rfl) (Wd_none rfl) (by decide) (fun p53 => ?_)
    refine qn (pk [3]) ?_
    refine qo 12 9 1023 rfl ?_
    refine ap1 (tSl tyVersion 142) 122 (.slice A16 d15.length c17) d15 (gt x0.Segments k12) [iOwn (tSl tyVersion 142) [.slice A49 (gt x0.Segments k12).length c50] (gt x0.Segments k12)] [I4, iBox p10 39 [.slice none 0 0, .int .i64 0], I6] [.slice A49 (gt x0.Segments k12).length c50] (pk [0, 5, 1, 2, 3, 4]) (fun _ _ hs => Els.single (Sep.one hs)) underlying37 type122 (show (d15.length + 1) * 24 ≤ 140737488355328 from by omega) (fun v54 => ?_)
    refine WM_form (n := 0) rfl ?_
    rintro A55 c56 rfl m57
    refine qn (pk [2]) ?_
    refine qt 12 10 2047 rfl (vf underlying39 rfl type37) ?_
    refine qo 12 11 4095 rfl ?_
    refine sb 0 [.slice A55 (d15 ++ [(gt x0.Segments k12)]).length c56, .int .i64 x0.Now] [iOwn (tSl (tSl tyVersion 142) 122) [.slice A55 (d15 ++ [(gt x0.Segments k12)]).length c56] (d15 ++ [(gt x0.Segments k12)]), iBox p10 39 [.slice none 0 0, .int .i64 0], I6] (pk [1, 0, 2, 3]) type37 ?_
    refine qn (pk [2]) ?_
    refine QB_done (by kernel_rfl) ?_
    exact QM_cut_normal (A55, c56) sl4 (fun W hm => hm) trivial
   refine qc 12 29 rfl ?_ ?_
   ·
    refine wv (vl 2 0 underlying37) ?_
    refine qn (pk [1]) ?_
    refine qt 12 5 61 rfl (vix 1 k12 underlying37 type122) ?_
    refine qt 12 6 125 rfl (fun W hm => rv_load underlying122 rfl rfl ((hm.cell0 (show (a24.add (k12 * 1)).block < w.heap.size from by rw [add_block]; exact hb25.1)).trans (hc27 0 _ rfl))) ?_
    refine qa [1, 7] ?_
    refine qc 12 127 rfl ?_ ?_
    ·
     refine wv (vl 0 0 underlying37) ?_
     refine qn (pk [1]) ?_
     refine qo 12 7 255 rfl ?_
     refine wcl (tSl tyVersion 142) (gt x0.Segments k12) (cl_fn cb90 rfl) (fun W hm => spec_l7Part_c2 W _ (gt x0.Segments k12) (hm.rdS0 r36) (s_0.2 _ (gt_mem (show k12 < x0.Segments.length from by omega)))) (fun z59 => ?_)
     refine WM_form (n := 0) rfl ?_
     rintro A60 c61 rfl m62
     refine qn (pk [2]) ?_
     refine qo 12 8 511 rfl ?_
     refine WM_build (cs := [.slice A60 (gt x0.Segments k12).length c61]) underlying37 type122 rfl (by decide) (by decide) rfl (by kernel_rfl) (Wd_none rfl) (by decide) (fun p64 => ?_)
     refine qn (pk [3]) ?_
     refine qo 12 9 1023 rfl ?_
     refine ap1 (tSl tyVersion 142) 122 (.slice A16 d15.length c17) d15 (gt x0.Segments k12) [iOwn (tSl tyVersion 142) [.slice A60 (gt x0.Segments k12).length c61] (gt x0.Segments k12)] [I4, iBox p10 39 [.slice none 0 0, .int .i64 0], I6] [.slice A60 (gt x0.Segments k12).length c61] (pk [0, 5, 1, 2, 3, 4]) (fun _ _ hs => Els.single (Sep.one hs)) underlying37 type122 (show (d15.length + 1) * 24 ≤ 140737488355328 from by omega) (fun v65 => ?_)
     refine WM_form (n := 0) rfl ?_
     rintro A66 c67 rfl m68
     refine qn (pk [2]) ?_
     refine qt 12 10 2047 rfl (vf underlying39 rfl type37) ?_
     refine qo 12 11 4095 rfl ?_
     refine sb 0 [.slice A66 (d15 ++ [(gt x0.Segments k12)]).length c67, .int .i64 x0.Now] [iOwn (tSl (tSl tyVersion 142) 122) [.slice A66 (d15 ++ [(gt x0.Segments k12)]).length c67] (d15 ++ [(gt x0.Segments k12)]), iBox p10 39 [.slice none 0 0, .int .i64 0], I6] (pk [1, 0, 2, 3]) type37 ?_
     refine qn (pk [2]) ?_
     refine QB_done (by kernel_rfl) ?_
     exact QM_cut_normal (A66, c67) sl4 (fun W hm => hm) trivial
    refine qc 12 253 rfl ?_ ?_
    ·
     refine wcl (tSl tyVersion 142) (gt x0.Segments k12) (cl_fn cb90 rfl) (fun W hm => spec_l7Part_c2 W _ (gt x0.Segments k12) (hm.rdS0 r36) (s_0.2 _ (gt_mem (show k12 < x0.Segments.length from by omega)))) (fun z70 => ?_)
     refine WM_form (n := 0) rfl ?_
     rintro A71 c72 rfl m73
     refine qn (pk [2]) ?_
     refine qa [1, 8] ?_
     refine qc 12 255 rfl ?_ ?_
     ·
      refine wv (vl 1 0 underlying37) ?_
      refine qn (pk [2]) ?_
      refine qo 12 8 511 rfl ?_
      refine WM_build (cs := [.slice A71 (gt x0.Segments k12).length c72]) underlying37 type122 rfl (by decide) (by decide) rfl (by kernel_rfl) (Wd_none rfl) (by decide) (fun p75 => ?_)
      refine qn (pk [3]) ?_
      refine qo 12 9 1023 rfl ?_
      refine ap1 (tSl tyVersion 142) 122 (.slice A16 d15.length c17) d15 (gt x0.Segments k12) [iOwn (tSl tyVersion 142) [.slice A71 (gt x0.Segments k12).length c72] (gt x0.Segments k12)] [I4, iBox p10 39 [.slice none 0 0, .int .i64 0], I6] [.slice A71 (gt x0.Segments k12).length c72] (pk [0, 5, 1, 2, 3, 4]) (fun _ _ hs => Els.single (Sep.one hs)) underlying37 type122 (show (d15.length + 1) * 24 ≤ 140737488355328 from by omega) (fun v76 => ?_)
      refine WM_form (n := 0) rfl ?_
      rintro A77 c78 rfl m79
      refine qn (pk [2]) ?_
      refine qt 12 10 2047 rfl (vf underlying39 rfl type37) ?_
      refine qo 12 11 4095 rfl ?_
      refine sb 0 [.slice A77 (d15 ++ [(gt x0.Segments k12)]).length c78, .int .i64 x0.Now] [iOwn (tSl (tSl tyVersion 142) 122) [.slice A77 (d15 ++ [(gt x0.Segments k12)]).length c78] (d15 ++ [(gt x0.Segments k12)]), iBox p10 39 [.slice none 0 0, .int .i64 0], I6] (pk [1, 0, 2, 3]) type37 ?_
      refine qn (pk [2]) ?_
      refine QB_done (by kernel_rfl) ?_
      exact QM_cut_normal (A77, c78) sl4 (fun W hm => hm) trivial
     refine qc 12 509 rfl ?_ ?_
     ·
      refine WM_build (cs := [.slice A71 (gt x0.Segments k12).length c72]) underlying37 type122 rfl (by decide) (by decide) rfl (by kernel_rfl) (Wd_none rfl) (by decide) (fun p81 => ?_)
      refine qn (pk [3]) ?_
      refine qo 12 1 511 rfl ?_
      refine wv (vl 2 0 underlying37) ?_
      refine qn (pk [3]) ?_
      refine qo 12 9 1023 rfl ?_
      refine ap1 (tSl tyVersion 142) 122 (.slice A16 d15.length c17) d15 (gt x0.Segments k12) [iOwn (tSl tyVersion 142) [.slice A71 (gt x0.Segments k12).length c72] (gt x0.Segments k12)] [I4, iBox p10 39 [.slice none 0 0, .int .i64 0], I6] [.slice A71 (gt x0.Segments k12).length c72] (pk [0, 5, 1, 2, 3, 4]) (fun _ _ hs => Els.single (Sep.one hs)) underlying37 type122 (show (d15.length + 1) * 24 ≤ 140737488355328 from by omega) (fun v82 => ?_)
      refine WM_form (n := 0) rfl ?_
      rintro A83 c84 rfl m85
      refine qn (pk [2]) ?_
      refine qt 12 10 2047 rfl (vf underlying39 rfl type37) ?_
      refine qo 12 11 4095 rfl ?_
      refine sb 0 [.slice A83 (d15 ++ [(gt x0.Segments k12)]).length c84, .int .i64 x0.Now] [iOwn (tSl (tSl tyVersion 142) 122) [.slice A83 (d15 ++ [(gt x0.Segments k12)]).length c84] (d15 ++ [(gt x0.Segments k12)]), iBox p10 39 [.slice none 0 0, .int .i64 0], I6] (pk [1, 0, 2, 3]) type37 ?_
      refine qn (pk [2]) ?_
      refine QB_done (by kernel_rfl) ?_
      exact QM_cut_normal (A83, c84) sl4 (fun W hm => hm) trivial
     exact QBs_nil
    exact QBs_nil
   exact QBs_nil
  ·
   rintro ⟨A44, c45⟩ -
   show QM 27 _ _ _ .normal [(1, .pointer (some (⟨p9, 0, none⟩ : Addr))), (2, .pointer (some (⟨p10, 0, none⟩ : Addr))), (3, .pointer (some (⟨p11, 0, none⟩ : Addr))), (4, .int .i64 ((k12 : Nat) : Int))] [iBox p11 39 [.slice A44 (d15 ++ [(gt x0.Segments k12)]).length c45, .int .i64 x0.Now], iOwn (tSl (tSl tyVersion 142) 122) [.slice A44 (d15 ++ [(gt x0.Segments k12)]).length c45] (d15 ++ [(gt x0.Segments k12)]), iBox p10 39 [.slice none 0 0, .int .i64 0], I6]
   refine QM_len (n := 1) rfl ?_
   intro m87 m88
   refine QM_block_normal (QM_then (CM_region (wm ?_)))
   refine wv (vadN k12 1 (by omega)) ?_
   refine wa (WM_nil ?_)
   have hn89 := rng_next (R := DStore) (body := F1) (k := k12) (s := d15) (s' := (d15 ++ [(gt x0.Segments k12)])) (show k12 < x0.Segments.length from by omega) (show spec_l7Copy_b1 x0 k12 d15 = Sum.inr (d15 ++ [(gt x0.Segments k12)]) from by unfold spec_l7Copy_b1; exact rfl) hF19
   exact QM_round (k12 + 1, (d15 ++ [(gt x0.Segments k12)]), (A44, c45)) sl4 (pk [0, 2, 3, 1]) ⟨(by omega), hn89, (show (d15 ++ [(gt x0.Segments k12)]).length ≤ 0 + (k12 + 1) from by first | omega | (simp only [List.length_append, List.length_cons, List.length_nil] at *; omega))⟩ (rl (by omega))
 ·have g23 : (decide (((k12 : Nat) : Int) < ((x0.Segments.length : Nat) : Int))) = false := decide_eq_false (by omega)
  refine CM_condF rfl g23 ?_
  refine CM_exit (QM_then_exit (QM_then_exit ?_))
  have hE90 : R2 (x0.Segments.length - 0) 0 [] = Sum.inr d15 := rng_end hl22 hF19
  refine QM_block_hit (QM_then (sr ?_))
  refine wv (fun W hm => rv_loadN (cs := [.slice A16 d15.length c17, .int .i64 x0.Now]) underlying39 type39 rfl rfl (hm.boxCells (n := 0) rfl)) ?_
  refine sb 0 [.slice A16 d15.length c17, .int .i64 x0.Now] [I4, I3, I5] (pk [1, 0, 2, 3]) type39 ?_
  refine nt' (CM_ret ?_)
  refine QM_r1 rfl (RR_cell (n := 0) rfl rfl underlying39 type39 rfl) (fun W hm => ⟨[.slice A16 d15.length c17, .int .i64 x0.Now], ?_, ?_⟩)
  ·first | rw [(show spec_l7Copy_m x0 = (⟨d15, x0.Now⟩ : DStore) from by unfold spec_l7Copy_m; exact fin_inr hE90 (rfl))] | rfl
  ·rw [(show spec_l7Copy_m x0 = (⟨d15, x0.Now⟩ : DStore) from by unfold spec_l7Copy_m; exact fin_inr hE90 (rfl))]; exact Mem.join (is := [I5]) (js := []) (fun _ _ hs => tyStore_join (x := (⟨d15, x0.Now⟩ : DStore)) hs) (hm.pick [3] (by decide))
theorem spec_l7Copy_eq (x0 : DStore) : spec_l7Copy_m x0 = x0 := by
 unfold spec_l7Copy_m; rw [rng_app (xs := x0.Segments) (b := fun k s => spec_l7Copy_b1 x0 k s) (fun _ _ => rfl)]; rfl
theorem spec_l7Copy_c2 (w : World) (z0 : List Value) (x0 : DStore) (r_0 : tyStore.rd w w.heap.size z0 x0) (s_0 : smStore 68719476736 x0) :
  Calls Tryz.prog 62 #[.agg z0.toArray] w fun e w' => ∃ v : List Value, e = .returned (.agg v.toArray) ∧ Mem w.heap.size w [iOwn tyStore v x0] w' := by
 have h := spec_l7Copy_c w z0 x0 r_0 s_0
 rw [spec_l7Copy_eq] at h
 exact h

def spec_l6Query_m (x0 : DQuery) : DQuery :=
 x0
theorem cb43 : Cb Tryz.prog 43 := ⟨f43, _, func43, rfl, by decide⟩
theorem spec_l6Query_c (w : World) (z0 : List Value) (x0 : DQuery) (r_0 : tyQuery.rd w w.heap.size z0 x0) (s_0 : smQuery 68719476736 x0) :
  Calls Tryz.prog 43 #[.agg z0.toArray] w fun e w' => ∃ v : List Value, e = .returned (.agg v.toArray) ∧ Mem w.heap.size w [iOwn tyQuery v (spec_l6Query_m x0)] w' := by
 obtain ⟨v1, v3, rfl, r2, r4⟩ := tyQuery_rd r_0
 have r9 := r2
 obtain ⟨m5, A6, c7, rfl, q8⟩ := r2
 have r14 := r4
 obtain ⟨m10, A11, c12, rfl, q13⟩ := r4
 have l15 : x0.Conds.length ≤ 68719476736 := s_0.1
 have l16 : x0.Out.length ≤ 68719476736 := s_0.2
 refine ce1 (L := [(0, .agg #[.int .i64 x0.Id, .int .i64 x0.Tenant, .slice A6 x0.Conds.length c7, .slice A11 x0.Out.length c12])]) (N := 16) func43 ?_
 refine sr ?_
 refine WM_box rfl (Wd_none rfl) (by decide) (fun p17 => ?_)
 refine WM_alloc type48 rfl (Wd_none rfl) (by decide) (fun p18 => ?_)
 refine nt' (CM_seq ?_)
 let K1 : List Value := [.int .i64 x0.Id, .int .i64 x0.Tenant, .slice A6 x0.Conds.length c7, .slice A11 x0.Out.length c12]
 refine CM_cut (σ := Option Addr × Nat × Option Addr × Nat) (fun s => [(2, .pointer (some (⟨p18, 0, none⟩ : Addr)))]) (fun s => [iBox p18 48 [.int .i64 x0.Id, .int .i64 x0.Tenant, .slice s.1 x0.Conds.length s.2.1, .slice s.2.2.1 x0.Out.length s.2.2.2], iOwn (tSl tInt 3) [.slice s.2.2.1 x0.Out.length s.2.2.2] x0.Out, iOwn (tSl tyCond 102) [.slice s.1 x0.Conds.length s.2.1] x0.Conds, iBox p17 48 K1]) (fun _ => True) ?_ ?_
 ·
  refine rb 14 (s := [iBox p17 48 K1]) (pk [1]) ?_
  refine qt 14 0 1 rfl (vf underlying48 rfl type3) ?_
  refine qt 14 1 3 rfl (vl 0 0 underlying3) ?_
  refine qt 14 2 7 rfl (vf underlying48 rfl type3) ?_
  refine qt 14 3 15 rfl (vl 0 1 underlying3) ?_
  refine qt 14 5 47 rfl (vf underlying48 rfl type46) ?_
  refine qt 14 6 111 rfl (vl 0 2 underlying46) ?_
  refine qt 14 9 623 rfl (vf underlying48 rfl type25) ?_
  refine qt 14 10 1647 rfl (vl 0 3 underlying25) ?_
  refine qa [4, 8] ?_
  refine qc 14 1663 rfl ?_ ?_
  ·
   refine WM_build0 (E := tyCond) underlying46 type102 (Wd_none rfl) (by decide) (fun p33 => ?_)
   refine qn (pk [2]) ?_
   refine qa [7, 8] ?_
   refine qc 14 1791 rfl ?_ ?_
   ·
    let K2 : List Value := [.int .i64 0, .int .i64 0, .slice none 0 0, .slice none 0 0]
    refine apR tyCond tyCond 102 (.slice (some ⟨p33, 0, none⟩) 0 0) [] x0.Conds [iBox p18 48 K2, iBox p17 48 K1] (fun W hm => hm) (fun W hm => src_flat (flat_map (flat_pair flat_int (flat_pair flat_int flat_int))) (hm.rdS0 r9)) underlying46 type102 (show (0 + x0.Conds.length) * 24 ≤ 140737488355328 from by omega) (fun v35 => ?_)
    refine WM_form (n := 0) rfl ?_
    rintro A36 c37 rfl m38
    refine qn (pk [2]) ?_
    refine qo 14 8 2047 rfl ?_
    refine WM_build0 (E := tInt) underlying25 type3 (Wd_none rfl) (by decide) (fun p40 => ?_)
    refine qn (pk [3]) ?_
    refine qo 14 11 4095 rfl ?_
    let I9 : It := iOwn (tSl tyCond 102) [.slice A36 x0.Conds.length c37] x0.Conds
    refine apR tInt tInt 3 (.slice (some ⟨p40, 0, none⟩) 0 0) [] x0.Out [I9, iBox p18 48 K2, iBox p17 48 K1] (fun W hm => hm) (fun W hm => src_flat flat_int (hm.rdS0 r14)) underlying25 type3 (show (0 + x0.Out.length) * 8 ≤ 140737488355328 from by omega) (fun v42 => ?_)
    refine WM_form (n := 0) rfl ?_
    rintro A43 c44 rfl m45
    refine qn (pk [3]) ?_
    let K3 : List Value := [.int .i64 x0.Id, .int .i64 x0.Tenant, .slice A36 x0.Conds.length c37, .slice A43 x0.Out.length c44]
    refine qt 14 12 8191 rfl (fun W hm => rv_build (cs := K3) rfl (by kernel_rfl)) ?_
    refine qo 14 13 16383 rfl ?_
    refine sb 0 K3 [iOwn (tSl tInt 3) [.slice A43 x0.Out.length c44] x0.Out, I9, iBox p17 48 K1] (pk [2, 0, 1, 3]) type48 ?_
    refine qn (pk [3]) ?_
    refine QB_done (by kernel_rfl) ?_
    exact QM_cut_normal (A36, c37, A43, c44) (subL_cons rfl subL_nil) (fun W hm => hm) trivial
   refine qc 14 1919 rfl ?_ ?_
   ·
    refine WM_build0 (E := tInt) underlying25 type3 (Wd_none rfl) (by decide) (fun p47 => ?_)
    refine qn (pk [3]) ?_
    refine qo 14 7 2047 rfl ?_
    let K4 : List Value := [.int .i64 0, .int .i64 0, .slice none 0 0, .slice none 0 0]
    refine apR tyCond tyCond 102 (.slice (some ⟨p33, 0, none⟩) 0 0) [] x0.Conds [iOwn (tSl tInt 3) [.slice (some ⟨p47, 0, none⟩) 0 0] [], iBox p18 48 K4, iBox p17 48 K1] (pk [1, 0, 2, 3]) (fun W hm => src_flat (flat_map (flat_pair flat_int (flat_pair flat_int flat_int))) (hm.rdS0 r9)) underlying46 type102 (show (0 + x0.Conds.length) * 24 ≤ 140737488355328 from by omega) (fun v49 => ?_)
    refine WM_form (n := 0) rfl ?_
    rintro A50 c51 rfl m52
    refine qn (pk [3]) ?_
    refine qo 14 11 4095 rfl ?_
    let I10 : It := iOwn (tSl tyCond 102) [.slice A50 x0.Conds.length c51] x0.Conds
    refine apR tInt tInt 3 (.slice (some ⟨p47, 0, none⟩) 0 0) [] x0.Out [I10, iBox p18 48 K4, iBox p17 48 K1] (pk [1, 0, 2, 3]) (fun W hm => src_flat flat_int (hm.rdS0 r14)) underlying25 type3 (show (0 + x0.Out.length) * 8 ≤ 140737488355328 from by omega) (fun v54 => ?_)
    refine WM_form (n := 0) rfl ?_
    rintro A55 c56 rfl m57
    refine qn (pk [3]) ?_
    let K5 : List Value := [.int .i64 x0.Id, .int .i64 x0.Tenant, .slice A50 x0.Conds.length c51, .slice A55 x0.Out.length c56]
    refine qt 14 12 8191 rfl (fun W hm => rv_build (cs := K5) rfl (by kernel_rfl)) ?_
    refine qo 14 13 16383 rfl ?_
    refine sb 0 K5 [iOwn (tSl tInt 3) [.slice A55 x0.Out.length c56] x0.Out, I10, iBox p17 48 K1] (pk [2, 0, 1, 3]) type48 ?_
    refine qn (pk [3]) ?_
    refine QB_done (by kernel_rfl) ?_
    exact QM_cut_normal (A50, c51, A55, c56) (subL_cons rfl subL_nil) (fun W hm => hm) trivial
   exact QBs_nil
  refine qc 14 1903 rfl ?_ ?_
  ·
   refine WM_build0 (E := tInt) underlying25 type3 (Wd_none rfl) (by decide) (fun p59 => ?_)
   refine qn (pk [2]) ?_
   refine qo 14 4 1919 rfl ?_
   refine WM_build0 (E := tyCond) underlying46 type102 (Wd_none rfl) (by decide) (fun p61 => ?_)
   refine qn (pk [3]) ?_
   refine qo 14 7 2047 rfl ?_
   let K6 : List Value := [.int .i64 0, .int .i64 0, .slice none 0 0, .slice none 0 0]
   refine apR tyCond tyCond 102 (.slice (some ⟨p61, 0, none⟩) 0 0) [] x0.Conds [iOwn (tSl tInt 3) [.slice (some ⟨p59, 0, none⟩) 0 0] [], iBox p18 48 K6, iBox p17 48 K1] (fun W hm => hm) (fun W hm => src_flat (flat_map (flat_pair flat_int (flat_pair flat_int flat_int))) (hm.rdS0 r9)) underlying46 type102 (show (0 + x0.Conds.length) * 24 ≤ 140737488355328 from by omega) (fun v63 => ?_)
   refine WM_form (n := 0) rfl ?_
   rintro A64 c65 rfl m66
   refine qn (pk [3]) ?_
   refine qo 14 11 4095 rfl ?_
   let I11 : It := iOwn (tSl tyCond 102) [.slice A64 x0.Conds.length c65] x0.Conds
   refine apR tInt tInt 3 (.slice (some ⟨p59, 0, none⟩) 0 0) [] x0.Out [I11, iBox p18 48 K6, iBox p17 48 K1] (pk [1, 0, 2, 3]) (fun W hm => src_flat flat_int (hm.rdS0 r14)) underlying25 type3 (show (0 + x0.Out.length) * 8 ≤ 140737488355328 from by omega) (fun v68 => ?_)
   refine WM_form (n := 0) rfl ?_
   rintro A69 c70 rfl m71
   refine qn (pk [3]) ?_
   let K7 : List Value := [.int .i64 x0.Id, .int .i64 x0.Tenant, .slice A64 x0.Conds.length c65, .slice A69 x0.Out.length c70]
   refine qt 14 12 8191 rfl (fun W hm => rv_build (cs := K7) rfl (by kernel_rfl)) ?_
   refine qo 14 13 16383 rfl ?_
   refine sb 0 K7 [iOwn (tSl tInt 3) [.slice A69 x0.Out.length c70] x0.Out, I11, iBox p17 48 K1] (pk [2, 0, 1, 3]) type48 ?_
   refine qn (pk [3]) ?_
   refine QB_done (by kernel_rfl) ?_
   exact QM_cut_normal (A64, c65, A69, c70) (subL_cons rfl subL_nil) (fun W hm => hm) trivial
  exact QBs_nil
 ·
  rintro ⟨A22, c23, A29, c30⟩ -
  let K8 : List Value := [.int .i64 x0.Id, .int .i64 x0.Tenant, .slice A22 x0.Conds.length c23, .slice A29 x0.Out.length c30]
  let I12 : It := iOwn (tSl tInt 3) [.slice A29 x0.Out.length c30] x0.Out
  let I13 : It := iOwn (tSl tyCond 102) [.slice A22 x0.Conds.length c23] x0.Conds
  show QM 16 _ _ _ .normal [(2, .pointer (some (⟨p18, 0, none⟩ : Addr)))] [iBox p18 48 K8, I12, I13, iBox p17 48 K1]
  refine QM_len (n := 1) rfl ?_
  intro m73 m74
  refine QM_len (n := 2) rfl ?_
  intro m75 m76
  refine QM_then (CM_ret ?_)
  refine QM_r1 rfl (RR_cell (n := 0) rfl rfl underlying48 type48 rfl) (fun W hm => ⟨K8, ?_, ?_⟩)
  ·first | rw [(show spec_l6Query_m x0 = x0 from by unfold spec_l6Query_m; exact rfl)] | rfl
  ·rw [(show spec_l6Query_m x0 = x0 from by unfold spec_l6Query_m; exact rfl)]; exact Mem.join (is := [I13, I12]) (js := []) (fun _ _ hs => tyQuery_join (x := x0) hs) (hm.pick [2, 1] (by decide))
theorem spec_l6Query_eq (x0 : DQuery) : spec_l6Query_m x0 = x0 := by
 rfl
theorem spec_l6Query_c2 (w : World) (z0 : List Value) (x0 : DQuery) (r_0 : tyQuery.rd w w.heap.size z0 x0) (s_0 : smQuery 68719476736 x0) :
  Calls Tryz.prog 43 #[.agg z0.toArray] w fun e w' => ∃ v : List Value, e = .returned (.agg v.toArray) ∧ Mem w.heap.size w [iOwn tyQuery v x0] w' := by
 have h := spec_l6Query_c w z0 x0 r_0 s_0
 rw [spec_l6Query_eq] at h
 exact h

def spec_l3Copy_m (x0 : DRow) : DRow :=
 x0
theorem cb91 : Cb Tryz.prog 91 := ⟨f91, _, func91, rfl, by decide⟩
theorem spec_l3Copy_c (w : World) (z0 : List Value) (x0 : DRow) (r_0 : tyRow.rd w w.heap.size z0 x0) (s_0 : smRow 68719476736 x0) :
  Calls Tryz.prog 91 #[.agg z0.toArray] w fun e w' => ∃ v : List Value, e = .returned (.agg v.toArray) ∧ Mem w.heap.size w [iOwn tyRow v (spec_l3Copy_m x0)] w' := by
 obtain ⟨v1, rfl, r2⟩ := tyRow_rd r_0
 have r7 := r2
 obtain ⟨m3, A4, c5, rfl, q6⟩ := r2
 have l8 : x0.Values.length ≤ 68719476736 := s_0
 refine ce1 (L := [(0, .agg #[.int .i64 x0.Id, .slice A4 x0.Values.length c5])]) (N := 10) func91 ?_
 refine sr ?_
 refine WM_box rfl (Wd_none rfl) (by decide) (fun p9 => ?_)
 refine WM_alloc type138 rfl (Wd_none rfl) (by decide) (fun p10 => ?_)
 refine nt' (CM_seq ?_)
 let I1 : It := iBox p9 138 [.int .i64 x0.Id, .slice A4 x0.Values.length c5]
 refine rb 8 (s := [I1]) (pk [1]) ?_
 refine qt 8 0 1 rfl (vf underlying138 rfl type3) ?_
 refine qt 8 1 3 rfl (vl 0 0 underlying3) ?_
 refine qt 8 3 11 rfl (vf underlying138 rfl type25) ?_
 refine qt 8 4 27 rfl (vl 0 1 underlying25) ?_
 refine qo 8 2 31 rfl ?_
 refine WM_build0 (E := tInt) underlying25 type3 (Wd_none rfl) (by decide) (fun p11 => ?_)
 refine qn (pk [2]) ?_
 refine qo 8 5 63 rfl ?_
 refine apR tInt tInt 3 (.slice (some ⟨p11, 0, none⟩) 0 0) [] x0.Values [iBox p10 138 [.int .i64 0, .slice none 0 0], I1] (fun W hm => hm) (fun W hm => src_flat flat_int (hm.rdS0 r7)) underlying25 type3 (show (0 + x0.Values.length) * 8 ≤ 140737488355328 from by omega) (fun v13 => ?_)
 refine WM_form (n := 0) rfl ?_
 rintro A14 c15 rfl m16
 refine qn (pk [2]) ?_
 refine qt 8 6 127 rfl (fun W hm => rv_build (cs := [.int .i64 x0.Id, .slice A14 x0.Values.length c15]) rfl (by kernel_rfl)) ?_
 refine qo 8 7 255 rfl ?_
 let I2 : It := iOwn (tSl tInt 3) [.slice A14 x0.Values.length c15] x0.Values
 refine sb 0 [.int .i64 x0.Id, .slice A14 x0.Values.length c15] [I2, I1] (pk [1, 0, 2]) type138 ?_
 refine qn (pk [2]) ?_
 refine QB_done (by kernel_rfl) ?_
 refine QM_then (CM_ret ?_)
 refine QM_r1 rfl (RR_cell (n := 0) rfl rfl underlying138 type138 rfl) (fun W hm => ⟨[.int .i64 x0.Id, .slice A14 x0.Values.length c15], ?_, ?_⟩)
 ·first | rw [(show spec_l3Copy_m x0 = x0 from by unfold spec_l3Copy_m; exact rfl)] | rfl
 ·rw [(show spec_l3Copy_m x0 = x0 from by unfold spec_l3Copy_m; exact rfl)]; exact Mem.join (is := [I2]) (js := []) (fun _ _ hs => tyRow_join (x := x0) hs) (hm.pick [1] (by decide))
theorem spec_l3Copy_eq (x0 : DRow) : spec_l3Copy_m x0 = x0 := by
 rfl
theorem spec_l3Copy_c2 (w : World) (z0 : List Value) (x0 : DRow) (r_0 : tyRow.rd w w.heap.size z0 x0) (s_0 : smRow 68719476736 x0) :
  Calls Tryz.prog 91 #[.agg z0.toArray] w fun e w' => ∃ v : List Value, e = .returned (.agg v.toArray) ∧ Mem w.heap.size w [iOwn tyRow v x0] w' := by
 have h := spec_l3Copy_c w z0 x0 r_0 s_0
 rw [spec_l3Copy_eq] at h
 exact h

def spec_l9Rows_b1 (x0 : (List DRow)) (k9 : Nat) (d10 : (List DRow)) : (List DRow) ⊕ ((List DRow)) :=
 Sum.inr (d10 ++ [(gt x0 k9)])
def spec_l9Rows_m (x0 : (List DRow)) : (List DRow) :=
 Sum.elim id (fun (s : (List DRow)) => s) (rng (R := (List DRow)) (fun k (s : (List DRow)) => spec_l9Rows_b1 x0 k s) (x0.length - 0) 0 [])
theorem cb63 : Cb Tryz.prog 63 := ⟨f63, _, func63, rfl, by decide⟩
theorem spec_l9Rows_c (w : World) (z0 : Value) (x0 : (List DRow)) (r_0 : rdS tyRow w w.heap.size z0 x0) (s_0 : (x0.length ≤ 68719476736 ∧ ∀ y ∈ x0, smRow 68719476736 y)) :
  Calls Tryz.prog 63 #[z0] w fun e w' => ∃ v : Value, e = .returned (v) ∧ Mem w.heap.size w [iOwn (tSl tyRow 138) [v] (spec_l9Rows_m x0)] w' := by
 have r5 := r_0
 obtain ⟨m1, A2, c3, rfl, q4⟩ := r_0
 have l6 : x0.length ≤ 68719476736 := s_0.1
 refine ce1 (L := [(0, .slice A2 x0.length c3)]) (N := 21) func63 ?_
 refine sr (wa (nt' (sr ?_)))
 refine WM_build0 (E := tyRow) underlying91 type138 (Wd_none rfl) (by decide) (fun p7 => ?_)
 refine wa (nt' (CM_seq (sr (wa (nt' (CM_block ?_))))))
 let F1 := fun k (s : (List DRow)) => spec_l9Rows_b1 x0 k s
 let R2 := rng (R := (List DRow)) F1
 refine CM_loop (σ := Nat × ((List DRow)) × (Option Addr × Nat)) (fun s => [(0, .slice A2 x0.length c3), (3, .slice s.2.2.1 s.2.1.length s.2.2.2), (4, .int .i64 ((s.1 : Nat) : Int))]) (fun s => [iOwn (tSl tyRow 138) [.slice s.2.2.1 s.2.1.length s.2.2.2] s.2.1]) (fun s => s.1 ≤ x0.length ∧ R2 (x0.length - s.1) s.1 s.2.1 = R2 (x0.length - 0) 0 [] ∧ s.2.1.length ≤ 0 + s.1) (fun s => x0.length - s.1) (0, [], ((some ⟨p7, 0, none⟩), 0)) sl3 (fun W hm => hm) ⟨(by omega), rfl, Nat.le_refl _⟩ ?_
 rintro ⟨k9, d10, ⟨A11, c12⟩⟩ H15
 obtain ⟨hk13, hF14, hi16⟩ : k9 ≤ x0.length ∧ R2 (x0.length - k9) k9 d10 = R2 (x0.length - 0) 0 [] ∧ d10.length ≤ 0 + k9 := H15
 show CM Tryz.prog 21 _ _ _ _ [(0, .slice A2 x0.length c3), (3, .slice A11 d10.length c12), (4, .int .i64 ((k9 : Nat) : Int))] [iOwn (tSl tyRow 138) [.slice A11 d10.length c12] d10]
 refine CM_seq (sr (wm (wm ?_)))
 refine wv (vlen underlying91) ?_
 refine wv vlss ?_
 refine nt' ?_
 by_cases hl17 : k9 < x0.length
 ·have g18 : (decide (((k9 : Nat) : Int) < ((x0.length : Nat) : Int))) = true := decide_eq_true (by omega)
  refine CM_condT rfl g18 ?_
  refine CM_skip (QM_then (CM_seq (CM_block (CM_region (wm (wm (wm ?_)))))))
  obtain ⟨a19, rfl, hb20, he21⟩ := q4 (by omega)
  refine wv (vix 2 k9 underlying91 type138) ?_
  obtain ⟨_, e25, hc22⟩ := he21 k9 _ (gt_some (show k9 < x0.length from by omega))
  obtain ⟨v23, rfl, r24⟩ := tyRow_rd e25
  have l26 : ((gt x0 k9).Values).length ≤ 68719476736 := (s_0.2 _ (gt_mem (show k9 < x0.length from by omega)))
  have r31 := r24
  obtain ⟨m27, A28, c29, rfl, q30⟩ := r24
  refine wv (fun W hm => rv_loadN (cs := [.int .i64 ((gt x0 k9).Id), .slice A28 ((gt x0 k9).Values).length c29]) underlying138 type138 rfl rfl (hm.elCells (show (a19.add (k9 * 2)).block < w.heap.size from by rw [add_block]; exact hb20.1) hc22)) ?_
  refine wcs tyRow (gt x0 k9) (cl_fn cb91 rfl) (fun W hm => spec_l3Copy_c2 W _ (gt x0 k9) (tyRow_mk (x := (gt x0 k9)) (hm.rdS0 r31)) (s_0.2 _ (gt_mem (show k9 < x0.length from by omega)))) (fun z32 => ?_)
  refine tyRow_sp ?_
  rintro v33 rfl
  refine WM_form (n := 0) rfl ?_
  rintro A34 c35 rfl m36
  let K3 : List Value := [.int .i64 ((gt x0 k9).Id), .slice A34 ((gt x0 k9).Values).length c35]
  refine WM_build (cs := K3) underlying91 type138 rfl (by decide) (by decide) rfl (by kernel_rfl) (Wd_none rfl) (by decide) (fun p38 => ?_)
  refine ap1 tyRow 138 (.slice A11 d10.length c12) d10 (gt x0 k9) [iOwn (tSl tInt 3) [.slice A34 ((gt x0 k9).Values).length c35] ((gt x0 k9).Values)] [] K3 (pk [0, 2, 1]) (fun _ _ hs => Els.single (tyRow_join (x := (gt x0 k9)) hs)) underlying91 type138 (show (d10.length + 1) * 32 ≤ 140737488355328 from by omega) (fun v39 => ?_)
  refine WM_form (n := 0) rfl ?_
  rintro A40 c41 rfl m42
  refine wa (WM_nil (QM_block_normal (QM_then (CM_region (wm ?_)))))
  refine wv (vadN k9 1 (by omega)) ?_
  refine wa (WM_nil ?_)
  have hn44 := rng_next (R := (List DRow)) (body := F1) (k := k9) (s := d10) (s' := (d10 ++ [(gt x0 k9)])) (show k9 < x0.length from by omega) (show spec_l9Rows_b1 x0 k9 d10 = Sum.inr (d10 ++ [(gt x0 k9)]) from by unfold spec_l9Rows_b1; exact rfl) hF14
  exact QM_round (k9 + 1, (d10 ++ [(gt x0 k9)]), (A40, c41)) sl3 (fun W hm => hm) ⟨(by omega), hn44, (show (d10 ++ [(gt x0 k9)]).length ≤ 0 + (k9 + 1) from by first | omega | (simp only [List.length_append, List.length_cons, List.length_nil] at *; omega))⟩ (rl (by omega))
 ·have g18 : (decide (((k9 : Nat) : Int) < ((x0.length : Nat) : Int))) = false := decide_eq_false (by omega)
  refine CM_condF rfl g18 ?_
  refine CM_exit (QM_then_exit (QM_then_exit ?_))
  have hE45 : R2 (x0.length - 0) 0 [] = Sum.inr d10 := rng_end hl17 hF14
  refine QM_block_hit (QM_then (sr (wm (wa (nt' (CM_ret ?_))))))
  refine QM_r1 rfl (RR_tmp rfl) (fun W hm => ⟨.slice A11 d10.length c12, ?_, ?_⟩)
  ·first | rw [(show spec_l9Rows_m x0 = d10 from by unfold spec_l9Rows_m; exact fin_inr hE45 (rfl))] | rfl
  ·rw [(show spec_l9Rows_m x0 = d10 from by unfold spec_l9Rows_m; exact fin_inr hE45 (rfl))]; exact hm
theorem spec_l9Rows_eq (x0 : (List DRow)) : spec_l9Rows_m x0 = x0 := by
 unfold spec_l9Rows_m; rw [rng_app (xs := x0) (b := fun k s => spec_l9Rows_b1 x0 k s) (fun _ _ => rfl)]; rfl
theorem spec_l9Rows_c2 (w : World) (z0 : Value) (x0 : (List DRow)) (r_0 : rdS tyRow w w.heap.size z0 x0) (s_0 : (x0.length ≤ 68719476736 ∧ ∀ y ∈ x0, smRow 68719476736 y)) :
  Calls Tryz.prog 63 #[z0] w fun e w' => ∃ v : Value, e = .returned (v) ∧ Mem w.heap.size w [iOwn (tSl tyRow 138) [v] x0] w' := by
 have h := spec_l9Rows_c w z0 x0 r_0 s_0
 rw [spec_l9Rows_eq] at h
 exact h

end Go.Proofs.YtlnblljlkeokjaaGreat
